/- Several texts of this claim, one behind the other. -/
import Derived.Test.YtilfcikhipadpaaGreatDoorK5b

section
/- A run reckoned by the kernel: what calls and pieces of code do with blocks that are there: contracts, and loops. No program. -/
set_option linter.unusedVariables false
set_option linter.unusedSimpArgs false
namespace Go.Proofs.YtilfcikhipadpaaGreatDoor
open Go.RowKit Go.Lib
namespace Rx
variable {P : Program} {A : Amb}

/-! ### which names are in a value -/
def inA (p : Nat → Bool) : Option Addr → Bool
  | some ⟨b, _, some _⟩ => p b
  | _ => true
def inS (p : Nat → Bool) : Value → Bool
  | .pointer a => inA p a
  | .slice a _ _ => inA p a
  | _ => true
def in0 (p : Nat → Bool) : Value → Bool
  | .func _ x y => x.toList.all (inS p) && y.toList.all (inS p)
  | v => inS p v
def in1 (p : Nat → Bool) : Value → Bool
  | .agg cs => cs.toList.all (in0 p)
  | v => in0 p v
def inP (p : Nat → Bool) : Value → Bool
  | .tuple vs => vs.toList.all (in1 p)
  | v => in1 p v
theorem renS_in {p : Nat → Bool} {v : Value} (h : inS p v = true) {ρ ρ' : Nm} (k : ∀ i, p i = true → ρ i = ρ' i) : renS ρ v = renS ρ' v := by
  cases v <;> try rfl
  case pointer a =>
    cases a with
    | none => rfl
    | some a =>
      obtain ⟨b, o, s⟩ := a
      cases s with
      | none => rfl
      | some s =>
        have : p b = true := h
        simp only [renS, renA, k b this]
  case slice a m c =>
    cases a with
    | none => rfl
    | some a =>
      obtain ⟨b, o, s⟩ := a
      cases s with
      | none => rfl
      | some s =>
        have : p b = true := h
        have k := k b this
        match s with
        | 0 => simp only [renS, renB, capA, k]
        | 1 => simp only [renS, renB, capA, k]
        | 2 => simp only [renS, renB, capA, k]
        | s + 3 => simp only [renS, renB, capA, k]
theorem map_in {f f' : Value → Value} {p : Value → Bool} (hf : ∀ v, p v = true → f v = f' v) {xs : Array Value} (h : xs.toList.all p = true) : (xs.toList.map f).toArray = (xs.toList.map f').toArray := by
  rw [List.map_congr_left (fun v hv => hf v (List.all_eq_true.1 h v hv))]
theorem ren0_inP {p : Nat → Bool} {v : Value} (h : in0 p v = true) {ρ ρ' : Nm} (k : ∀ i, p i = true → ρ i = ρ' i) : ren0 ρ v = ren0 ρ' v := by
  cases v
  case func f x y =>
    simp only [in0, Bool.and_eq_true] at h
    simp only [ren0]
    rw [map_in (fun v hv => renS_in hv k) h.1, map_in (fun v hv => renS_in hv k) h.2]
  all_goals (first | rfl | (simp only [ren0, in0] at h ⊢; exact renS_in h k))
theorem ren1_in {p : Nat → Bool} {v : Value} (h : in1 p v = true) {ρ ρ' : Nm} (k : ∀ i, p i = true → ρ i = ρ' i) : ren1 ρ v = ren1 ρ' v := by
  cases v
  case agg cs =>
    simp only [ren1]
    rw [map_in (fun v hv => ren0_inP hv k) h]
  all_goals (first | rfl | (simp only [ren1, in1] at h ⊢; exact ren0_inP h k))
theorem ren_inP {p : Nat → Bool} {v : Value} (h : inP p v = true) {ρ ρ' : Nm} (k : ∀ i, p i = true → ρ i = ρ' i) : ren ρ v = ren ρ' v := by
  cases v
  case tuple vs =>
    simp only [ren]
    rw [map_in (fun v hv => ren1_in hv k) h]
  all_goals (first | rfl | (simp only [ren, inP] at h ⊢; exact ren1_in h k))
theorem Fit.of_inP {p : Nat → Bool} {v : Value} (h : inP p v = true) : Fit (fun i => p i = true) v := fun _ _ k => ren_inP h k
theorem Fit0.of_inP {p : Nat → Bool} {v : Value} (h : in0 p v = true) : Fit0 (fun i => p i = true) v := fun _ _ k => ren0_inP h k
def ltB (n : Nat) (b : Nat) : Bool := Nat.blt b n
theorem ltB_iff {n b : Nat} : ltB n b = true ↔ b < n := by simp [ltB, Nat.blt_eq]
def inV (n : Nat) : Value → Bool := inP (ltB n)
def inC (n : Nat) : Value → Bool := in0 (ltB n)
theorem ren_in {n : Nat} {v : Value} (h : inV n v = true) {ρ ρ' : Nm} (k : ∀ i, i < n → ρ i = ρ' i) : ren ρ v = ren ρ' v := ren_inP h fun i hi => k i (ltB_iff.1 hi)
theorem ren0_in {n : Nat} {v : Value} (h : inC n v = true) {ρ ρ' : Nm} (k : ∀ i, i < n → ρ i = ρ' i) : ren0 ρ v = ren0 ρ' v := ren0_inP h fun i hi => k i (ltB_iff.1 hi)
theorem Fit.of_in {n : Nat} {v : Value} (h : inV n v = true) : Fit (fun i => i < n) v := fun _ _ k => ren_in h k
theorem Fit0.of_in {n : Nat} {v : Value} (h : inC n v = true) : Fit0 (fun i => i < n) v := fun _ _ k => ren0_in h k
open Classical in
theorem Fit.inter {D E : Nat → Prop} {v : Value} (h : Fit D v) (k : Fit E v) : Fit (fun i => D i ∧ E i) v := fun ρ ρ' hk => by
  refine (h ρ (fun i => if D i then ρ i else ρ' i) fun i hi => by simp [hi]).trans (k _ ρ' fun i hi => ?_)
  by_cases hd : D i
  · simp only [hd, if_true]; exact hk i ⟨hd, hi⟩
  · simp [hd]
open Classical in
theorem Fit0.inter {D E : Nat → Prop} {v : Value} (h : Fit0 D v) (k : Fit0 E v) : Fit0 (fun i => D i ∧ E i) v := fun ρ ρ' hk => by
  refine (h ρ (fun i => if D i then ρ i else ρ' i) fun i hi => by simp [hi]).trans (k _ ρ' fun i hi => ?_)
  by_cases hd : D i
  · simp only [hd, if_true]; exact hk i ⟨hd, hi⟩
  · simp [hd]

/-! ### memories as lists -/
theorem add_none : ∀ (l : List (Nat × Blk)) (m : Mem) (i : Nat) (b : Blk), m.add (l.map (fun e => (e.1, (none : Option Blk)))) i = some b → m i = some b ∧ ∀ e ∈ l, e.1 ≠ i
  | [], m, i, b, h => ⟨h, fun _ h => by cases h⟩
  | e :: l, m, i, b, h => by
    simp only [List.map_cons, Mem.add, Mem.put] at h
    cases hij : Nat.beq i e.1 <;> simp only [hij, cond] at h
    · obtain ⟨h1, h2⟩ := add_none l m i b h
      refine ⟨h1, fun x hx => ?_⟩
      rcases List.mem_cons.1 hx with rfl | hx
      · exact fun e => Nat.ne_of_beq_eq_false hij e.symm
      · exact h2 x hx
    · cases h
theorem memL_mem : ∀ {l : List (Nat × Blk)} {i : Nat} {b : Blk}, memL l i = some b → (i, b) ∈ l
  | [], i, b, h => by cases h
  | e :: l, i, b, h => by
    obtain ⟨j, c⟩ := e
    simp only [memL, Mem.put] at h
    cases hij : Nat.beq i j <;> simp only [hij, cond] at h
    · exact List.mem_cons_of_mem _ (memL_mem h)
    · simp only [Option.some.injEq] at h
      rw [Nat.eq_of_beq_eq_true hij, h]; simp
theorem outLog_eq (sn out : List (Nat × Blk)) : (memL sn).add (outLog sn out) = memL out := by
  have h0 : ∀ i, (memL sn).add (sn.map (fun e => (e.1, (none : Option Blk)))) i = none := fun i => by
    cases h : (memL sn).add (sn.map (fun e => (e.1, (none : Option Blk)))) i with
    | none => rfl
    | some b =>
      obtain ⟨h1, h2⟩ := add_none sn (memL sn) i b h
      exact absurd rfl (h2 _ (memL_mem h1))
  unfold outLog
  rw [← add_append]
  generalize (memL sn).add (sn.map (fun e => (e.1, (none : Option Blk)))) = m at h0
  induction out with
  | nil => funext i; exact h0 i
  | cons e out ih =>
    simp only [List.map_cons, Mem.add, memL]
    rw [ih]
theorem Aft.sub {D : Nat → Prop} {ρ ρ' : Nm} {m : Mem} {nx nx' : Nat} {w w' : World} {v : Value} {l l' : Log} (k : Aft P A D ρ m nx w v l nx' ρ' w') (hs : ∀ i b, m.add l' i = some b → m.add l i = some b) : Aft P A D ρ m nx w v l' nx' ρ' w' :=
  ⟨k.same, k.fit, k.mem.sub hs, k.kept, fun i b h1 h2 e => k.new i b h1 h2 (hs _ _ e)⟩

/-! ### a contract of a function, reckoned by the kernel -/
def resM (P : Program) (f : FuncId) (args : List Value) (sn : List (Nat × Blk)) (nx : Nat) (qs : List (Nat × Ans)) (ids : List Nat) : Option (Value × List (Nat × Blk) × Nat × List (Nat × Ans) × List Key) :=
  match callN P fuel0 f args (memL sn) nx ⟨0, qs, []⟩ with
  | some ⟨v, log, nx', ts⟩ => match snapA ((memL sn).add log) ids with
    | some out => some (v, out, nx', ts.qs, ts.ks)
    | none => none
  | none => none
theorem con {f : FuncId} {args : List Value} {sn : List (Nat × Blk)} {nx : Nat} {v : Value} {out : List (Nat × Blk)} {nx' : Nat} (evs : List (Ev P A)) (h : resM P f args sn nx (asOf evs) (out.map (·.1)) = some (v, out, nx', [], (keysOf evs).reverse) := by kernel_rfl) (hm : P.follows .mixedOrders = true := by kernel_rfl) :
    CallJ P A f args sn nx v out nx' := by
  unfold resM at h
  split at h
  · rename_i v' l nx1 ts hgo
    split at h
    · rename_i out' hsn
      simp only [Option.some.injEq, Prod.mk.injEq] at h
      obtain ⟨rfl, rfl, rfl, h1, h2⟩ := h
      obtain ⟨_, _, _, tr, ⟨t1, t2⟩, hs⟩ := callN_S (A := A) hm fuel0 f args _ nx ⟨0, asOf evs, []⟩ _ hgo
      have t1 : asOf evs = tr.map (·.1) := by rw [h1] at t1; simpa using t1
      have t2 : keysOf evs = tr.map (·.2) := by
        rw [h2] at t2
        have := congrArg List.reverse t2
        simpa using this
      have hc := hs (ok_all t1 t2)
      intro D ρ w hmem hf hd
      refine (hc D ρ w hmem hf hd).mono ?_
      rintro e w' ⟨ρ', rfl, k⟩
      refine ⟨ρ', rfl, k.sub fun i b hi => ?_⟩
      rw [outLog_eq] at hi
      exact (memL_snap hsn).2.1 i b hi
    · cases h
  · cases h

/-! ### pieces of code -/
def resC (P : Program) (c : Code) (n : Nat) (vals : List (Nat × Value)) (sn : List (Nat × Blk)) (nx : Nat) (qs : List (Nat × Ans)) (slots ids : List Nat) : Option (X × List (Nat × Value) × List (Nat × Blk) × Nat × List (Nat × Ans) × List Key) :=
  match exec P (callN P fuel0) fuel0 c ⟨envL vals, n, memL sn, [], nx, ⟨0, qs, []⟩⟩ with
  | some (x, st) => match look st.env slots with
    | some vs => match snapA st.mem ids with
      | some out => some (x, vs, out, st.nx, st.ts.qs, st.ts.ks)
      | none => none
    | none => none
  | none => none
theorem code {c : Code} {n : Nat} {vals vals' : List (Nat × Value)} {sn out : List (Nat × Blk)} {nx nx' : Nat} {x : X} (evs : List (Ev P A)) (h : resC P c n vals sn nx (asOf evs) (vals'.map (·.1)) (out.map (·.1)) = some (x, vals', out, nx', [], (keysOf evs).reverse) := by kernel_rfl) (hm : P.follows .mixedOrders = true := by kernel_rfl) :
    CodeJ P A c n vals sn nx x vals' out nx' := by
  unfold resC at h
  split at h
  · rename_i x' st hgo
    split at h
    · rename_i vs hvs
      split at h
      · rename_i out' hsn
        simp only [Option.some.injEq, Prod.mk.injEq] at h
        obtain ⟨rfl, rfl, rfl, rfl, h1, h2⟩ := h
        obtain ⟨ex, tr, ⟨t1, t2⟩, hs⟩ := exec_S (A := A) hm (callN_S hm fuel0) fuel0 c _ _ _ hgo
        have t1 : asOf evs = tr.map (·.1) := by rw [h1] at t1; simpa using t1
        have t2 : keysOf evs = tr.map (·.2) := by
          rw [h2] at t2
          have := congrArg List.reverse t2
          simpa using this
        have hc := hs (ok_all t1 t2)
        intro D ρ a w Q hf hsz hdf hmem hd hk
        refine hc D ρ a w Q ⟨fun t u _ hu => hf t u hu, hsz, hdf, hmem⟩ hd fun ρ' a' w' k => hk ρ' a' w' (fun t u hu => k.ok.fr t u trivial (look_spec hvs t u hu)) (k.ok.size.trans ex.n) k.ok.defers ?_
        refine ⟨k.same, Fit.real rfl, k.ok.mem.sub fun i b hi => ?_, k.kept, fun i b h1 h2 hi => k.new i b h1 h2 ?_⟩
        · rw [outLog_eq] at hi
          exact (memL_snap hsn).2.1 i b hi
        · rw [outLog_eq] at hi
          exact (memL_snap hsn).2.1 i b hi
      · cases h
    · cases h
  · cases h
def inVals (n : Nat) (l : List (Nat × Value)) : Bool := l.all fun e => inV n e.2
def inBlks (n : Nat) (l : List (Nat × Blk)) : Bool := l.all fun e => Nat.blt e.1 n && e.2.1.all (inC n)
theorem envL_mem : ∀ {l : List (Nat × Value)} {t : Nat} {u : Value}, envL l t = some u → (t, u) ∈ l
  | [], _, _, h => by cases h
  | e :: l, i, b, h => by
    obtain ⟨j, c⟩ := e
    simp only [envL, Env.put] at h
    cases hij : Nat.beq i j <;> simp only [hij, cond] at h
    · exact List.mem_cons_of_mem _ (envL_mem h)
    · simp only [Option.some.injEq] at h
      rw [Nat.eq_of_beq_eq_true hij, h]; simp
theorem inBlks_spec {n : Nat} {l : List (Nat × Blk)} (h : inBlks n l = true) {i : Nat} {cs : List Value} {T : TypeId} {r : Bool} (k : memL l i = some (cs, T, r)) : i < n ∧ ∀ v ∈ cs, inC n v = true := by
  have := List.all_eq_true.1 h _ (memL_mem k)
  simp only [Bool.and_eq_true] at this
  exact ⟨by simpa [Nat.blt_eq] using this.1, fun v hv => List.all_eq_true.1 this.2 v hv⟩
/-- the names of a piece's own blocks are free again, if none of them is left -/
theorem CodeJ.drop {c : Code} {n : Nat} {vals vals' : List (Nat × Value)} {sn out : List (Nat × Blk)} {nx nx' : Nat} {x : X} (h : CodeJ P A c n vals sn nx x vals' out nx')
    (h1 : inVals nx vals = true := by kernel_rfl) (h2 : inBlks nx sn = true := by kernel_rfl) (h3 : inVals nx vals' = true := by kernel_rfl) (h4 : inBlks nx out = true := by kernel_rfl) : CodeJ P A c n vals sn nx x vals' out nx := by
  intro D ρ a w Q hf hsz hdf hmem hd hk
  have fv : ∀ {l : List (Nat × Value)}, inVals nx l = true → ∀ {t u}, envL l t = some u → Fit (fun i => i < nx) u := fun {l} hl {t u} hu => Fit.of_in (List.all_eq_true.1 hl _ (envL_mem hu))
  refine h (fun i => D i ∧ i < nx) ρ a w Q (fun t u hu => ⟨(hf t u hu).1, (hf t u hu).2.inter (fv h1 hu)⟩) hsz hdf
    ⟨hmem.s, fun {i b} e => ⟨⟨(hmem.dom e).1, (inBlks_spec h2 (cs := b.1) (T := b.2.1) (r := b.2.2) e).1⟩, (hmem.dom e).2⟩, fun {i cs T r} e v hv => (hmem.fit e v hv).inter (Fit0.of_in ((inBlks_spec h2 e).2 v hv)), hmem.lies, hmem.inj⟩
    (fun i hi k => by omega) fun ρ' a' w' hf' hsz' hdf' k => ?_
  have hρ : ∀ i, i < nx → ρ' i = ρ i := fun i hi => k.same i (by omega)
  have kin : ∀ {i : Nat} {b : Blk}, (memL sn).add (outLog sn out) i = some b → i < nx ∧ ∀ v ∈ b.1, inC nx v = true := fun {i b} e => by
    rw [outLog_eq] at e
    exact inBlks_spec h4 (cs := b.1) (T := b.2.1) (r := b.2.2) e
  refine hk ρ a' w' (fun t u hu => ?_) hsz' hdf' ⟨fun _ _ => rfl, Fit.real rfl, ⟨k.mem.s, fun {i b} e => ?_, fun {i cs T r} e v hv => ?_, fun {i cs T r} e => ?_, fun {i j b c} e f hij => ?_⟩, k.kept, fun i b h1 h2 => by omega⟩
  · have e1 := hf' t u hu
    refine ⟨by rw [e1.1]; exact congrArg some (fv h3 hu ρ' ρ fun i hi => hρ i hi), (e1.2.inter (fv h3 hu)).mono fun i hi => ?_⟩
    obtain ⟨(hi | hi), hlt⟩ := hi
    · exact Or.inl hi.1
    · omega
  · have hlt := (kin e).1
    have := k.mem.dom e
    rw [hρ i hlt] at this
    refine ⟨?_, this.2⟩
    rcases this.1 with hi | hi
    · exact Or.inl hi.1
    · omega
  · refine ((k.mem.fit e v hv).inter (Fit0.of_in ((kin e).2 v hv))).mono fun i hi => ?_
    obtain ⟨(hi | hi), hlt⟩ := hi
    · exact Or.inl hi.1
    · omega
  · have := k.mem.lies e
    rw [hρ i (kin e).1] at this
    exact this.ren (D := fun i => i < nx) (fun v hv => Fit0.of_in ((kin e).2 v hv)) hρ
  · have := k.mem.inj e f hij
    rwa [hρ i (kin e).1, hρ j (kin f).1] at this

/-- the names of a call's own blocks are free again, if none of them is left -/
theorem CallJ.drop {f : FuncId} {args : List Value} {sn out : List (Nat × Blk)} {nx nx' : Nat} {v : Value} (h : CallJ P A f args sn nx v out nx')
    (h1 : args.all (inV nx) = true := by kernel_rfl) (h2 : inBlks nx sn = true := by kernel_rfl) (h3 : inV nx v = true := by kernel_rfl) (h4 : inBlks nx out = true := by kernel_rfl) : CallJ P A f args sn nx v out nx := by
  intro D ρ w hmem hf hd
  refine (h (fun i => D i ∧ i < nx) ρ w
    ⟨hmem.s, fun {i b} e => ⟨⟨(hmem.dom e).1, (inBlks_spec h2 (cs := b.1) (T := b.2.1) (r := b.2.2) e).1⟩, (hmem.dom e).2⟩, fun {i cs T r} e v hv => (hmem.fit e v hv).inter (Fit0.of_in ((inBlks_spec h2 e).2 v hv)), hmem.lies, hmem.inj⟩
    (fun u hu => (hf u hu).inter (Fit.of_in (List.all_eq_true.1 h1 u hu))) (fun i hi k => by omega)).mono ?_
  rintro e w' ⟨ρ', rfl, k⟩
  have hρ : ∀ i, i < nx → ρ' i = ρ i := fun i hi => k.same i (by omega)
  have kin : ∀ {i : Nat} {b : Blk}, (memL sn).add (outLog sn out) i = some b → i < nx ∧ ∀ v ∈ b.1, inC nx v = true := fun {i b} e => by
    rw [outLog_eq] at e
    exact inBlks_spec h4 (cs := b.1) (T := b.2.1) (r := b.2.2) e
  refine ⟨ρ, congrArg Ending.returned (ren_in h3 hρ), fun _ _ => rfl, ?_, ⟨k.mem.s, fun {i b} e => ?_, fun {i cs T r} e v hv => ?_, fun {i cs T r} e => ?_, fun {i j b c} e f hij => ?_⟩, k.kept, fun i b h1 h2 => by omega⟩
  · refine (k.fit.inter (Fit.of_in h3)).mono fun i hi => ?_
    obtain ⟨(hi | hi), hlt⟩ := hi
    · exact Or.inl hi.1
    · omega
  · have hlt := (kin e).1
    have := k.mem.dom e
    rw [hρ i hlt] at this
    refine ⟨?_, this.2⟩
    rcases this.1 with hi | hi
    · exact Or.inl hi.1
    · omega
  · refine ((k.mem.fit e v hv).inter (Fit0.of_in ((kin e).2 v hv))).mono fun i hi => ?_
    obtain ⟨(hi | hi), hlt⟩ := hi
    · exact Or.inl hi.1
    · omega
  · have := k.mem.lies e
    rw [hρ i (kin e).1] at this
    exact this.ren (D := fun i => i < nx) (fun v hv => Fit0.of_in ((kin e).2 v hv)) hρ
  · have := k.mem.inj e f hij
    rwa [hρ i (kin e).1, hρ j (kin f).1] at this

/-! ### loops -/
def stJ (n : Nat) (vals : List (Nat × Value)) (sn : List (Nat × Blk)) (log : Log) (nx : Nat) : St := ⟨envL vals, n, memL sn, log, nx, ⟨0, [], []⟩⟩
theorem CodeJ.trans_aft {n : Nat} {v1 v2 : List (Nat × Value)} {s0 s1 s2 : List (Nat × Blk)} {n0 n1 n2 : Nat} {D : Nat → Prop} {ρ ρ1 ρ2 : Nm} {a1 a2 : Act} {w w1 w2 : World} (hn1 : n0 ≤ n1) (hn2 : n1 ≤ n2)
    (l1 : LogOK (memL s0) n0 n1 (outLog s0 s1)) (l2 : LogOK (memL s1) n1 n2 (outLog s1 s2)) (hm : MemOK P A D ρ (memL s0) w) (hD : ∀ i, D i → ¬ (n0 ≤ i ∧ i < n2))
    (f1 : FrL (ext D n0 n1) ρ1 v1 a1) (z1 : a1.tmps.size = n) (d1 : a1.defers = []) (k1 : Aft P A D ρ (memL s0) n0 w undef (outLog s0 s1) n1 ρ1 w1)
    (f2 : FrL (ext (ext D n0 n1) n1 n2) ρ2 v2 a2) (z2 : a2.tmps.size = n) (d2 : a2.defers = []) (k2 : Aft P A (ext D n0 n1) ρ1 (memL s1) n1 w1 undef (outLog s1 s2) n2 ρ2 w2) :
    FrL (ext D n0 n2) ρ2 v2 a2 ∧ Aft P A D ρ (memL s0) n0 w undef (outLog s0 s2) n2 ρ2 w2 := by
  have m1 := k1.mem
  have m2 := k2.mem
  rw [outLog_eq] at m1 m2
  have h := StAft.trans (P := P) (A := A) (s0 := stJ n [] s0 [] n0) (s1 := stJ n v1 s1 (outLog s0 s1) n1) (s2 := stJ n v2 s2 (outLog s1 s2 ++ outLog s0 s1) n2) (a1 := a1) (a2 := a2)
    ⟨hn1, rfl, outLog s0 s1, (outLog_eq s0 s1).symm, l1, by simp [stJ]⟩ ⟨hn2, rfl, outLog s1 s2, (outLog_eq s1 s2).symm, l2, rfl⟩ hm hD
    ⟨k1.same, ⟨fun t u _ hu => f1 t u hu, z1, d1, m1⟩, k1.kept, fun i b h1 h2 e => k1.new i b h1 h2 (by rw [outLog_eq]; exact e)⟩
    ⟨k2.same, ⟨fun t u _ hu => f2 t u hu, z2, d2, m2⟩, k2.kept, fun i b h1 h2 e => k2.new i b h1 h2 (by rw [outLog_eq]; exact e)⟩
  refine ⟨fun t u hu => h.ok.fr t u trivial hu, h.same, Fit.real rfl, ?_, h.kept, fun i b h1 h2 e => h.new i b h1 h2 (by rw [outLog_eq] at e; exact e)⟩
  rw [outLog_eq]; exact h.ok.mem
theorem memL_isSome : ∀ {l : List (Nat × Blk)} {i : Nat}, i ∈ l.map (·.1) → (memL l i).isSome = true
  | [], i, h => by cases h
  | e :: l, i, h => by
    obtain ⟨j, c⟩ := e
    simp only [memL, Mem.put]
    cases hij : Nat.beq i j <;> simp only [cond]
    · rcases List.mem_cons.1 h with rfl | h
      · simp at hij
      · exact memL_isSome h
    · rfl
theorem outLog_ok2 {sn out : List (Nat × Blk)} {nx d : Nat} (h : outOK (sn.map (·.1)) nx d out = true) : LogOK (memL sn) nx (nx + d) (outLog sn out) := by
  intro e he
  rcases List.mem_append.1 he with he | he
  · obtain ⟨x, hx, rfl⟩ := List.mem_map.1 he
    have := List.all_eq_true.1 h x hx
    rw [Bool.or_eq_true, Bool.and_eq_true] at this
    rcases this with h | ⟨h, h'⟩
    · exact Or.inl (memL_isSome (has1_mem h))
    · exact Or.inr ⟨Nat.le_of_ble_eq_true h, by simpa [Nat.blt_eq] using h'⟩
  · obtain ⟨x, hx, rfl⟩ := List.mem_map.1 he
    exact Or.inl (memL_isSome (List.mem_map_of_mem hx))
theorem mem_has1 {l : List Nat} {x : Nat} (h : x ∈ l) : has1 l x = true := List.any_eq_true.2 ⟨x, h, by simp⟩
theorem outOK_same {ids : List Nat} {nx : Nat} {out : List (Nat × Blk)} (h : out.map (·.1) = ids) : outOK ids nx 0 out = true :=
  List.all_eq_true.2 fun e he => by rw [mem_has1 (by rw [← h]; exact List.mem_map_of_mem he)]; rfl
/-- a loop: k rounds, and a last one -/
theorem loopJ {c : Code} {n : Nat} (inv : Nat → List (Nat × Value)) (mem : Nat → List (Nat × Blk)) {nx d : Nat} {x : X} {vals' : List (Nat × Value)} {out : List (Nat × Blk)} (k : Nat) {ids : List Nat}
    (hr : ∀ i, i < k → CodeJ P A c n (inv i) (mem i) nx .nrm (inv (i + 1)) (mem (i + 1)) nx) (he : CodeJ P A c n (inv k) (mem k) nx x vals' out (nx + d))
    (hids : ∀ i, (mem i).map (·.1) = ids := by intro i; rfl) (ho : outOK ids nx d out = true := by kernel_rfl) (hx : x ≠ .nrm := by intro h; cases h) :
    CodeJ P A (.loop c) n (inv 0) (mem 0) nx x vals' out (nx + d) := by
  have key : ∀ (j i : Nat), i + j = k → ∀ (D : Nat → Prop) (ρ : Nm) (a : Act) (w : World) (Q : Exit → Act → World → Prop), FrL D ρ (inv i) a → a.tmps.size = n → a.defers = [] → MemOK P A D ρ (memL (mem i)) w → (∀ i, D i → ¬ (nx ≤ i ∧ i < nx + d)) →
      (∀ ρ' a' w', FrL (ext D nx (nx + d)) ρ' vals' a' → a'.tmps.size = n → a'.defers = [] → Aft P A D ρ (memL (mem i)) nx w undef (outLog (mem i) out) (nx + d) ρ' w' → Q (exitOf x) a' w') → wpL P c Q a w := by
    intro j
    induction j with
    | zero =>
      intro i hi D ρ a w Q hf hsz hdf hm hd hk
      rw [Nat.add_zero] at hi
      subst hi
      refine wpL_step (he D ρ a w _ hf hsz hdf hm hd fun ρ' a' w' g1 g2 g3 g4 => ?_)
      have := hk ρ' a' w' g1 g2 g3 g4
      cases x <;> first | exact absurd rfl hx | exact this
    | succ j ih =>
      intro i hi D ρ a w Q hf hsz hdf hm hd hk
      refine wpL_step (hr i (by omega) D ρ a w _ hf hsz hdf hm (fun i _ h => by omega) fun ρ1 a1 w1 g1 g2 g3 g4 => ?_)
      have m1 := g4.mem
      rw [outLog_eq] at m1
      refine ih (i + 1) (by omega) _ ρ1 a1 w1 Q g1 g2 g3 m1 (fun i hi h => ?_) fun ρ2 a2 w2 q1 q2 q3 q4 => ?_
      · rcases hi with hi | hi
        · exact hd i hi h
        · omega
      · obtain ⟨t1, t2⟩ := CodeJ.trans_aft (n := n) (Nat.le_refl _) (Nat.le_add_right _ _) (outLog_ok2 (d := 0) (by rw [hids]; exact outOK_same (hids (i + 1)))) (outLog_ok2 (by rw [hids]; exact ho)) hm hd g1 g2 g3 g4 q1 q2 q3 q4
        exact hk ρ2 a2 w2 t1 q2 q3 t2
  intro D ρ a w Q hf hsz hdf hm hd hk
  exact wp_of_wpL (key k 0 (by omega) D ρ a w Q hf hsz hdf hm hd hk)
end Rx
end Go.Proofs.YtilfcikhipadpaaGreatDoor
end

section
/- A run reckoned by the kernel: a contract under other names. No program. -/
set_option linter.unusedVariables false
set_option linter.unusedSimpArgs false
namespace Go.Proofs.YtilfcikhipadpaaGreatDoor
open Go.RowKit Go.Lib
namespace Rx
variable {P : Program} {A : Amb}

def idA (σ : Nat → Nat) : Option Addr → Option Addr
  | some ⟨b, o, some s⟩ => some ⟨σ b, o, some s⟩
  | a => a
def idS (σ : Nat → Nat) : Value → Value
  | .pointer a => .pointer (idA σ a)
  | .slice a n c => .slice (idA σ a) n c
  | v => v
def id0 (σ : Nat → Nat) : Value → Value
  | .func f x y => .func f (x.toList.map (idS σ)).toArray (y.toList.map (idS σ)).toArray
  | v => idS σ v
def id1 (σ : Nat → Nat) : Value → Value
  | .agg cs => .agg (cs.toList.map (id0 σ)).toArray
  | v => id0 σ v
def idV (σ : Nat → Nat) : Value → Value
  | .tuple vs => .tuple (vs.toList.map (id1 σ)).toArray
  | v => id1 σ v
def idB (σ : Nat → Nat) (e : Nat × Blk) : Nat × Blk := (σ e.1, e.2.1.map (id0 σ), e.2.2)
theorem renS_id (σ : Nat → Nat) (ρ : Nm) (v : Value) : renS ρ (idS σ v) = renS (fun i => ρ (σ i)) v := by
  cases v <;> try rfl
  case pointer a =>
    cases a with
    | none => rfl
    | some a =>
      obtain ⟨b, o, s⟩ := a
      cases s <;> rfl
  case slice a m c =>
    cases a with
    | none => rfl
    | some a =>
      obtain ⟨b, o, s⟩ := a
      cases s with
      | none => rfl
      | some s =>
        match s with
        | 0 => rfl
        | 1 => rfl
        | 2 => rfl
        | s + 3 => rfl
theorem map_id2 {f g h : Value → Value} (k : ∀ v, f (g v) = h v) (xs : Array Value) : (((xs.toList.map g).toArray).toList.map f).toArray = (xs.toList.map h).toArray := by
  simp only [List.map_map]
  congr 1
  exact List.map_congr_left fun v _ => k v
theorem ren0_id (σ : Nat → Nat) (ρ : Nm) (v : Value) : ren0 ρ (id0 σ v) = ren0 (fun i => ρ (σ i)) v := by
  cases v
  case func f x y =>
    simp only [id0, ren0]
    rw [map_id2 (renS_id σ ρ), map_id2 (renS_id σ ρ)]
  case pointer a => exact renS_id σ ρ (.pointer a)
  case slice a n c => exact renS_id σ ρ (.slice a n c)
  all_goals rfl
theorem ren1_id (σ : Nat → Nat) (ρ : Nm) (v : Value) : ren1 ρ (id1 σ v) = ren1 (fun i => ρ (σ i)) v := by
  cases v
  case agg cs =>
    simp only [id1, ren1]
    rw [map_id2 (ren0_id σ ρ)]
  case func f x y => exact ren0_id σ ρ (.func f x y)
  case pointer a => exact ren0_id σ ρ (.pointer a)
  case slice a n c => exact ren0_id σ ρ (.slice a n c)
  all_goals rfl
theorem ren_id (σ : Nat → Nat) (ρ : Nm) (v : Value) : ren ρ (idV σ v) = ren (fun i => ρ (σ i)) v := by
  cases v
  case tuple cs =>
    simp only [idV, ren]
    rw [map_id2 (ren1_id σ ρ)]
  case agg cs => exact ren1_id σ ρ (.agg cs)
  case func f x y => exact ren1_id σ ρ (.func f x y)
  case pointer a => exact ren1_id σ ρ (.pointer a)
  case slice a n c => exact ren1_id σ ρ (.slice a n c)
  all_goals rfl
theorem lies_id {σ : Nat → Nat} {ρ : Nm} {w : World} {b : Nat} {cs : List Value} {T : TypeId} {s κ : Nat} {r : Bool} : Lies ρ w b (cs.map (id0 σ)) T s κ r ↔ Lies (fun i => ρ (σ i)) w b cs T s κ r := by
  have : (cs.map (id0 σ)).map (ren0 ρ) = cs.map (ren0 fun i => ρ (σ i)) := by
    rw [List.map_map]
    exact List.map_congr_left fun v _ => ren0_id σ ρ v
  unfold Lies
  rw [this, List.length_map]
theorem memL_id {σ : Nat → Nat} {k : Nat} (hσ : ∀ i j, i < k → j < k → σ i = σ j → i = j) : ∀ {l : List (Nat × Blk)}, (∀ e ∈ l, e.1 < k) → (∀ i, i < k → memL (l.map (idB σ)) (σ i) = (memL l i).map (fun b => (b.1.map (id0 σ), b.2))) ∧
    ∀ j b, memL (l.map (idB σ)) j = some b → ∃ i c, i < k ∧ σ i = j ∧ memL l i = some c ∧ b = (c.1.map (id0 σ), c.2)
  | [], _ => ⟨fun _ _ => rfl, fun _ _ h => by cases h⟩
  | e :: l, hk => by
    obtain ⟨q, c⟩ := e
    obtain ⟨h1, h2⟩ := memL_id hσ (l := l) fun e he => hk e (by simp [he])
    have hq : q < k := hk (q, c) (by simp)
    refine ⟨fun i hi => ?_, fun j b hb => ?_⟩
    · simp only [List.map_cons, memL, idB, Mem.put]
      cases hb : Nat.beq i q
      · have : Nat.beq (σ i) (σ q) = false := by
          cases hb2 : Nat.beq (σ i) (σ q)
          · rfl
          · exact absurd (hσ i q hi hq (Nat.eq_of_beq_eq_true hb2)) (Nat.ne_of_beq_eq_false hb)
        rw [this]
        exact h1 i hi
      · rw [Nat.eq_of_beq_eq_true hb]
        simp
    · simp only [List.map_cons, memL, idB, Mem.put] at hb
      cases hj : Nat.beq j (σ q) <;> simp only [hj, cond] at hb
      · obtain ⟨i, c', hi, hs, hm, hbc⟩ := h2 j b hb
        refine ⟨i, c', hi, hs, ?_, hbc⟩
        simp only [memL, Mem.put]
        have : Nat.beq i q = false := by
          cases hb2 : Nat.beq i q
          · rfl
          · rw [← hs, Nat.eq_of_beq_eq_true hb2] at hj
            simp at hj
        rw [this]
        exact hm
      · simp only [Option.some.injEq] at hb
        refine ⟨q, c, hq, (Nat.eq_of_beq_eq_true hj).symm, ?_, hb.symm⟩
        simp [memL, Mem.put]
/-- names: of the k that are there by a list, of the new ones from nx on -/
def sig (τ : List Nat) (nx : Nat) (i : Nat) : Nat := match τ[i]? with | some j => j | none => i - τ.length + nx
theorem sig_lt {τ : List Nat} {nx i : Nat} (h : i < τ.length) : sig τ nx i = τ[i] := by simp [sig, h]
theorem sig_ge {τ : List Nat} {nx i : Nat} (h : τ.length ≤ i) : sig τ nx i = i - τ.length + nx := by
  unfold sig
  rw [List.getElem?_eq_none_iff.2 h]
/-- a contract under other names -/
theorem CallJ.at {f : FuncId} {args : List Value} {sn out : List (Nat × Blk)} {v : Value} {k d : Nat} (h : CallJ P A f args sn k v out (k + d)) (τ : List Nat) (nx : Nat)
    (hk : sn.map (·.1) = List.range k := by kernel_rfl) (hl : τ.length = k := by kernel_rfl) (hnd : τ.all (fun j => Nat.blt j nx) = true := by kernel_rfl) (hn : τ.Nodup := by decide)
    (h1 : args.all (inV k) = true := by kernel_rfl) (h2 : inBlks k sn = true := by kernel_rfl) (h3 : inV (k + d) v = true := by kernel_rfl) (h4 : inBlks (k + d) out = true := by kernel_rfl) :
    CallJ P A f (args.map (idV (sig τ nx))) (sn.map (idB (sig τ nx))) nx (idV (sig τ nx) v) (out.map (idB (sig τ nx))) (nx + d) := by
  subst hl
  have hlt : ∀ i, (hi : i < τ.length) → τ[i] < nx := fun i hi => by simpa [Nat.blt_eq] using List.all_eq_true.1 hnd τ[i] (List.getElem_mem hi)
  have hin : ∀ i j, sig τ nx i = sig τ nx j → i = j := fun i j e => by
    by_cases hi : i < τ.length <;> by_cases hj : j < τ.length
    · rw [sig_lt hi, sig_lt hj] at e
      exact (List.getElem_inj hn).1 e
    · rw [sig_lt hi, sig_ge (by omega)] at e
      have := hlt i hi
      omega
    · rw [sig_ge (by omega), sig_lt hj] at e
      have := hlt j hj
      omega
    · rw [sig_ge (by omega), sig_ge (by omega)] at e
      omega
  have hge : ∀ i, τ.length ≤ i → nx ≤ sig τ nx i ∧ sig τ nx i = i - τ.length + nx := fun i hi => by rw [sig_ge hi]; omega
  have hrev : ∀ j, nx ≤ j → sig τ nx (j - nx + τ.length) = j := fun j hj => by rw [sig_ge (by omega)]; omega
  generalize hσ : sig τ nx = σ at *
  have hin' : ∀ (q : Nat) (i j : Nat), i < q → j < q → σ i = σ j → i = j := fun _ i j _ _ e => hin i j e
  have k1 : ∀ e ∈ sn, e.1 < τ.length := fun e he => by
    have : e.1 ∈ sn.map (·.1) := List.mem_map_of_mem he
    rw [hk] at this
    exact List.mem_range.1 this
  have k2 : ∀ i, i < τ.length → ∃ b, memL sn i = some b := fun i hi => Option.isSome_iff_exists.1 (memL_isSome (by rw [hk]; exact List.mem_range.2 hi))
  obtain ⟨m1, m2⟩ := memL_id (hin' τ.length) k1
  obtain ⟨o1, o2⟩ := memL_id (hin' (τ.length + d)) (l := out) fun e he => (by
    have := List.all_eq_true.1 h4 e he
    simp only [Bool.and_eq_true] at this
    simpa [Nat.blt_eq] using this.1)
  intro D ρ w hm hf hd
  have hm0 : ∀ {i : Nat} {b : Blk}, memL sn i = some b → i < τ.length ∧ memL (sn.map (idB σ)) (σ i) = some (b.1.map (id0 σ), b.2) := fun {i b} e => by
    have := k1 _ (memL_mem e)
    exact ⟨this, by rw [m1 i this, e]; rfl⟩
  have hM : MemOK P A (fun i => i < τ.length) (fun i => ρ (σ i)) (memL sn) w :=
    ⟨hm.s, fun e => ⟨(hm0 e).1, (hm.dom (hm0 e).2).2⟩, fun {i cs T r} e v hv => Fit0.of_in ((inBlks_spec h2 e).2 v hv), fun {i cs T r} e => lies_id.1 (hm.lies (hm0 e).2), fun {i j b c} e g hij => hm.inj (hm0 e).2 (hm0 g).2 fun he => hij (hin i j he)⟩
  have hr := h (fun i => i < τ.length) (fun i => ρ (σ i)) w hM (fun u hu => Fit.of_in (List.all_eq_true.1 h1 u hu)) (fun i hi e => by omega)
  have ha : args.map (ren fun i => ρ (σ i)) = (args.map (idV σ)).map (ren ρ) := by
    rw [List.map_map]
    exact List.map_congr_left fun u _ => (ren_id σ ρ u).symm
  rw [ha] at hr
  refine hr.mono ?_
  rintro e w' ⟨ρ0, rfl, g⟩
  have gm := g.mem
  have gn := g.new
  rw [outLog_eq] at gm gn
  have hD : ∀ i, i < τ.length → D (σ i) := fun i hi => by
    obtain ⟨b, hb⟩ := k2 i hi
    exact (hm.dom (hm0 hb).2).1
  obtain ⟨ρ', hρ'⟩ : ∃ ρ' : Nm, ρ' = fun j => if nx ≤ j ∧ j < nx + d then ρ0 (j - nx + τ.length) else ρ j := ⟨_, rfl⟩
  have same : ∀ i, ¬ (nx ≤ i ∧ i < nx + d) → ρ' i = ρ i := fun i hi => by rw [hρ']; simp only; rw [if_neg hi]
  have hσρ : ∀ i, i < τ.length + d → ρ' (σ i) = ρ0 i := fun i hi => by
    by_cases hit : i < τ.length
    · rw [same _ (hd _ (hD i hit))]
      exact (g.same i (by omega)).symm
    · obtain ⟨_, e2⟩ := hge i (by omega)
      rw [hρ']; simp only
      rw [if_pos (by omega)]
      congr 1
      omega
  have hx : ∀ i, i < τ.length + d → ext D nx (nx + d) (σ i) := fun i hi => by
    by_cases hit : i < τ.length
    · exact Or.inl (hD i hit)
    · obtain ⟨_, e2⟩ := hge i (by omega)
      exact Or.inr (by omega)
  have fit0 : ∀ {u : Value}, inC (τ.length + d) u = true → Fit0 (ext D nx (nx + d)) (id0 σ u) := fun hu ρ1 ρ2 hk => by
    rw [ren0_id, ren0_id]
    exact ren0_in hu fun i hi => hk _ (hx i hi)
  refine ⟨ρ', ?_, same, fun ρ1 ρ2 hk => ?_, ?_, ?_, fun j b j1 j2 e => ?_⟩
  · rw [ren_id]
    exact congrArg Ending.returned (ren_in h3 fun i hi => (hσρ i hi).symm)
  · rw [ren_id, ren_id]
    exact ren_in h3 fun i hi => hk _ (hx i hi)
  · rw [outLog_eq]
    have q : ∀ {j : Nat} {b : Blk}, memL (out.map (idB σ)) j = some b → ∃ i c, i < τ.length + d ∧ σ i = j ∧ memL out i = some c ∧ b = (c.1.map (id0 σ), c.2) := fun {j b} e => o2 j b e
    refine ⟨gm.s, fun {j b} e => ?_, fun {j cs T r} e v hv => ?_, fun {j cs T r} e => ?_, fun {i j b c} e e' hij => ?_⟩
    · obtain ⟨i, c, hi, rfl, hc, rfl⟩ := q e
      exact ⟨hx i hi, by rw [hσρ i hi]; exact (gm.dom hc).2⟩
    · obtain ⟨i, c, hi, rfl, hc, hb⟩ := q e
      obtain ⟨c1, c2, c3⟩ := c
      simp only [Prod.mk.injEq] at hb
      obtain ⟨rfl, rfl, rfl⟩ := hb
      obtain ⟨u, hu, rfl⟩ := List.mem_map.1 hv
      exact fit0 ((inBlks_spec h4 hc).2 u hu)
    · obtain ⟨i, c, hi, rfl, hc, hb⟩ := q e
      obtain ⟨c1, c2, c3⟩ := c
      simp only [Prod.mk.injEq] at hb
      obtain ⟨rfl, rfl, rfl⟩ := hb
      rw [hσρ i hi]
      refine lies_id.2 ((gm.lies hc).ren (D := fun i => i < τ.length + d) (fun v hv => Fit0.of_in ((inBlks_spec h4 hc).2 v hv)) fun i hi => (hσρ i hi).symm)
    · obtain ⟨i', c', hi, rfl, hc, rfl⟩ := q e
      obtain ⟨j', d', hj, rfl, hd', rfl⟩ := q e'
      rw [hσρ i' hi, hσρ j' hj]
      exact gm.inj hc hd' fun he => hij (by rw [he])
  · exact g.kept.mono fun b _ ⟨i, c, hi, hb⟩ => ⟨σ i, _, (hm0 hi).2, hb⟩
  · rw [outLog_eq] at e
    obtain ⟨i, c, hi, rfl, hc, rfl⟩ := o2 j b e
    have hit : τ.length ≤ i := by
      rcases Nat.lt_or_ge i τ.length with hit | hit
      · exact absurd ⟨j1, j2⟩ (hd _ (hD i hit))
      · exact hit
    rw [hσρ i hi]
    exact (gn i c hit (by omega) hc).imp id fun ⟨i, c, hi, hb⟩ => ⟨σ i, _, (hm0 hi).2, hb⟩
end Rx
end Go.Proofs.YtilfcikhipadpaaGreatDoor
end

section
/- A run reckoned by the kernel: a single operation on blocks of which not all is known by itself. No program. -/
set_option linter.unusedVariables false
set_option linter.unusedSimpArgs false
namespace Go.Proofs.YtilfcikhipadpaaGreatDoor
open Go.RowKit Go.Lib
namespace Rx
variable {P : Program} {A : Amb}

def evOf (vals : List Value) : Operand → Option Value
  | .tmp 0 => none
  | .tmp (t + 1) => vals[t]?
  | x => evalA (fun _ => none) x
def mkO (op : Op) (ty : TypeId) : Oper := { (default : Oper) with dst := some 0, op := op, type := ty }
theorem sound_end {ts : Ts} {C : Prop} (h : Sound P A ts ts C) : C := by
  obtain ⟨l, ⟨e1, _⟩, e2⟩ := h
  have : l = [] := by
    have := congrArg List.length e1
    simp at this; exact this
  subst this
  exact e2 fun _ hp => by cases hp
theorem put0_inj {a : Act} (hz : 0 < a.tmps.size) {x y : Value} (h : a.put (some 0) x = a.put (some 0) y) : x = y := by
  have h1 := put_get (v := x) (t := 0) hz
  have h2 := put_get (v := y) (t := 0) hz
  rw [h] at h1
  rw [h1] at h2
  simpa using h2
theorem upon_move {o' o : Oper} {a' a : Act} {r : Result Next} {v : Value} {Z : Nm → World → Prop} {K : Act → World → Prop} {Q : Exit → Act → World → Prop} (ho : o'.dst = some 0) (hz : 0 < a'.tmps.size) (hd : a'.defers = [])
    (h : o'.upon P a' (fun a1 w1 => ∃ ρ', a1 = a'.put (some 0) (ren ρ' v) ∧ Z ρ' w1) (fun _ _ _ => False) r) (hk : ∀ ρ' w', Z ρ' w' → K (a.put o.dst (ren ρ' v)) w') : o.upon P a K Q r := by
  have key : ∀ {x : Value} {w' : World}, (∃ ρ', a'.put (some 0) x = a'.put (some 0) (ren ρ' v) ∧ Z ρ' w') → K (a.put o.dst x) w' := fun {x w'} ⟨ρ', e, z⟩ => by
    rw [put0_inj hz e]
    exact hk ρ' w' z
  unfold Oper.upon at h ⊢
  rw [ho] at h
  split at h
  · exact key h
  · exact key h
  · rename_i d w'
    obtain ⟨ρ', e, z⟩ := h
    have := congrArg Act.defers e
    simp [Act.put, hd] at this
  · refine h.mono fun e w' he => ?_
    cases e with
    | returned x => exact key he
    | panicked c => exact he.elim
    | outgrown =>
      obtain ⟨_, _, q⟩ := he
      exact q.elim
  · exact h.mono fun x w' he => key he
  · exact h.elim
  · exact h.elim
theorem ovJ {op : Op} {ty : TypeId} {vals : List Value} {sn out : List (Nat × Blk)} {nx nx' : Nat} {v : Value} {log : Log} (h : opVal P (mkO op ty) (evOf vals) (memL sn) nx = some (v, log, nx'))
    (hl : ∀ i b, memL out i = some b → (memL sn).add log i = some b) (hv : vals.all (inP (has1 (sn.map (·.1)))) = true) (hall : allSome (evOf vals) (mkO op ty) = true) : SemJ P A (semR (evOf vals) (mkO op ty)) sn nx v out nx' := by
  intro D ρ w o a K Q hm hd hk
  have hs := sound_end (opVal_S (A := A) h ⟨0, [], []⟩).2.2
  have hD : ∀ i, has1 (sn.map (·.1)) i = true → D i := fun i hi => by
    obtain ⟨b, hb⟩ := Option.isSome_iff_exists.1 (memL_isSome (has1_mem hi))
    exact (hm.dom hb).1
  obtain ⟨a', ha'⟩ : ∃ a' : Act, a' = ⟨#[undef] ++ (vals.map (ren ρ)).toArray, []⟩ := ⟨_, rfl⟩
  have he : EvOK D ρ (evOf vals) a' := fun x u hx => by
    unfold evOf at hx
    split at hx
    · cases hx
    · rename_i t
      refine ⟨eval_tmp ?_, (Fit.of_inP (List.all_eq_true.1 hv u (List.mem_of_getElem? hx))).mono hD⟩
      rw [ha']
      simp [Array.getElem?_append, hx]
    · rename_i h1 h2
      have := (Looks.all (fun _ => none)).ev (D := D) (ρ := ρ) (a := a') (fun t u _ h => by cases h) x u hx
      exact this
  have hr := hs D ρ a' w (fun a1 w1 => ∃ ρ', a1 = a'.put (some 0) (ren ρ' v) ∧ Aft P A D ρ (memL sn) nx w v log nx' ρ' w1) (fun _ _ _ => False) he hm hd fun ρ' w' ha => ⟨ρ', rfl, ha⟩
  unfold Oper.wp at hr
  rw [sem_some hall he] at hr
  exact upon_move (Z := fun ρ' w1 => Aft P A D ρ (memL sn) nx w v log nx' ρ' w1) rfl (by rw [ha']; simp) (by rw [ha']) hr fun ρ' w' ha => hk ρ' w' (ha.sub fun i b hi => by
    rw [outLog_eq] at hi
    exact hl i b hi)
theorem outF_nil (sn : List (Nat × Blk)) : outF sn [] [] = sn := by
  unfold outF
  rw [List.nil_append]
  exact List.filter_eq_self.2 (fun _ _ => rfl)
/-- the same, of one that leaves the blocks as they are -/
def ovR (n nx : Nat) (op : Op) (ty : TypeId) (vals : List Value) (sn : List (Nat × Blk)) (v : Value) (h : opVal P (mkO op ty) (evOf vals) (memL sn) nx = some (v, [], nx))
    (hv : vals.all (inP (has1 (sn.map (·.1)))) = true := by kernel_rfl) (hall : allSome (evOf vals) (mkO op ty) = true := by kernel_rfl) : Ev P A :=
  ⟨n, .rd (sn.map (·.1)) [] v [] 0, .sm (semR (evOf vals) (mkO op ty)) sn nx, by rw [show okP P A (.rd (sn.map (·.1)) [] v [] 0) (.sm (semR (evOf vals) (mkO op ty)) sn nx) = SemJ P A (semR (evOf vals) (mkO op ty)) sn nx v (outF sn [] []) (nx + 0) from rfl, outF_nil]; exact ovJ h (fun _ _ h => h) hv hall⟩
/-- one that writes to ws alone, and makes new ones: what is not among these is left out of 'out' -/
def ovW (n nx : Nat) (op : Op) (ty : TypeId) (vals : List Value) (sn : List (Nat × Blk)) (ws : List Nat) (v : Value) (out : List (Nat × Blk)) (d : Nat) {log : Log} (h : opVal P (mkO op ty) (evOf vals) (memL sn) nx = some (v, log, nx + d))
    (hl : ∀ i b, memL (outF sn ws out) i = some b → (memL sn).add log i = some b) (hv : vals.all (inP (has1 (sn.map (·.1)))) = true := by kernel_rfl) (hall : allSome (evOf vals) (mkO op ty) = true := by kernel_rfl) : Ev P A :=
  ⟨n, .rd (sn.map (·.1)) ws v out d, .sm (semR (evOf vals) (mkO op ty)) sn nx, ovJ h hl hv hall⟩
/-- a call that leaves the blocks as they are -/
def callsR (n nx : Nat) {f : FuncId} {args : List Value} {sn : List (Nat × Blk)} {v : Value} (h : CallJ P A f args sn nx v sn nx) (hg : hasBody P f = true := by kernel_rfl) : Ev P A :=
  ⟨n, .rd (sn.map (·.1)) [] v [] 0, .cm f args sn nx (hasBody P f), by rw [show okP P A (.rd (sn.map (·.1)) [] v [] 0) (.cm f args sn nx (hasBody P f)) = (hasBody P f = true ∧ CallJ P A f args sn nx v (outF sn [] []) (nx + 0)) from rfl, outF_nil]; exact ⟨hg, h⟩⟩
/-- a call by a contract on blocks -/
def calls (n nx : Nat) {f : FuncId} {args : List Value} {sn : List (Nat × Blk)} {v : Value} {out : List (Nat × Blk)} (d : Nat) (h : CallJ P A f args sn nx v out (nx + d)) (hg : hasBody P f = true := by kernel_rfl) : Ev P A :=
  ⟨n, .con (sn.map (·.1)) v out d, .cm f args sn nx (hasBody P f), hg, h⟩
/-- a loop by what its rounds do -/
def loops (n nx : Nat) {c : Code} {k : Nat} {vals vals' : List (Nat × Value)} {sn out : List (Nat × Blk)} {x : X} (d : Nat) (h : CodeJ P A (.loop c) k vals sn nx x vals' out (nx + d)) : Ev P A :=
  ⟨n, .lp (vals.map (·.1)) (sn.map (·.1)) x vals' out d, .lp c k vals sn nx, h⟩
end Rx
end Go.Proofs.YtilfcikhipadpaaGreatDoor
end

section
/- A run reckoned by the kernel: rows of unknown length: an element's place, its load, a store to it. No program. -/
set_option linter.unusedVariables false
set_option linter.unusedSimpArgs false
namespace Go.Proofs.YtilfcikhipadpaaGreatDoor
open Go.RowKit Go.Lib
namespace Rx
variable {P : Program} {A : Amb}

/-- rows of things, each of k cells -/
theorem flat_len {α : Type} {f : α → List Value} {k : Nat} (hf : ∀ x, (f x).length = k) : ∀ l : List α, (l.flatMap f).length = l.length * k
  | [] => by simp
  | x :: l => by
    rw [List.flatMap_cons, List.length_append, hf, flat_len hf l, List.length_cons, Nat.succ_mul]
    omega
theorem cut_flat {α : Type} {f : α → List Value} {k : Nat} (hf : ∀ x, (f x).length = k) : ∀ (l : List α) (i : Nat) (h : i < l.length), cut (l.flatMap f) (i * k) k = f l[i]
  | [], i, h => by simp at h
  | x :: l, 0, h => by
    simp only [cut, List.flatMap_cons, Nat.zero_mul, List.drop_zero, List.getElem_cons_zero]
    rw [List.take_append_of_le_length (by rw [hf]; exact Nat.le_refl _), List.take_of_length_le (by rw [hf]; exact Nat.le_refl _)]
  | x :: l, i + 1, h => by
    have := cut_flat hf l i (by simpa using h)
    simp only [cut, List.flatMap_cons, List.getElem_cons_succ] at this ⊢
    rw [← this, Nat.succ_mul, Nat.add_comm (i * k) k, ← List.drop_drop]
    congr 2
    rw [List.drop_append_of_le_length (by rw [hf]; exact Nat.le_refl _), List.drop_of_length_le (by rw [hf]; exact Nat.le_refl _)]
    rfl
theorem fit_le {a b c : Nat} (h : a < b) : a * c + c ≤ b * c := by
  have := Nat.mul_le_mul_right c (show a + 1 ≤ b by omega)
  rw [Nat.succ_mul] at this
  exact this

/-- an element's place -/
def idx (n nx : Nat) {ty T : TypeId} {ik : IntKind} {id off q len c j s : Nat} {b : Blk} (hj : j < len) (he : (elemA P T).map (fun x => x.2.size) = some s := by kernel_rfl) (hq : Nat.blt q 2 = true := by kernel_rfl)
    (hv : [Value.slice (some ⟨id, off, some q⟩) len c, .int ik (j : Int)].all (inP (has1 [id])) = true := by kernel_rfl) (hall : allSome (evOf [Value.slice (some ⟨id, off, some q⟩) len c, .int ik (j : Int)]) (mkO (.indexAddr T (.tmp 1) (.tmp 2)) ty) = true := by kernel_rfl) : Ev P A :=
  ovR n nx (.indexAddr T (.tmp 1) (.tmp 2)) ty [.slice (some ⟨id, off, some q⟩) len c, .int ik (j : Int)] [(id, b)] (.pointer (some ⟨id, off + j * s, some 0⟩))
    (by
      have hb : (Nat.blt q 2 && Nat.blt j len) = true := by rw [hq, Bool.true_and]; simpa [Nat.blt_eq] using hj
      show (match indexA P T (.slice (some ⟨id, off, some q⟩) len c) (.int ik (j : Int)) with | some v => some (v, [], nx) | none => _) = _
      have : indexA P T (.slice (some ⟨id, off, some q⟩) len c) (.int ik (j : Int)) = some (.pointer (some ⟨id, off + j * s, some 0⟩)) := by
        show (match elemA P T with | some (_, i) => cond (Nat.blt q 2 && Nat.blt j len) (some (Value.pointer (some ⟨id, off + j * i.size, some 0⟩))) none | none => none) = _
        cases hx : elemA P T with
        | none => rw [hx] at he; cases he
        | some x =>
          rw [hx] at he
          simp only [Option.map_some, Option.some.injEq] at he
          simp only [hb, cond, he]
      rw [this]) hv hall
/-- a struct's load -/
def ld (n nx : Nat) {ty T : TypeId} {id off q k : Nat} {b : Blk} {vs : List Value} (hb : off + k ≤ b.1.length) (hc : cut b.1 off k = vs) (ha : pureRun P (isAgg T) = some true := by kernel_rfl) (hs : pureRun P (sizeOf T) = some k := by kernel_rfl)
    (hv : [Value.pointer (some ⟨id, off, some q⟩)].all (inP (has1 [id])) = true := by kernel_rfl) (hall : allSome (evOf [Value.pointer (some ⟨id, off, some q⟩)]) (mkO (.load T (.tmp 1)) ty) = true := by kernel_rfl) : Ev P A :=
  ovR n nx (.load T (.tmp 1)) ty [.pointer (some ⟨id, off, some q⟩)] [(id, b)] (.agg vs.toArray)
    (by
      show (match loadA P (memL [(id, b)]) T (.pointer (some ⟨id, off, some q⟩)) with | some v => some (v, [], nx) | none => none) = _
      have : loadA P (memL [(id, b)]) T (.pointer (some ⟨id, off, some q⟩)) = some (.agg vs.toArray) := by
        have hm : memL [(id, b)] id = some b := by simp [memL, Mem.put]
        have hl : Nat.ble (off + k) b.1.length = true := Nat.ble_eq_true_of_le hb
        obtain ⟨cs, U, r⟩ := b
        simp only [loadA, hm, ha, hs, hl, cond]
        rw [hc]
      rw [this]) hv hall
/-! ### names in rows of plain cells -/
theorem all_flat {α : Type} {f : α → List Value} {p : Value → Bool} (h : ∀ x, (f x).all p = true) : ∀ l : List α, (l.flatMap f).all p = true
  | [] => rfl
  | x :: l => by rw [List.flatMap_cons, List.all_append, h, all_flat h l]; rfl
theorem idS_real {σ : Nat → Nat} {v : Value} (h : realS v = true) : idS σ v = v := by
  cases v <;> try rfl
  case pointer a =>
    cases a with
    | none => rfl
    | some a =>
      obtain ⟨b, o, s⟩ := a
      cases s
      · rfl
      · simp [realS] at h
  case slice a n c =>
    cases a with
    | none => rfl
    | some a =>
      obtain ⟨b, o, s⟩ := a
      cases s
      · rfl
      · simp [realS] at h
theorem id0_real {σ : Nat → Nat} {v : Value} (h : real0 v = true) : id0 σ v = v := by
  cases v
  case func f x y =>
    simp only [real0, Bool.and_eq_true] at h
    simp only [id0]
    rw [map_id_of (fun v hv => idS_real hv) h.1, map_id_of (fun v hv => idS_real hv) h.2]
  case pointer a => exact idS_real (v := .pointer a) h
  case slice a n c => exact idS_real (v := .slice a n c) h
  all_goals rfl
theorem flat_id {α : Type} {f : α → List Value} (hf : ∀ x, (f x).all real0 = true) (σ : Nat → Nat) (l : List α) : (l.flatMap f).map (id0 σ) = l.flatMap f := by
  exact (List.map_congr_left fun v hv => (id0_real (σ := σ) (List.all_eq_true.1 (all_flat hf l) v hv) : id0 σ v = id v)).trans (List.map_id _)
theorem CallJ.eq {f : FuncId} {args args' : List Value} {sn sn' out out' : List (Nat × Blk)} {nx nx' : Nat} {v v' : Value} (h : CallJ P A f args sn nx v out nx') (h2 : sn = sn') (h4 : out = out') (h1 : args = args' := by kernel_rfl) (h3 : v = v' := by kernel_rfl) : CallJ P A f args' sn' nx v' out' nx' := by
  subst h1 h2 h3 h4
  exact h
end Rx
end Go.Proofs.YtilfcikhipadpaaGreatDoor
end
