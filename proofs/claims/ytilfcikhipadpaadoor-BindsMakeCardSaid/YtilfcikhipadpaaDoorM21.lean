/- Several texts of this claim, one behind the other. -/
import Derived.Test.YtilfcikhipadpaaDoorM6
import Derived.Test.YtilfcikhipadpaaDoorM9
import Derived.Deep.MidRow
import Derived.Test.YtilfcikhipadpaaDoorM16

section
/- A whole struct (of whatever number of cells) stored into a block that is known whole, and loaded out of it: the world behind it by what it keeps. -/
set_option linter.unusedVariables false
set_option linter.unusedSimpArgs false
namespace Go.Proofs.YtilfcikhipadpaaDoor
open Go.RowKit Go.Lib

theorem Cells.range {w : World} {g : Nat} {c : Array Value} {T : TypeId} (h : Cells w g c T) : w.rangeAt g 0 c.toList := fun j v hv => by
  rw [Nat.zero_add, h.at_ j, ← Array.getElem?_toList]; exact hv
theorem Cells.there {w : World} {g : Nat} {c : Array Value} {T : TypeId} (h : Cells w g c T) {n : Nat} (hn : n ≤ c.size) : w.there g 0 n := fun j hj => by
  rw [Nat.zero_add]
  exact ⟨by rw [h.at_ j, Array.getElem?_eq_getElem (by omega)]; rfl, h.free j⟩
theorem Cells.all {w : World} {g : Nat} {c c' : Array Value} {T : TypeId} (h : Cells w g c T) (hs : c.size = c'.size) : Cells (w.setCells g 0 c'.toList) g c' T := by
  obtain ⟨cs, h1, h2, h3⟩ := Cells.setCells_ c'.toList 0 c w h (by simp [hs])
  have e : cs = c' := by
    apply Array.ext'
    apply List.ext_getElem?
    intro j
    rw [h3 j]
    by_cases hj : j < c'.size
    · rw [if_pos ⟨Nat.zero_le _, by simpa using hj⟩, Nat.sub_zero]
    · rw [if_neg (fun k => hj (by simpa using k.2)), List.getElem?_eq_none (by simp; omega), List.getElem?_eq_none (by simp; omega)]
  exact e ▸ h1
/-- the world behind a store of a whole struct: the block has the new cells, all others lie as they lay -/
theorem stored {w : World} {g : Nat} {c c' : Array Value} {T : TypeId} (h : Cells w g c T) (hs : c.size = c'.size) : Cells (w.setCells g 0 c'.toList) g c' T ∧ Only (fun i => i = g) w (w.setCells g 0 c'.toList) ∧ (w.setCells g 0 c'.toList).heap.size = w.heap.size :=
  ⟨Cells.all h hs, Only.setCells_ _ _ _ (Only.refl _ _) (Or.inl rfl), size_setCells_ _ _ _ _⟩
variable {P : Program}
theorem wp_store_all {op : Oper} {a : Act} {w : World} {K : Act → World → Prop} {Q : Exit → Act → World → Prop} (ty : TypeId) (x y : Operand) (ho : op.op = .store ty x y)
    {g : Nat} {c c' : Array Value} {T : TypeId} (hC : Cells w g c T) (hx : a.eval x = .pointer (some ⟨g, 0, none⟩)) (hy : a.eval y = .agg c') (hi : (P.info? ty).map (·.size) = some c'.size) (hs : c.size = c'.size) (h1 : c'.all (·.oneCell') = true)
    (h : ∀ W', Cells W' g c' T → Only (fun i => i = g) w W' → W'.heap.size = w.heap.size → K (a.put op.dst undef) W') : op.wp P a w K Q :=
  wp_store_mid ty x y ho g 0 c' hx hy (hC.there (by omega)) hi h1 (h _ (stored hC hs).1 (stored hC hs).2.1 (stored hC hs).2.2)
theorem wpList_store_all {ops : Array Oper} {rest : List Oper} {op : Oper} {a : Act} {w : World} {Q : Exit → Act → World → Prop} (hgd : op.guard = none) (ty : TypeId) (x y : Operand) (ho : op.op = .store ty x y)
    {g : Nat} {c c' : Array Value} {T : TypeId} (hC : Cells w g c T) (hx : a.eval x = .pointer (some ⟨g, 0, none⟩)) (hy : a.eval y = .agg c') (hi : (P.info? ty).map (·.size) = some c'.size) (hs : c.size = c'.size) (h1 : c'.all (·.oneCell') = true)
    (h : ∀ W', Cells W' g c' T → Only (fun i => i = g) w W' → W'.heap.size = w.heap.size → wpList P ops Q rest (a.put op.dst undef) W') : wpList P ops Q (op :: rest) a w :=
  wpList_plain hgd fun _ hK => wp_store_all ty x y ho hC hx hy hi hs h1 fun W' k1 k2 k3 => hK _ _ (h W' k1 k2 k3)
theorem wpList_load_all {ops : Array Oper} {rest : List Oper} {op : Oper} {a : Act} {w : World} {Q : Exit → Act → World → Prop} (hgd : op.guard = none) (ty : TypeId) (x : Operand) (ho : op.op = .load ty x)
    {g : Nat} {c : Array Value} {T : TypeId} (hC : Cells w g c T) (hx : a.eval x = .pointer (some ⟨g, 0, none⟩)) (d : TypeDesc)
    (hu : P.underlying ty = some d) (hd : d.isRow = true) (hi : (P.info? ty).map (·.size) = some c.size)
    (h : wpList P ops Q rest (a.put op.dst (.agg c)) w) : wpList P ops Q (op :: rest) a w :=
  wpList_load_mid hgd ty x ho g 0 hx c.toList d hC.range hu hd (by simpa using hi) (by simpa using h)
/-- a struct named result, in a block that is known whole -/
theorem run_load_all {w : World} (ty : TypeId) {g : Nat} {c : Array Value} {T : TypeId} (hC : Cells w g c T) (d : TypeDesc) (hu : P.underlying ty = some d) (hd : d.isRow = true) (hi : (P.info? ty).map (·.size) = some c.size) :
    (loadVar ty ⟨g, 0, none⟩).run P w = .ok (.agg c) w := by
  have := run_loadVar_mid (P := P) w g 0 ty c.toList d hC.range hu hd (by simpa using hi)
  simpa using this
theorem res_cell {fn : Func} {tmps : Array Value} {w : World} {a : Nat} {t : TypeId} (hf : fn.results = #[.cell a t]) {g : Nat} {c : Array Value} {T : TypeId} (hC : Cells w g c T) (hx : tmps.getD a undef = .pointer (some ⟨g, 0, none⟩)) (d : TypeDesc) (hu : P.underlying t = some d) (hd : d.isRow = true) (hi : (P.info? t).map (·.size) = some c.size) :
    (results fn tmps).run P w = .ok (.agg c) w := by
  have hl := run_load_all (P := P) t hC d hu hd hi
  have hx' : tmps[a]?.getD undef = .pointer (some ⟨g, 0, none⟩) := by simpa using hx
  simp [results, hf, hx', asAddr, hl, Sem.run_bind, Sem.run_pure, Result.andThen_ok]
theorem res_cell_tmp {fn : Func} {tmps : Array Value} {w : World} {a b : Nat} {t : TypeId} (hf : fn.results = #[.cell a t, .tmp b]) {g : Nat} {c : Array Value} {T : TypeId} (hC : Cells w g c T) (hx : tmps.getD a undef = .pointer (some ⟨g, 0, none⟩)) {v : Value} (hv : tmps.getD b undef = v) (d : TypeDesc) (hu : P.underlying t = some d) (hd : d.isRow = true) (hi : (P.info? t).map (·.size) = some c.size) :
    (results fn tmps).run P w = .ok (.tuple #[.agg c, v]) w := by
  have hl := run_load_all (P := P) t hC d hu hd hi
  subst hv
  have hx' : tmps[a]?.getD undef = .pointer (some ⟨g, 0, none⟩) := by simpa using hx
  simp [results, hf, hx', asAddr, hl, Sem.run_bind, Sem.run_pure, Result.andThen_ok]
end Go.Proofs.YtilfcikhipadpaaDoor
end

section
/- An operation's run hangs on its operands alone: for wide frames. -/
set_option linter.unusedVariables false
namespace Go.Proofs.YtilfcikhipadpaaDoor

def lookV : List Nat → List Value → Nat → Value
  | k :: ks, v :: vs, t => if t = k then v else lookV ks vs t
  | _, _, _ => undef
def envL (ks : List Nat) (vs : List Value) : Operand → Value
  | .tmp t => lookV ks vs t
  | .const v => v
  | .global g => .pointer (some ⟨g, 0, none⟩)
  | .func f => .func (.func f) #[] #[]
def EnvOk (a : Act) : List Nat → List Value → Prop
  | [], [] => True
  | k :: ks, v :: vs => a.eval (.tmp k) = v ∧ EnvOk a ks vs
  | _, _ => False
def keyOk (ks : List Nat) : Operand → Bool
  | .tmp t => ks.contains t
  | _ => true
def noSel : Op → Bool
  | .select _ _ => false
  | _ => true
theorem lookV_env {a : Act} : ∀ {ks : List Nat} {vs : List Value}, EnvOk a ks vs → ∀ t, t ∈ ks → a.eval (.tmp t) = lookV ks vs t
  | [], _, _, t, h => by cases h
  | k :: ks, [], h, t, _ => absurd h id
  | k :: ks, v :: vs, h, t, ht => by
    unfold lookV
    by_cases e : t = k
    · rw [if_pos e, e]; exact h.1
    · rw [if_neg e]
      rcases List.mem_cons.1 ht with h1 | h1
      · exact absurd h1 e
      · exact lookV_env h.2 t h1
theorem run_env {P : Program} {a : Act} {o : Oper} {w : World} {r : Result Next} (ks : List Nat) (vs : List Value) (hs : noSel o.op = true) (hk : (o.op.operands.all (keyOk ks)) = true) (he : EnvOk a ks vs)
    (h : (execOp (envL ks vs) o).run P w = r) : (execOp a.eval o).run P w = r := by
  rw [← h, execOp_congr o (fun cs b e => by rw [e] at hs; cases hs) (ρ' := envL ks vs)]
  intro x hx
  have h1 := (Array.all_eq_true_iff_forall_mem.1 hk) x hx
  cases x with
  | tmp t => exact lookV_env he t (by simpa [keyOk] using h1)
  | const v => rfl
  | global g => rfl
  | func f => rfl
/-- any two operations of which neither waits for the other are apart -/
def apartAll (md : Region.Mode) (ops : Array Oper) : Bool :=
  (List.range ops.size).all fun i => (List.range ops.size).all fun j => i == j || (match ops[i]?, ops[j]? with
    | some oi, some oj => (oj.after.any fun e => Region.binds md e && e.on == i) || (oi.after.any fun e => Region.binds md e && e.on == j) || oi.apart ops oj
    | _, _ => true)
theorem okOps {md : Region.Mode} {ops : Array Oper} (h : (apartAll md ops && Region.noSelect ops) = true) : apartAll md ops = true ∧ Region.noSelect ops = true := by simpa using h
theorem wpAnyJ_takeG {P : Program} {ops : Array Oper} {Q : Exit → Act → World → Prop} {md : Region.Mode} {S : World → Prop} {N : List Nat} {i : Nat} {oi : Oper} {v : Value} {f : Nat} {l : Array Bool} {a : Act} {w : World}
    (hG : apartAll md ops = true) (hs : Region.noSelect ops = true) (hi : ops[i]? = some oi) (hl : l.getD i true = false) (hr : (oi.after.all fun e => !Region.binds md e || l.getD e.on false) = true) (hN : lastWait md ops N i = true)
    (hQ : ∀ c a w, Q (.panic c) (a.put oi.dst v) w → Q (.panic c) a w) (hy : YieldsIf P ops S oi v a) (hS : S w)
    (h : wpAnyJ P md ops Q S N f (l.setIfInBounds i true) (a.put oi.dst v) w) : wpAnyJ P md ops Q S N (f + 1) l a w := by
  have hre : ∀ e ∈ oi.after, Region.binds md e = true → l.getD e.on false = true := fun e he hb => by
    have h1 := (Array.all_eq_true_iff_forall_mem.1 hr) e he
    simpa [hb] using h1
  refine wpAnyJ_first hi (Region.noSelect_spec hs) hQ hN f l a w (fun j oj hj hji hjl hno => ?_) (mem_ready.2 ⟨hl, oi, hi, hre⟩) hy hS h
  have hlt : ∀ {k : Nat} {o : Oper}, ops[k]? = some o → k < ops.size := fun hk => (Array.getElem?_eq_some_iff.1 hk).1
  have h1 := List.all_eq_true.1 (List.all_eq_true.1 hG i (List.mem_range.2 (hlt hi))) j (List.mem_range.2 (hlt hj))
  rw [hi, hj] at h1
  simp only [Bool.or_eq_true, beq_iff_eq, Array.any_eq_true, Bool.and_eq_true] at h1
  rcases h1 with h1 | ((⟨k, hk, hb, he⟩ | ⟨k, hk, hb, he⟩) | h1)
  · exact absurd h1.symm hji
  · exact absurd he (hno _ (Array.getElem_mem hk) hb)
  · have h2 := hre _ (Array.getElem_mem hk) hb
    rw [he] at h2
    exfalso
    rcases Nat.lt_or_ge j l.size with h' | h'
    · simp [h'] at hjl h2; rw [hjl] at h2; cases h2
    · simp [Array.getElem?_eq_none h'] at h2
  · exact h1
end Go.Proofs.YtilfcikhipadpaaDoor
end
