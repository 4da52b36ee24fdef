/- Several texts of this claim, one behind the other. -/
import Derived.Test.YtedfdphapcanoaaGreatDoorM42
import Derived.Test.YtedfdphapcanoaaGreatDoorM43
import Derived.KernelRfl
import Derived.ProofKit
import Derived.OpenShut
import Derived.SizedLaws
import Derived.Test.YtedfdphapcanoaaGreatDoorM0

section
/- A ruling's rule. -/
set_option linter.unusedVariables false
namespace Go.Proofs.YtedfdphapcanoaaGreatDoor
open Go.RowKit Go.Lib

def pr4 (p : Int) : Int := ([0, 17, 6, 1] : List Int).getD (p.tmod 4).toNat 0
def pr2 (p : Int) : Int := ([17, 6] : List Int).getD (p.tmod 2).toNat 0
def c16 (c : Int) : Int := IntKind.wrap .u8 ↑(BitVec.ofInt IntKind.u8.bits c &&& BitVec.ofInt IntKind.u8.bits 16).toNat
def c32 (c : Int) : Int := IntKind.wrap .u8 ↑(BitVec.ofInt IntKind.u8.bits c &&& BitVec.ofInt IntKind.u8.bits 32).toNat
def inW (c : Int) : Int := IntKind.wrap .i64 (8 + IntKind.wrap .i64 (c16 c))
def frV (a : Int) : Int := IntKind.wrap .u16 (1000 + IntKind.wrap .u16 (a.tmod 8))
def toV (a b : Int) : Int := IntKind.wrap .u16 (frV a + IntKind.wrap .u16 (b.tmod 8))
def exV (c : Int) : Int := IntKind.wrap .u32 (151587092 + IntKind.wrap .u32 (c.tmod 2))
def stE (c : Int) : Int := IntKind.wrap .u32 (151587081 + IntKind.wrap .u32 (11 * IntKind.wrap .u32 (c.tmod 2)))
def stF (a : Int) : Int := IntKind.wrap .u16 (80 + IntKind.wrap .u16 (a.tmod 4))
def stI (b : Int) : Int := IntKind.wrap .u32 (167772161 + IntKind.wrap .u32 (b.tmod 3))
def stQ (c : Int) : Int := IntKind.wrap .u16 (8000 + IntKind.wrap .u16 ((IntKind.wrap .u8 (c.tdiv 2)).tmod 2))
def rulV (k p a b c : Int) (r : Rule) : Rule :=
  if k.tmod 6 = 2 then (if c32 c > 0 then ⟨1, pr4 p, 167772160, inW c, 134217728, 5, exV c, frV a, toV a b, 0, 0⟩ else ⟨1, pr4 p, 167772160, inW c, 0, 0, exV c, frV a, toV a b, 0, 0⟩)
  else if k.tmod 6 = 3 ∨ k.tmod 6 = 4 then ⟨3, pr2 p, 0, 0, 0, 0, stE c, stF a, stF a, stI b, stQ c⟩
  else if k.tmod 6 = 5 then r
  else ⟨2, pr4 p, 167772160, inW c, 0, 0, 0, frV a, toV a b, 0, 0⟩
@[reducible] def rulC (k p a b c : Int) (r : Rule) : Value := .agg #[.int .u8 k, .int .u8 p, .int .u8 a, .int .u8 b, .int .u8 c, .int .i64 r.k, .int .u8 r.p, .int .u32 r.sa, .int .i64 r.sb, .int .u32 r.da, .int .i64 r.db, .int .u32 r.e, .int .u16 r.f, .int .u16 r.t, .int .u32 r.ia, .int .u16 r.ip]
@[reducible] def ruA (r : Rule) : Value := .agg #[.int .i64 r.k, .int .u8 r.p, .int .u32 r.sa, .int .i64 r.sb, .int .u32 r.da, .int .i64 r.db, .int .u32 r.e, .int .u16 r.f, .int .u16 r.t, .int .u32 r.ia, .int .u16 r.ip]
theorem w_Rule (k p a b c : Int) (r : Rule) (w : World) (hp : 0 ≤ p) : Calls Tryz.prog 32 #[rulC k p a b c r] w (Ret (ruA (rulV k p a b c r)) w) := by
  have g4 : ∀ W, ((Instr.index 159 (.agg (([0, 17, 6, 1] : List Int).map (Value.int .u8)).toArray) (.int .u8 (p.tmod 4))) >>= fun v => (pure (Next.value v) : Sem Next)).run Tryz.prog W = .ok (.value (.int .u8 (pr4 p))) W :=
    fun W => idx_ev (T := 159) (e := 5) (l := [0, 17, 6, 1]) (k := .u8) (kk := .u8) (by kernel_rfl) (by kernel_rfl) (by kernel_rfl) (tmod_lt hp 4 (by decide)) W
  have g2 : ∀ W, ((Instr.index 52 (.agg (([17, 6] : List Int).map (Value.int .u8)).toArray) (.int .u8 (p.tmod 2))) >>= fun v => (pure (Next.value v) : Sem Next)).run Tryz.prog W = .ok (.value (.int .u8 (pr2 p))) W :=
    fun W => idx_ev (T := 52) (e := 5) (l := [17, 6]) (k := .u8) (kk := .u8) (by kernel_rfl) (by kernel_rfl) (by kernel_rfl) (tmod_lt hp 2 (by decide)) W
  unfold rulV
  by_cases h2 : k.tmod 6 = 2
  · rw [if_pos h2]
    by_cases hc : c32 c > 0
    · rw [if_pos hc]
      exact Rx.run (args := [rulC k p a b c r]) [Rx.gives 17 fun W _ => g4 W, Rx.yes 42 (b := k.tmod 6 == 2) (by simpa using h2), Rx.yes 56 (b := decide (c32 c > 0)) (by simpa using hc)]
    · rw [if_neg hc]
      exact Rx.run (args := [rulC k p a b c r]) [Rx.gives 17 fun W _ => g4 W, Rx.yes 42 (b := k.tmod 6 == 2) (by simpa using h2), Rx.no 56 (b := decide (c32 c > 0)) (by simpa using hc)]
  rw [if_neg h2]
  have n2 : (k.tmod 6 == 2) = false := by simpa using h2
  by_cases h3 : k.tmod 6 = 3
  · rw [if_pos (.inl h3)]
    exact Rx.run (args := [rulC k p a b c r]) [Rx.gives 17 fun W _ => g4 W, Rx.no 42 n2, Rx.yes 45 (b := k.tmod 6 == 3) (by simpa using h3), Rx.yes 46 (b := k.tmod 6 == 3) (by simpa using h3), Rx.gives 51 fun W _ => g2 W]
  have n3 : (k.tmod 6 == 3) = false := by simpa using h3
  by_cases h4 : k.tmod 6 = 4
  · rw [if_pos (.inr h4)]
    exact Rx.run (args := [rulC k p a b c r]) [Rx.gives 17 fun W _ => g4 W, Rx.no 42 n2, Rx.no 45 n3, Rx.yes 48 (b := k.tmod 6 == 4) (by simpa using h4), Rx.gives 53 fun W _ => g2 W]
  have n4 : (k.tmod 6 == 4) = false := by simpa using h4
  rw [if_neg (by omega)]
  by_cases h5 : k.tmod 6 = 5
  · rw [if_pos h5]
    exact Rx.run (args := [rulC k p a b c r]) [Rx.gives 17 fun W _ => g4 W, Rx.no 42 n2, Rx.no 45 n3, Rx.no 48 n4, Rx.yes 51 (b := k.tmod 6 == 5) (by simpa using h5)]
  rw [if_neg h5]
  exact Rx.run (args := [rulC k p a b c r]) [Rx.gives 17 fun W _ => g4 W, Rx.no 42 n2, Rx.no 45 n3, Rx.no 48 n4, Rx.no 51 (b := k.tmod 6 == 5) (by simpa using h5)]
end Go.Proofs.YtedfdphapcanoaaGreatDoor
end

section
/- How an argument that is a struct or an array (of whatever depth) of one-cell leaves reads: each cell by its place. No program. -/
set_option linter.unusedVariables false
namespace Go.Proofs.YtedfdphapcanoaaGreatDoor
open Go.RowKit Go.ChangeShapes Go.WideShapes

/-- the type of the leaf at cell i of a value of type t -/
def leafAt (P : Program) : Nat → TypeId → Nat → Option TypeId
  | 0, _, _ => none
  | n + 1, t, i =>
    match P.underlying t with
    | some (.struct fs) =>
      match fs.toList.find? (fun f => decide (f.offset ≤ i) && decide (i < f.offset + P.cellsOf f.type)) with
      | some f => leafAt P n f.type (i - f.offset)
      | none => none
    | some (.array m e) => if i / P.cellsOf e < m then leafAt P n e (i % P.cellsOf e) else none
    | some (.int _) | some .bool | some .string | some (.slice _) => if i = 0 then some t else none
    | _ => none

section
variable {H : Type} {enc : TypeId × Value → H} {P : Program} {w : World} {base : Nat} {spare : Nat → Bool} {held : Bool}

/-- the cell at i, and that it reads by itself; D: what the whole weighs -/
def LeafIs (enc : TypeId × Value → H) (P : Program) (w : World) (base : Nat) (spare : Nat → Bool) (held : Bool) (D : List Nat) (cs : List Value) (i : Nat) (u : TypeId) : Prop :=
  ∃ v x n, cs[i]? = some v ∧ DataW.trod enc P w base spare held n u [v] = some x ∧ ∀ m ∈ x.1.weights P u, m ∈ D

theorem slice_at {cs : List Value} {o c j : Nat} {v : Value} (h : ((cs.drop o).take c)[j]? = some v) : cs[o + j]? = some v := by
  have hj : j < c := by
    have := (List.getElem?_eq_some_iff.1 h).1
    simp at this; omega
  rw [List.getElem?_take_of_lt hj, List.getElem?_drop] at h
  exact h
theorem weights_all {e : TypeId} : ∀ {ds : List (DataW H)} {j : Nat} {d : DataW H}, ds[j]? = some d → ∀ m ∈ d.weights P e, m ∈ DataW.weightsAll P e ds
  | d0 :: ds, 0, d, hd, m, hm => by
    simp only [List.getElem?_cons_zero, Option.some.injEq] at hd
    subst hd
    simp only [DataW.weightsAll, List.mem_append]; exact .inl hm
  | d0 :: ds, j + 1, d, hd, m, hm => by
    simp only [DataW.weightsAll, List.mem_append]
    exact .inr (weights_all (j := j) (by simpa using hd) m hm)

theorem leafAt_of : ∀ {n : Nat} {t : TypeId} {i : Nat} {u : TypeId} (_ : leafAt P n t i = some u) {fuel : Nat} {cs : List Value} {x : DataW H × List MemPlace},
    DataW.trod enc P w base spare held fuel t cs = some x → LeafIs enc P w base spare held (x.1.weights P t) cs i u
  | 0, _, _, _, h, _, _, _, _ => by cases h
  | n + 1, t, i, u, h, fuel, cs, x, hx => by
    unfold leafAt at h
    split at h
    · rename_i fs hfs
      split at h
      · rename_i f hf
        obtain ⟨xs, m, _, hxx, hlen, hxl, hg⟩ := DataW.trod_struct hfs hx
        have hp := List.find?_some hf
        simp only [Bool.and_eq_true, decide_eq_true_eq] at hp
        obtain ⟨j, hj⟩ := List.mem_iff_getElem?.1 (List.mem_of_find?_eq_some hf)
        have hjl : j < fs.size := by have := (List.getElem?_eq_some_iff.1 hj).1; simpa using this
        have h1 := hg j f (by rw [← Array.getElem?_toList]; exact hj)
        rw [List.getElem?_eq_getElem (by omega)] at h1
        obtain ⟨v, y, k, hv, hy, hw⟩ := leafAt_of h h1
        refine ⟨v, y, k, ?_, hy, fun q hq => ?_⟩
        · have := slice_at hv
          rwa [show f.offset + (i - f.offset) = i from by omega] at this
        · have h2 := hw q hq
          rw [hxx]
          simp only [DataW.weights, hfs]
          exact DataW.weights_mem_each (ts := fs.toList.map (·.type)) (ds := xs.map (·.1)) (j := j) (by rw [List.getElem?_map, hj]; rfl) (by rw [List.getElem?_map, List.getElem?_eq_getElem (by omega)]; rfl) q h2
      · cases h
    · rename_i m e he
      split at h
      · rename_i hm
        obtain ⟨xs, k, _, hxx, hlen, hxl, hg⟩ := DataW.trod_array he hx
        have h1 := hg (i / P.cellsOf e) hm
        rw [List.getElem?_eq_getElem (by omega)] at h1
        obtain ⟨v, y, k, hv, hy, hw⟩ := leafAt_of h h1
        refine ⟨v, y, k, ?_, hy, fun q hq => ?_⟩
        · have := slice_at hv
          rwa [Nat.mul_comm, Nat.div_add_mod] at this
        · have h2 := hw q hq
          rw [hxx]
          simp only [DataW.weights, he]
          exact weights_all (ds := xs.map (·.1)) (j := i / P.cellsOf e) (by rw [List.getElem?_map, List.getElem?_eq_getElem (by omega)]; rfl) q h2
      · cases h
    · split at h
      · rename_i hi
        subst hi
        injection h with h
        subst h
        obtain ⟨k, hk, _⟩ := DataW.trod_int (by assumption) hx
        exact ⟨_, x, fuel, by rw [hk]; rfl, by rw [← hk]; exact hx, fun q hq => hq⟩
      · cases h
    · split at h
      · rename_i hi
        subst hi
        injection h with h
        subst h
        obtain ⟨k, hk, _⟩ := DataW.trod_bool (by assumption) hx
        exact ⟨_, x, fuel, by rw [hk]; rfl, by rw [← hk]; exact hx, fun q hq => hq⟩
      · cases h
    · split at h
      · rename_i hi
        subst hi
        injection h with h
        subst h
        obtain ⟨k, hk, _⟩ := DataW.trod_string (by assumption) hx
        exact ⟨_, x, fuel, by rw [hk]; rfl, by rw [← hk]; exact hx, fun q hq => hq⟩
      · cases h
    · split at h
      · rename_i hi
        subst hi
        injection h with h
        subst h
        rcases DataW.trod_slice (by assumption) hx with ⟨hk, _⟩ | ⟨_, _, _, _, _, _, _, hk, _⟩
        · exact ⟨_, x, fuel, by rw [hk]; rfl, by rw [← hk]; exact hx, fun q hq => hq⟩
        · exact ⟨_, x, fuel, by rw [hk]; rfl, by rw [← hk]; exact hx, fun q hq => hq⟩
      · cases h
    · cases h

variable {D : List Nat} {cs : List Value} {i : Nat} {u : TypeId}
theorem leaf_int {k : IntKind} (h : LeafIs enc P w base spare held D cs i u) (hu : P.underlying u = some (.int k)) : ∃ n, cs[i]? = some (.int k n) ∧ (Lit.int k n).wf = true := by
  obtain ⟨v, x, n, hv, hx, _⟩ := h
  obtain ⟨m, hm, _, hw⟩ := DataW.trod_int hu hx
  exact ⟨m, by rw [hv]; injection hm with hm; rw [hm], hw⟩
theorem leaf_bool (h : LeafIs enc P w base spare held D cs i u) (hu : P.underlying u = some .bool) : ∃ b, cs[i]? = some (.bool b) := by
  obtain ⟨v, x, n, hv, hx, _⟩ := h
  obtain ⟨m, hm, _⟩ := DataW.trod_bool hu hx
  exact ⟨m, by rw [hv]; injection hm with hm; rw [hm]⟩
theorem leaf_string (h : LeafIs enc P w base spare held D cs i u) (hu : P.underlying u = some .string) (hD : ∀ m ∈ D, m ≤ reachBytes) : ∃ s, cs[i]? = some (.string s) ∧ s.size ≤ 140737488351232 := by
  obtain ⟨v, x, n, hv, hx, hw⟩ := h
  obtain ⟨m, hm, hx', _⟩ := DataW.trod_string hu hx
  refine ⟨m, by rw [hv]; injection hm with hm; rw [hm], ?_⟩
  exact hD _ (hw m.data.toList.length (by rw [hx']; simp [DataW.weights]))
theorem okWide_array {r : Reach} {b n : Nat} {t e : TypeId} {v : Value} (ht : P.underlying t = some (.array n e)) (h : Value.okWide P w r b t v) : ∃ cs, v = .agg cs ∧ cs.size = P.cellsOf t := by
  simp only [Value.okWide, ht] at h
  obtain ⟨cs, h1, h2, _⟩ := h
  exact ⟨cs, h1, h2⟩
theorem sized_at {ts : List TypeId} {ds : List (DataW H)} (h : (DataW.weightsEach P ts ds).all (· ≤ reachBytes) = true) {j : Nat} {t : TypeId} {d : DataW H} (ht : ts[j]? = some t) (hd : ds[j]? = some d) : ∀ m ∈ d.weights P t, m ≤ reachBytes := fun m hm => by
  have := List.all_eq_true.1 h _ (DataW.weights_mem_each ht hd m hm)
  simpa using this
end

theorem arr_ext {cs ds : Array Value} (hz : cs.size = ds.size) (h : ∀ j, j < ds.size → cs.toList[j]? = ds[j]?) : cs = ds := by
  refine Array.ext hz (fun j h1 h2 => ?_)
  have := h j h2
  rw [Array.getElem?_toList, Array.getElem?_eq_getElem h1, Array.getElem?_eq_getElem h2] at this
  exact Option.some.inj this
end Go.Proofs.YtedfdphapcanoaaGreatDoor
end
