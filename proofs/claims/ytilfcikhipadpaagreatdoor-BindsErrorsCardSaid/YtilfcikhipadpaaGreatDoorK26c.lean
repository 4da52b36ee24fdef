/- Several texts of this claim, one behind the other. -/
import Derived.Test.YtilfcikhipadpaaGreatDoorK25c
import Derived.KernelRfl
import Derived.Test.YtilfcikhipadpaaGreatDoorK11b

section
/- A wire's points, flags, tuple, text. -/
set_option linter.unusedVariables false
namespace Go.Proofs.YtilfcikhipadpaaGreatDoor
open Go.RowKit Go.Lib

theorem idx_ev {P : Program} {T e : TypeId} {l : List Int} {k kk : IntKind} {i : Int} (hu : P.underlying T = some (.array l.length e)) (ha : Rx.pureRun P (isAgg e) = some false) (hs : Rx.pureRun P (sizeOf e) = some 1) (h : 0 ≤ i ∧ i < l.length) (W : World) :
    ((Instr.index T (.agg (l.map (Value.int k)).toArray) (.int kk i)) >>= fun v => (pure (Next.value v) : Sem Next)).run P W = .ok (.value (.int k (l.getD i.toNat 0))) W := by
  have h1 : (Instr.index T (.agg (l.map (Value.int k)).toArray) (.int kk i)).run P W = .ok (.int k (l.getD i.toNat 0)) W := by
    have hlt : i.toNat < l.length := by omega
    unfold Instr.index
    rw [Rx.run_bind_ok (show (asIntOf (.int kk i)).run P W = .ok (kk, i) W from rfl), Rx.run_bind_ok (run_underlying hu W)]
    simp only [h.1, h.2, and_self, if_true]
    rw [Rx.run_bind_ok (Rx.pureRun_run W _ _ hs)]
    unfold Go.part
    rw [Rx.run_bind_ok (Rx.pureRun_run W _ _ ha)]
    simp [List.getD_eq_getElem?_getD, hlt]
  rw [Rx.run_bind_ok h1]
  rfl
def hostL : List Int := [167772161, 167772162, 167772163, 134744072, 117901063, 151587081, 151587092, 134744073]
def portL : List Int := [4000, 4001, 53, 53, 80, 81, 82, 83, 1000, 1001, 1002, 1003, 1004, 1010, 8000, 8001]
def protoL : List Int := [17, 6, 1, 17]
def hostV (h : Int) : Int := hostL.getD (h.tmod 8).toNat 0
def portV (p : Int) : Int := portL.getD (p.tmod 16).toNat 0
def protoV (p : Int) : Int := protoL.getD (p.tmod 4).toNat 0
theorem tmod_lt {x : Int} (h : 0 ≤ x) (n : Int) (hn : 0 < n) : 0 ≤ x.tmod n ∧ x.tmod n < n := by
  rw [Int.tmod_eq_emod_of_nonneg h]
  exact ⟨Int.emod_nonneg _ (by omega), Int.emod_lt_of_pos _ (by omega)⟩
theorem getD_all {l : List Int} {p : Int → Prop} (h : ∀ x ∈ l, p x) (h0 : p 0) (i : Nat) : p (l.getD i 0) := by
  rw [List.getD_eq_getElem?_getD]
  cases hi : l[i]? with
  | none => exact h0
  | some x => exact h x (List.mem_of_getElem? hi)
theorem host_bd (h : Int) : 0 ≤ hostV h ∧ hostV h ≤ 4294967295 := getD_all (p := fun x => 0 ≤ x ∧ x ≤ 4294967295) (l := hostL) (by decide) (by decide) _
theorem port_bd (h : Int) : 0 ≤ portV h ∧ portV h ≤ 65535 := getD_all (p := fun x => 0 ≤ x ∧ x ≤ 65535) (l := portL) (by decide) (by decide) _
theorem proto_is (p : Int) (h : 0 ≤ p) : protoV p = 17 ∨ protoV p = 6 ∨ protoV p = 1 := by
  have hb := tmod_lt h 4 (by decide)
  unfold protoV
  generalize p.tmod 4 = i at *
  have : i = 0 ∨ i = 1 ∨ i = 2 ∨ i = 3 := by omega
  rcases this with rfl | rfl | rfl | rfl <;> decide
theorem w_point (h p : Int) (w : World) (h0 : 0 ≤ h) (p0 : 0 ≤ p) : Calls Tryz.prog 34 #[.int .u8 h, .int .u8 p] w (Ret (.agg #[.int .u32 (hostV h), .int .u16 (portV p)]) w) :=
  Rx.run (args := [.int .u8 h, .int .u8 p]) [Rx.gives 4 fun W _ => idx_ev (T := 174) (e := 28) (l := hostL) (k := .u32) (kk := .u8) (by kernel_rfl) (by kernel_rfl) (by kernel_rfl) (tmod_lt h0 8 (by decide)) W,
    Rx.gives 8 fun W _ => idx_ev (T := 175) (e := 29) (l := portL) (k := .u16) (kk := .u8) (by kernel_rfl) (by kernel_rfl) (by kernel_rfl) (tmod_lt p0 16 (by decide)) W]
def flV (fl : Int) : Int := if fl.tmod 4 < 2 then 2 else fl
def wireV (k p f t b p0 p1 fl : Int) (s : ByteArray) : Value := .agg #[.int .u8 k, .int .u8 p, .int .u8 f, .int .u8 t, .int .u8 b, .int .u8 p0, .int .u8 p1, .int .u8 fl, .string s]
theorem w_flags (k p f t b p0 p1 fl : Int) (s : ByteArray) (w : World) : Calls Tryz.prog 36 #[wireV k p f t b p0 p1 fl s] w (Ret (.int .u8 (flV fl)) w) := by
  unfold flV
  split
  · rename_i h
    exact Rx.run (args := [wireV k p f t b p0 p1 fl s]) [Rx.yes 6 (decide_eq_true h)]
  · rename_i h
    exact Rx.run (args := [wireV k p f t b p0 p1 fl s]) [Rx.no 6 (decide_eq_false h)]
def wireT (p f t p0 p1 fl : Int) : Tup := if protoV p = 1 then (if fl.tmod 4 = 0 then ⟨protoV p, hostV f, 0, hostV t, portV p1⟩ else ⟨protoV p, hostV f, portV p0, hostV t, 0⟩) else ⟨protoV p, hostV f, portV p0, hostV t, portV p1⟩
theorem w_Tuple (k p f t b p0 p1 fl : Int) (s : ByteArray) (w : World) (h : 0 ≤ p ∧ 0 ≤ f ∧ 0 ≤ t ∧ 0 ≤ p0 ∧ 0 ≤ p1 ∧ 0 ≤ fl) : Calls Tryz.prog 35 #[wireV k p f t b p0 p1 fl s] w (Ret (.agg #[.int .u8 (wireT p f t p0 p1 fl).p, .int .u32 (wireT p f t p0 p1 fl).a, .int .u16 (wireT p f t p0 p1 fl).b, .int .u32 (wireT p f t p0 p1 fl).c, .int .u16 (wireT p f t p0 p1 fl).d]) w) := by
  have c1 : ∀ W, (Rx.Amb.of w).S W → Calls Tryz.prog 34 #[.int .u8 f, .int .u8 p0] W (Ret (.agg #[.int .u32 (hostV f), .int .u16 (portV p0)]) W) := fun W _ => w_point f p0 W h.2.1 h.2.2.2.1
  have c2 : ∀ W, (Rx.Amb.of w).S W → Calls Tryz.prog 34 #[.int .u8 t, .int .u8 p1] W (Ret (.agg #[.int .u32 (hostV t), .int .u16 (portV p1)]) W) := fun W _ => w_point t p1 W h.2.2.1 h.2.2.2.2.1
  unfold wireT
  split
  · rename_i hp
    split
    · rename_i hf
      exact Rx.run (args := [wireV k p f t b p0 p1 fl s]) [Rx.gives 6 fun W _ => idx_ev (T := 176) (e := 5) (l := protoL) (k := .u8) (kk := .u8) (by kernel_rfl) (by kernel_rfl) (by kernel_rfl) (tmod_lt h.1 4 (by decide)) W, Rx.does 12 (args := [.int .u8 f, .int .u8 p0]) c1, Rx.does 18 (args := [.int .u8 t, .int .u8 p1]) c2,
        Rx.isT 25 (b := protoV p == 1) (by simpa using hp), Rx.yes 31 (b := fl.tmod 4 == 0) (by simpa using hf), Rx.isT 38 (b := protoV p == 1) (by simpa using hp), Rx.no 44 (b := decide (fl.tmod 4 > 0)) (by simp [hf])]
    · rename_i hf
      have hg : fl.tmod 4 > 0 := by have := (tmod_lt h.2.2.2.2.2 4 (by decide)).1; omega
      exact Rx.run (args := [wireV k p f t b p0 p1 fl s]) [Rx.gives 6 fun W _ => idx_ev (T := 176) (e := 5) (l := protoL) (k := .u8) (kk := .u8) (by kernel_rfl) (by kernel_rfl) (by kernel_rfl) (tmod_lt h.1 4 (by decide)) W, Rx.does 12 (args := [.int .u8 f, .int .u8 p0]) c1, Rx.does 18 (args := [.int .u8 t, .int .u8 p1]) c2,
        Rx.isT 25 (b := protoV p == 1) (by simpa using hp), Rx.no 31 (b := fl.tmod 4 == 0) (by simpa using hf), Rx.isT 35 (b := protoV p == 1) (by simpa using hp), Rx.yes 41 (b := decide (fl.tmod 4 > 0)) (by simpa using hg)]
  · rename_i hp
    exact Rx.run (args := [wireV k p f t b p0 p1 fl s]) [Rx.gives 6 fun W _ => idx_ev (T := 176) (e := 5) (l := protoL) (k := .u8) (kk := .u8) (by kernel_rfl) (by kernel_rfl) (by kernel_rfl) (tmod_lt h.1 4 (by decide)) W, Rx.does 12 (args := [.int .u8 f, .int .u8 p0]) c1, Rx.does 18 (args := [.int .u8 t, .int .u8 p1]) c2,
        Rx.isF 25 (b := protoV p == 1) (by simpa using hp), Rx.isF 35 (b := protoV p == 1) (by simpa using hp)]
end Go.Proofs.YtilfcikhipadpaaGreatDoor
end

section
/- A ruling: its cells, its rule. -/
set_option linter.unusedVariables false
set_option linter.unusedSimpArgs false
namespace Go.Proofs.YtilfcikhipadpaaGreatDoor
open Go.RowKit Go.Lib Go.ChangeShapes Go.WideShapes Go.Deep Rx
structure Rulg where
  kd : Int
  pr : Int
  a : Int
  b : Int
  c : Int
  r : Rule
def Rulg.cells (x : Rulg) : Array Value := #[.int .u8 x.kd, .int .u8 x.pr, .int .u8 x.a, .int .u8 x.b, .int .u8 x.c, .int .i64 x.r.k, .int .u8 x.r.p, .int .u32 x.r.sa, .int .i64 x.r.sb, .int .u32 x.r.da, .int .i64 x.r.db, .int .u32 x.r.e, .int .u16 x.r.f, .int .u16 x.r.t, .int .u32 x.r.ia, .int .u16 x.r.ip]
structure Rulg.Ok (x : Rulg) : Prop where
  kd : 0 ≤ x.kd ∧ x.kd ≤ 255
  pr : 0 ≤ x.pr ∧ x.pr ≤ 255
  a : 0 ≤ x.a ∧ x.a ≤ 255
  b : 0 ≤ x.b ∧ x.b ≤ 255
  c : 0 ≤ x.c ∧ x.c ≤ 255
  r : x.r.Ok
def rulgK : RowK Rulg where
  k := 16
  T := 118
  S := 47
  bytes := 72
  z := .agg #[.int .u8 0, .int .u8 0, .int .u8 0, .int .u8 0, .int .u8 0, .int .i64 0, .int .u8 0, .int .u32 0, .int .i64 0, .int .u32 0, .int .i64 0, .int .u32 0, .int .u16 0, .int .u16 0, .int .u32 0, .int .u16 0]
  cells := Rulg.cells
  size := fun _ => rfl
  one := fun a v hv => by
    simp only [Rulg.cells, List.mem_cons, List.not_mem_nil, or_false] at hv
    rcases hv with h | h | h | h | h | h | h | h | h | h | h | h | h | h | h | h <;> (subst h; rfl)
  pos := by decide
  tS := by kernel_rfl
  info := by kernel_rfl
  zs := rfl
  few := by decide
theorem rulg_reads : rulgK.Reads Rulg.Ok := by
  intro H enc W base spare held n cs x ht
  obtain ⟨x0, q0, w0⟩ := leaf_int (leafAt_of (n := 8) (i := 0) (u := 5) (by kernel_rfl) ht) Tryz.underlying5
  obtain ⟨x1, q1, w1⟩ := leaf_int (leafAt_of (n := 8) (i := 1) (u := 5) (by kernel_rfl) ht) Tryz.underlying5
  obtain ⟨x2, q2, w2⟩ := leaf_int (leafAt_of (n := 8) (i := 2) (u := 5) (by kernel_rfl) ht) Tryz.underlying5
  obtain ⟨x3, q3, w3⟩ := leaf_int (leafAt_of (n := 8) (i := 3) (u := 5) (by kernel_rfl) ht) Tryz.underlying5
  obtain ⟨x4, q4, w4⟩ := leaf_int (leafAt_of (n := 8) (i := 4) (u := 5) (by kernel_rfl) ht) Tryz.underlying5
  obtain ⟨x5, q5, w5⟩ := leaf_int (leafAt_of (n := 8) (i := 5) (u := 3) (by kernel_rfl) ht) Tryz.underlying3
  obtain ⟨x6, q6, w6⟩ := leaf_int (leafAt_of (n := 8) (i := 6) (u := 5) (by kernel_rfl) ht) Tryz.underlying5
  obtain ⟨x7, q7, w7⟩ := leaf_int (leafAt_of (n := 8) (i := 7) (u := 28) (by kernel_rfl) ht) Tryz.underlying28
  obtain ⟨x8, q8, w8⟩ := leaf_int (leafAt_of (n := 8) (i := 8) (u := 3) (by kernel_rfl) ht) Tryz.underlying3
  obtain ⟨x9, q9, w9⟩ := leaf_int (leafAt_of (n := 8) (i := 9) (u := 28) (by kernel_rfl) ht) Tryz.underlying28
  obtain ⟨x10, q10, w10⟩ := leaf_int (leafAt_of (n := 8) (i := 10) (u := 3) (by kernel_rfl) ht) Tryz.underlying3
  obtain ⟨x11, q11, w11⟩ := leaf_int (leafAt_of (n := 8) (i := 11) (u := 28) (by kernel_rfl) ht) Tryz.underlying28
  obtain ⟨x12, q12, w12⟩ := leaf_int (leafAt_of (n := 8) (i := 12) (u := 29) (by kernel_rfl) ht) Tryz.underlying29
  obtain ⟨x13, q13, w13⟩ := leaf_int (leafAt_of (n := 8) (i := 13) (u := 29) (by kernel_rfl) ht) Tryz.underlying29
  obtain ⟨x14, q14, w14⟩ := leaf_int (leafAt_of (n := 8) (i := 14) (u := 28) (by kernel_rfl) ht) Tryz.underlying28
  obtain ⟨x15, q15, w15⟩ := leaf_int (leafAt_of (n := 8) (i := 15) (u := 29) (by kernel_rfl) ht) Tryz.underlying29
  refine ⟨⟨x0, x1, x2, x3, x4, ⟨x5, x6, x7, x8, x9, x10, x11, x12, x13, x14, x15⟩⟩, ⟨bounds_u8 w0, bounds_u8 w1, bounds_u8 w2, bounds_u8 w3, bounds_u8 w4, ⟨bounds_u8 w6, bounds_u32 w7, bounds_u32 w9, bounds_u32 w11, bounds_u16 w12, bounds_u16 w13, bounds_u32 w14, bounds_u16 w15⟩⟩, fun j u hu => ?_⟩
  have hj : j < 16 := by
    have := (List.getElem?_eq_some_iff.1 hu).1
    simpa [rulgK, Rulg.cells] using this
  match j, hj with
  | 0, _ => rw [q0]; exact hu
  | 1, _ => rw [q1]; exact hu
  | 2, _ => rw [q2]; exact hu
  | 3, _ => rw [q3]; exact hu
  | 4, _ => rw [q4]; exact hu
  | 5, _ => rw [q5]; exact hu
  | 6, _ => rw [q6]; exact hu
  | 7, _ => rw [q7]; exact hu
  | 8, _ => rw [q8]; exact hu
  | 9, _ => rw [q9]; exact hu
  | 10, _ => rw [q10]; exact hu
  | 11, _ => rw [q11]; exact hu
  | 12, _ => rw [q12]; exact hu
  | 13, _ => rw [q13]; exact hu
  | 14, _ => rw [q14]; exact hu
  | 15, _ => rw [q15]; exact hu
theorem open_rulings {H : Type} {enc : TypeId × Value → H} {W : World} {base : Nat} {spare : Nat → Bool} {held : Bool} {fuel : Nat} {v : Value} {x : DataW H × List MemPlace}
    (h : DataW.trod enc Tryz.prog W base spare held fuel 47 [v] = some x) : ∃ A n c l, v = .slice A n c ∧ n = l.length ∧ n ≤ c ∧ rulgK.Has W A l ∧ rulgK.Read W (.slice A n c) l ∧ (∀ d ∈ l, d.Ok) ∧ n ≤ 9223372036854775807 :=
  RowK.opened rulgK Rulg.Ok (by kernel_rfl) rulg_reads h
theorem u16b (x : Int) : 0 ≤ IntKind.wrap .u16 x ∧ IntKind.wrap .u16 x ≤ 65535 := bounds_u16 (wf_wrap _ _)
theorem u32b (x : Int) : 0 ≤ IntKind.wrap .u32 x ∧ IntKind.wrap .u32 x ≤ 4294967295 := bounds_u32 (wf_wrap _ _)
theorem getD_in {l : List Int} {i : Nat} {P : Int → Prop} (h0 : P 0) (h : ∀ x ∈ l, P x) : P (l.getD i 0) := getD_all h h0 i
/-- the rule of a ruling -/
theorem w_Rule (x : Rulg) (hx : x.Ok) : ∃ r : Rule, r.Ok ∧ ∀ W, Calls Tryz.prog 44 #[.agg (rulgK.cells x)] W (Ret (.agg (ruL r).toArray) W) := by
  obtain ⟨kd, pr, a, b, c, r⟩ := x
  obtain ⟨h1, h2, h3, h4, h5, h6⟩ := hx
  simp only at h1 h2 h3 h4 h5 h6
  have z : (0 : Int) ≤ 0 ∧ (0 : Int) ≤ 4294967295 := by decide
  have zq : (0 : Int) ≤ 167772160 ∧ (167772160 : Int) ≤ 4294967295 := by decide
  have zr : (0 : Int) ≤ 134217728 ∧ (134217728 : Int) ≤ 4294967295 := by decide
  have z2 : (0 : Int) ≤ 0 ∧ (0 : Int) ≤ 65535 := by decide
  have pd : ∀ i : Nat, 0 ≤ [(0 : Int), 17, 6, 1].getD i 0 ∧ [(0 : Int), 17, 6, 1].getD i 0 ≤ 255 := fun i => getD_in (P := fun x => 0 ≤ x ∧ x ≤ 255) (by decide) (by decide)
  have pe : ∀ i : Nat, 0 ≤ [(17 : Int), 6].getD i 0 ∧ [(17 : Int), 6].getD i 0 ≤ 255 := fun i => getD_in (P := fun x => 0 ≤ x ∧ x ≤ 255) (by decide) (by decide)
  let g0 : ∀ w : World, Ev Tryz.prog (Amb.of w) := fun w => gives 17 fun W _ => idx_ev (T := 176) (e := 5) (l := [0, 17, 6, 1]) (k := .u8) (kk := .u8) (by kernel_rfl) (by kernel_rfl) (by kernel_rfl) (tmod_lt h2.1 4 (by decide)) W
  let g1 : ∀ (w : World) (n : Nat), Ev Tryz.prog (Amb.of w) := fun w n => gives n fun W _ => idx_ev (T := 22) (e := 5) (l := [17, 6]) (k := .u8) (kk := .u8) (by kernel_rfl) (by kernel_rfl) (by kernel_rfl) (tmod_lt h2.1 2 (by decide)) W
  by_cases k2 : kd.tmod 6 = 2
  · by_cases kc : bits .and .u8 c 32 > 0
    · exact ⟨⟨1, [0, 17, 6, 1].getD (pr.tmod 4).toNat 0, 167772160, (IntKind.wrap .i64 (8 + IntKind.wrap .i64 (bits .and .u8 c 16))), 134217728, 5, (IntKind.wrap .u32 (151587092 + IntKind.wrap .u32 (c.tmod 2))), (IntKind.wrap .u16 (1000 + IntKind.wrap .u16 (a.tmod 8))), (IntKind.wrap .u16 ((IntKind.wrap .u16 (1000 + IntKind.wrap .u16 (a.tmod 8))) + IntKind.wrap .u16 (b.tmod 8))), 0, 0⟩, ⟨pd _, zq, zr, u32b _, u16b _, u16b _, z, z2⟩, fun W => Rx.run (args := [.agg (rulgK.cells ⟨kd, pr, a, b, c, r⟩)]) [g0 W, yes 42 (b := kd.tmod 6 == 2) (by simpa using k2), yes 56 (b := decide (bits .and .u8 c 32 > 0)) (by simpa using kc)]⟩
    · exact ⟨⟨1, [0, 17, 6, 1].getD (pr.tmod 4).toNat 0, 167772160, (IntKind.wrap .i64 (8 + IntKind.wrap .i64 (bits .and .u8 c 16))), 0, 0, (IntKind.wrap .u32 (151587092 + IntKind.wrap .u32 (c.tmod 2))), (IntKind.wrap .u16 (1000 + IntKind.wrap .u16 (a.tmod 8))), (IntKind.wrap .u16 ((IntKind.wrap .u16 (1000 + IntKind.wrap .u16 (a.tmod 8))) + IntKind.wrap .u16 (b.tmod 8))), 0, 0⟩, ⟨pd _, zq, z, u32b _, u16b _, u16b _, z, z2⟩, fun W => Rx.run (args := [.agg (rulgK.cells ⟨kd, pr, a, b, c, r⟩)]) [g0 W, yes 42 (b := kd.tmod 6 == 2) (by simpa using k2), no 56 (b := decide (bits .and .u8 c 32 > 0)) (by simpa using kc)]⟩
  have n2 : (kd.tmod 6 == 2) = false := by simpa using k2
  by_cases k3 : kd.tmod 6 = 3
  · exact ⟨⟨3, [17, 6].getD (pr.tmod 2).toNat 0, 0, 0, 0, 0, (IntKind.wrap .u32 (151587081 + IntKind.wrap .u32 (11 * IntKind.wrap .u32 (c.tmod 2)))), (IntKind.wrap .u16 (80 + IntKind.wrap .u16 (a.tmod 4))), (IntKind.wrap .u16 (80 + IntKind.wrap .u16 (a.tmod 4))), (IntKind.wrap .u32 (167772161 + IntKind.wrap .u32 (b.tmod 3))), (IntKind.wrap .u16 (8000 + IntKind.wrap .u16 ((IntKind.wrap .u8 (c.tdiv 2)).tmod 2)))⟩, ⟨pe _, z, z, u32b _, u16b _, u16b _, u32b _, u16b _⟩, fun W => Rx.run (args := [.agg (rulgK.cells ⟨kd, pr, a, b, c, r⟩)]) [g0 W, no 42 n2, yes 45 (b := kd.tmod 6 == 3) (by simpa using k3), yes 46 (b := kd.tmod 6 == 3) (by simpa using k3), g1 W 51]⟩
  have n3 : (kd.tmod 6 == 3) = false := by simpa using k3
  by_cases k4 : kd.tmod 6 = 4
  · exact ⟨⟨3, [17, 6].getD (pr.tmod 2).toNat 0, 0, 0, 0, 0, (IntKind.wrap .u32 (151587081 + IntKind.wrap .u32 (11 * IntKind.wrap .u32 (c.tmod 2)))), (IntKind.wrap .u16 (80 + IntKind.wrap .u16 (a.tmod 4))), (IntKind.wrap .u16 (80 + IntKind.wrap .u16 (a.tmod 4))), (IntKind.wrap .u32 (167772161 + IntKind.wrap .u32 (b.tmod 3))), (IntKind.wrap .u16 (8000 + IntKind.wrap .u16 ((IntKind.wrap .u8 (c.tdiv 2)).tmod 2)))⟩, ⟨pe _, z, z, u32b _, u16b _, u16b _, u32b _, u16b _⟩, fun W => Rx.run (args := [.agg (rulgK.cells ⟨kd, pr, a, b, c, r⟩)]) [g0 W, no 42 n2, no 45 n3, yes 48 (b := kd.tmod 6 == 4) (by simpa using k4), g1 W 53]⟩
  have n4 : (kd.tmod 6 == 4) = false := by simpa using k4
  by_cases k5 : kd.tmod 6 = 5
  · exact ⟨r, h6, fun W => Rx.run (args := [.agg (rulgK.cells ⟨kd, pr, a, b, c, r⟩)]) [g0 W, no 42 n2, no 45 n3, no 48 n4, yes 51 (b := kd.tmod 6 == 5) (by simpa using k5)]⟩
  · exact ⟨⟨2, [0, 17, 6, 1].getD (pr.tmod 4).toNat 0, 167772160, (IntKind.wrap .i64 (8 + IntKind.wrap .i64 (bits .and .u8 c 16))), 0, 0, 0, (IntKind.wrap .u16 (1000 + IntKind.wrap .u16 (a.tmod 8))), (IntKind.wrap .u16 ((IntKind.wrap .u16 (1000 + IntKind.wrap .u16 (a.tmod 8))) + IntKind.wrap .u16 (b.tmod 8))), 0, 0⟩, ⟨pd _, zq, z, z, u16b _, u16b _, z, z2⟩, fun W => Rx.run (args := [.agg (rulgK.cells ⟨kd, pr, a, b, c, r⟩)]) [g0 W, no 42 n2, no 45 n3, no 48 n4, no 51 (b := kd.tmod 6 == 5) (by simpa using k5)]⟩
end Go.Proofs.YtilfcikhipadpaaGreatDoor
end

section
/- the document's rules: Add, by the executor. -/
set_option linter.unusedVariables false
set_option linter.unusedSimpArgs false
namespace Go.Proofs.YtilfcikhipadpaaGreatDoor
open Go.RowKit Go.Lib Rx
variable {A : Amb} {rs : List Rule} {o ip b : Int}
theorem dadd_clash (r : Rule) (hip : 0 ≤ ip ∧ ip ≤ 4294967295) (hr : r.Ok) (hc : mayR ip b r = true) (hl : ¬ 32 ≤ rs.length) (hx : (rs.any fun x => dcq o x r) = true) : CallJ Tryz.prog A 45 [ptr 0, .int .i64 (rs.length : Int), .agg (ruL r).toArray] (daM o ip b rs) 2 (.int .i64 11) (daM o ip b rs) 2 := by
  have k := dmy_J (A := A) o ip b (.slice (some ⟨1, 0, some 0⟩) rs.length 0) r hip hr 3
  rw [hc] at k
  rcases find_cases (fun x => dcq o x r) rs with ⟨j, hj, q1, q2, _, _⟩ | ⟨_, _, q3⟩
  · exact (con (nx' := 3) [calls 4 3 0 k, isF 10 (b := decide ((rs.length : Int) < 0)) (by simp), no 19 (b := decide ((rs.length : Int) > rs.length)) (by simp), no 26 (b := decide ((rs.length : Int) > 31)) (by simp; omega),
      loops 28 3 0 (loopJ (dc_V o ip b r rs) (fun _ => dc_M o ip b r rs) j (fun i hi => dc_on o ip b r i (by omega) (by omega) (q1 i hi)) (d := 0) (dc_hit o ip b r j hj (by omega) q2))]).drop (h2 := daM_in o ip b rs) (h4 := daM_in o ip b rs)
  · rw [q3] at hx; cases hx
theorem dadd_yes (r : Rule) (hip : 0 ≤ ip ∧ ip ≤ 4294967295) (hr : r.Ok) (hc : mayR ip b r = true) (hl : ¬ 32 ≤ rs.length) (h0 : rs ≠ []) (hx : (rs.any fun x => dcq o x r) = false) : CallJ Tryz.prog A 45 [ptr 0, .int .i64 (rs.length : Int), .agg (ruL r).toArray] (daM o ip b rs) 2 (.int .i64 0) [(0, daB o ip b (.slice (some ⟨2, 0, some 0⟩) (rs ++ [r]).length 0)), (2, ruB (rs ++ [r]))] 3 := by
  have k := dmy_J (A := A) o ip b (.slice (some ⟨1, 0, some 0⟩) rs.length 0) r hip hr 3
  rw [hc] at k
  rcases find_cases (fun x => dcq o x r) rs with ⟨j, hj, q1, q2, _, q3⟩ | ⟨q1, _, _⟩
  · rw [q3] at hx; cases hx
  have hL : (rs.flatMap ruL).length = rs.length * 11 := flat_len ruL_len rs
  have hz : rs.length ≠ 0 := fun e => h0 (List.length_eq_zero_iff.1 e)
  have hs : (rs.flatMap ruL).all scal = true := all_flat (fun _ => rfl) rs
  have hL2 : (rs.flatMap ruL ++ ruL r).length = (rs.length + 1) * 11 := by rw [List.length_append, hL, ruL_len]; omega
  have h := con (A := A) (P := Tryz.prog) (f := 45) (args := [ptr 0, .int .i64 (rs.length : Int), .agg (ruL r).toArray]) (sn := daM o ip b rs) (nx := 2) (v := .int .i64 0) (out := [(0, daB o ip b (.slice (some ⟨6, 0, some 0⟩) (rs.length + 1) 0)), (6, (rs.flatMap ruL ++ ruL r, 68, true))]) (nx' := 7)
    [calls 4 3 0 k, isF 10 (b := decide ((rs.length : Int) < 0)) (by simp), no 19 (b := decide ((rs.length : Int) > rs.length)) (by simp), no 26 (b := decide ((rs.length : Int) > 31)) (by simp; omega),
      loops 28 3 0 (loopJ (dc_V o ip b r rs) (fun _ => dc_M o ip b r rs) rs.length (fun i hi => dc_on o ip b r i hi (by omega) (q1 _ (List.getElem_mem hi))) (d := 0) (dc_end r)),
      slH 34 3 (T := 115) (ty := 115) (e := 68) (s := 11) (id := 1) (k := rs.length) hL,
      apN 35 3 (sT := 115) (xT := 115) (ty := 115) (e := 68) (e3 := 68) (s := 11) (j := 1) (k := rs.length) (c2 := 0) (q2 := 0) (e2 := 68) (r2 := true) (new := rs.flatMap ruL) hL hs ⟨by omega, by omega⟩,
      ap 38 5 (sT := 115) (xT := 115) (ty := 115) (e := 68) (e3 := 68) (s := 11) (id := 3) (j := 4) (m := rs.length) (k := 1) (q2 := 1) (c2 := 1) (e2 := 68) (r2 := true) (new := ruL r) hL rfl rfl ⟨by omega, by omega⟩ (by omega),
      slE1 44 6 (T := 115) (ty := 115) (e := 68) (s := 11) (id := 1) (k := rs.length) hL hz,
      ap0 45 6 (sT := 115) (xT := 115) (ty := 115) (e := 68) (e3 := 68) (s := 11) (id := 5) (j := 1) (m := rs.length + 1) (off := rs.length * 11) (c2 := rs.length) (bj := ruB rs) hL2 (by omega)]
  have hn : rs.length + 1 = (rs ++ [r]).length := by simp
  rw [flat_snoc, hn] at h
  have := h.re (d := 5) [6] (h4 := by
    simp only [liveB, List.all_cons, List.all_nil, all_flat (p := in0 (live [6] 2)) (f := ruL) (fun _ => rfl)]
    rfl) (h2 := daM_in o ip b rs)
  refine this.eq rfl ?_
  simp only [List.map_cons, List.map_nil, idB, flat_id (f := ruL) (fun _ => rfl)]
  rfl
theorem dadd0_no (r : Rule) (hip : 0 ≤ ip ∧ ip ≤ 4294967295) (hr : r.Ok) (hc : mayR ip b r = false) : CallJ Tryz.prog A 45 [ptr 0, .int .i64 0, .agg (ruL r).toArray] (dnM o ip b) 2 (.int .i64 2) (dnM o ip b) 2 := by
  have k := dmy_J (A := A) o ip b (.slice none 0 0) r hip hr 3
  rw [hc] at k
  exact (con (nx' := 3) [calls 4 3 0 k]).drop
end Go.Proofs.YtilfcikhipadpaaGreatDoor
end

section
/- Loops whose state may change its shape: round by round. No program. -/
set_option linter.unusedVariables false
set_option linter.unusedSimpArgs false
namespace Go.Proofs.YtilfcikhipadpaaGreatDoor
open Go.RowKit Go.Lib
namespace Rx
variable {P : Program} {A : Amb}
/-- a loop, from a state behind the one at its head (whose blocks are sn0) to its end -/
def LoopI (P : Program) (A : Amb) (c : Code) (n : Nat) (sn0 : List (Nat × Blk)) (nx m : Nat) (vals : List (Nat × Value)) (sn : List (Nat × Blk)) (x : X) (v2 : List (Nat × Value)) (o2 : List (Nat × Blk)) (m2 : Nat) : Prop :=
  ∀ (E : Nat → Prop) (ρ : Nm) (w : World) (ρ1 : Nm) (a1 : Act) (w1 : World) (Q1 : Exit → Act → World → Prop), (∀ i, E i → i < nx) → MemOK P A E ρ (memL sn0) w → FrL (ext E nx (nx + m)) ρ1 vals a1 → a1.tmps.size = n → a1.defers = [] →
    Aft P A E ρ (memL sn0) nx w undef (outLog sn0 sn) (nx + m) ρ1 w1 →
    (∀ ρ' a' w', FrL (ext E nx (nx + m2)) ρ' v2 a' → a'.tmps.size = n → a'.defers = [] → Aft P A E ρ (memL sn0) nx w undef (outLog sn0 o2) (nx + m2) ρ' w' → Q1 (exitOf x) a' w') → wpL P c Q1 a1 w1
theorem CodeR.one {c : Code} {n nx m m2 : Nat} {sn0 sn o2 : List (Nat × Blk)} {vals v2 : List (Nat × Value)} {x : X} (h : CodeR P A c n vals sn (sn0.map (·.1)) nx m x v2 o2 m2) (ho : outOK (sn0.map (·.1)) nx m sn = true)
    {E : Nat → Prop} {ρ : Nm} {w : World} {ρ1 : Nm} {a1 : Act} {w1 : World} {Q1 : Exit → Act → World → Prop} (hlt : ∀ i, E i → i < nx) (hm0 : MemOK P A E ρ (memL sn0) w) (g1 : FrL (ext E nx (nx + m)) ρ1 vals a1) (g2 : a1.tmps.size = n) (g3 : a1.defers = [])
    (g4 : Aft P A E ρ (memL sn0) nx w undef (outLog sn0 sn) (nx + m) ρ1 w1)
    (kk : ∀ ρ' a' w', FrL (ext E nx (nx + m2)) ρ' v2 a' → a'.tmps.size = n → a'.defers = [] → Aft P A E ρ (memL sn0) nx w undef (outLog sn0 o2) (nx + m2) ρ' w' → Q1 (exitOf x) a' w') : c.wp P Q1 a1 w1 := by
  obtain ⟨τ', d, v1, o1, hc, rfl, hn', ho1, ho2, hl1, hl2, rfl, rfl⟩ := h
  have m1 := g4.mem
  rw [outLog_eq] at m1
  refine hc _ ρ1 a1 w1 Q1 g1 g2 g3 m1 (fun i hi h => by
    rcases hi with hi | hi
    · have := hlt i hi; omega
    · omega) fun ρ2 a2 w2 q1 q2 q3 q4 => ?_
  have lo1 : LogOK (memL sn0) nx (nx + m) (outLog sn0 sn) := outLog_ok2 ho
  obtain ⟨t1, t2⟩ := CodeJ.trans_aft (n := n) (Nat.le_add_right _ _) (Nat.le_add_right _ _) lo1 (outLog_ok2 ho1) hm0 (fun i hi h => by have := hlt i hi; omega) g1 g2 g3 g4 q1 q2 q3 q4
  have lo2 : LogOK (memL sn0) nx (nx + m + d) (outLog sn0 o1) := by rw [Nat.add_assoc]; exact outLog_ok2 ho2
  obtain ⟨ρ3, t3, hv3⟩ := Aft.re τ' hm0 (fun i hi h => by have := hlt i hi; omega) t2 hn' lo2 rfl hl2
  exact kk ρ3 a2 w2 (t1.re hl1 hv3) q2 q3 t3
/-- the last round -/
theorem LoopI.nil {c : Code} {n nx m m2 : Nat} {sn0 sn o2 : List (Nat × Blk)} {vals v2 : List (Nat × Value)} {x : X} (h : CodeR P A c n vals sn (sn0.map (·.1)) nx m x v2 o2 m2) (ho : outOK (sn0.map (·.1)) nx m sn = true := by kernel_rfl) (hx : x ≠ .nrm := by intro h; cases h) : LoopI P A c n sn0 nx m vals sn x v2 o2 m2 :=
  fun E ρ w ρ1 a1 w1 Q1 hlt hm0 g1 g2 g3 g4 kk => wpL_step (h.one ho hlt hm0 g1 g2 g3 g4 fun ρ' a' w' q1 q2 q3 q4 => by
    have := kk ρ' a' w' q1 q2 q3 q4
    cases x <;> first | exact absurd rfl hx | exact this)
/-- a round, and the others -/
theorem LoopI.cons {c : Code} {n nx m m1 m2 : Nat} {sn0 sn o1 o2 : List (Nat × Blk)} {vals v1 v2 : List (Nat × Value)} {x : X} (h : CodeR P A c n vals sn (sn0.map (·.1)) nx m .nrm v1 o1 m1) (k : LoopI P A c n sn0 nx m1 v1 o1 x v2 o2 m2) (ho : outOK (sn0.map (·.1)) nx m sn = true := by kernel_rfl) : LoopI P A c n sn0 nx m vals sn x v2 o2 m2 :=
  fun E ρ w ρ1 a1 w1 Q1 hlt hm0 g1 g2 g3 g4 kk => wpL_step (h.one ho hlt hm0 g1 g2 g3 g4 fun ρ' a' w' q1 q2 q3 q4 => k E ρ w ρ' a' w' Q1 hlt hm0 q1 q2 q3 q4 kk)
/-- the loop as a piece of code -/
theorem LoopI.toJ {c : Code} {n nx m2 : Nat} {sn0 o2 s1 : List (Nat × Blk)} {vals v1 v2 : List (Nat × Value)} {x : X} (τ : List Nat) (k : LoopI P A c n sn0 nx τ.length v1 s1 x v2 o2 m2)
    (hv : (vals.map fun e => (e.1, idV (mov τ nx) e.2)) = v1 := by kernel_rfl) (hs : sn0.map (idB (mov τ nx)) = s1 := by kernel_rfl) (hn : τ.Nodup := by decide)
    (l1 : vals.all (fun e => liveV τ nx e.2) = true := by kernel_rfl) (l2 : liveB τ nx sn0 = true := by kernel_rfl) (i1 : inVals nx vals = true := by kernel_rfl) (i2 : inBlks nx sn0 = true := by kernel_rfl) :
    CodeJ P A (.loop c) n vals sn0 nx x v2 o2 (nx + m2) := by
  intro D ρ a w Q hf hsz hdf hmem hd hk
  refine wp_of_wpL ?_
  have hf0 : FrL (fun i => D i ∧ i < nx) ρ vals a := fun t u hu => ⟨(hf t u hu).1, (hf t u hu).2.inter (Fit.of_in (List.all_eq_true.1 i1 _ (envL_mem hu)))⟩
  have hm0 := hmem.below i2
  generalize hE : (fun i => D i ∧ i < nx) = E at hf0 hm0
  have hlt : ∀ i, E i → i < nx := fun i hi => by rw [← hE] at hi; exact hi.2
  have hED : ∀ i, E i → D i := fun i hi => by rw [← hE] at hi; exact hi.1
  have k0 : Aft P A E ρ (memL sn0) nx w undef (outLog sn0 sn0) nx ρ w := ⟨fun _ _ => rfl, Fit.real rfl, by
    rw [outLog_eq]
    exact ⟨hm0.s, fun e => ⟨Or.inl (hm0.dom e).1, (hm0.dom e).2⟩, fun e v hv => (hm0.fit e v hv).mono fun i hi => Or.inl hi, hm0.lies, hm0.inj⟩, Kept.refl _ _, fun i b h1 h2 => by omega⟩
  obtain ⟨ρ1, t1, hv1⟩ := Aft.re τ hm0 (fun i hi h => by have := hlt i hi; omega) k0 hn (outLog_ok2 (d := 0) (outOK_same rfl)) rfl l2
  have f1 : FrL (ext E nx (nx + τ.length)) ρ1 v1 a := by
    rw [← hv]
    exact FrL.re (nx' := nx) (fun t u hu => ⟨(hf0 t u hu).1, (hf0 t u hu).2.mono fun i hi => Or.inl hi⟩) l1 hv1
  rw [hs] at t1
  exact k E ρ w ρ1 a w Q hlt hm0 f1 hsz hdf t1 fun ρ' a' w' g1 g2 g3 g4 =>
    hk ρ' a' w' (fun t u hu => ⟨(g1 t u hu).1, (g1 t u hu).2.mono fun i hi => hi.imp (hED i) id⟩) g2 g3 (g4.wide hED)
end Rx
end Go.Proofs.YtilfcikhipadpaaGreatDoor
end
