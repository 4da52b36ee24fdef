/- Several texts of this claim, one behind the other. -/
import Derived.Test.YtilfcikhipadpaaDoorProg
import Derived.Test.YtilfcikhipadpaaDoorRows
import Derived.Test.YtilfcikhipadpaaDoorM2
import Derived.Deep.Upon
import Derived.Deep.CutRange
import Derived.Maps.OwnOps
import Derived.Maps.OwnSet
import Derived.Maps.StringElems
import Derived.Test.YtilfcikhipadpaaDoorM17
import Derived.Test.YtilfcikhipadpaaDoorM18

section
/- tuples.words, as the program lays it: whether a protocol is there; tuples.May. -/
set_option linter.unusedVariables false
set_option linter.unusedSimpArgs false
namespace Go.Proofs.YtilfcikhipadpaaDoor
open Go.RowKit Go.Maps
attribute [local go_sem] Oper.semAt_some

/-- the protocols' words, as they lie -/
def Wds (w : World) : Prop :=
  ∃ b n, w.cell? ⟨1, 0, none⟩ = some (.map (some b)) ∧ w.ownsMap (H := Unit) Tryd.prog 5 (plainElem Tryd.prog 9) b n Rows.laid_porter_tuples_words
theorem Wds.below {w w' : World} (h : Wds w) (k : Below w.heap.size w w') : Wds w' := by
  obtain ⟨b, n, hc, es, clock, hb, hF⟩ := h
  exact ⟨b, n, cellAt k hc, es, clock, (k.block b (Array.getElem?_eq_some_iff.1 hb).1).trans hb, hF⟩
/-- one of the three -/
def isProto (p : Int) : Bool := p == 1 || (p == 6 || p == 17)
def wordB (t : Nat) : Bool := Maps.has (Rows.laid_porter_tuples_words (H := Unit)) (.int .u8 (t : Int)) == isProto t
theorem words_b : (List.range 256).all wordB = true := by kernel_rfl
/-- what a look into the words gives, in the world at hand and in all that follow -/
theorem Wds.look {w : World} (h : Wds w) : ∃ b, ∀ W, Below w.heap.size w W → W.cell? ⟨1, 0, none⟩ = some (.map (some b)) ∧
    ∀ t : Int, 0 ≤ t ∧ t ≤ 255 → ∃ v, (Instr.lookup 102 (.map (some b)) (.int .u8 t) true).run Tryd.prog W = .ok (.tuple #[v, .bool (isProto t)]) W := by
  obtain ⟨b, n, hc, es, clock, hb, hF⟩ := h
  refine ⟨b, fun W k => ⟨cellAt k hc, fun t ht => ?_⟩⟩
  have hown : W.ownsMap (H := Unit) Tryd.prog 5 (plainElem Tryd.prog 9) b n Rows.laid_porter_tuples_words := ⟨es, clock, (k.block b (Array.getElem?_eq_some_iff.1 hb).1).trans hb, hF⟩
  obtain ⟨v, ps, hrun, _⟩ := hown.look_ok (t := 102) (e := 9) (int_keyed Tryd.underlying5) Tryd.underlying102 (z := .string { data := #[] }) (by kernel_rfl) (zd := .lit (.string [])) (zp := []) (by kernel_rfl) (key := .int .u8 t) (keyOf_int_mk Tryd.underlying5 (by go_wf))
  have h1 := List.all_eq_true.1 words_b t.toNat (List.mem_range.2 (by omega))
  unfold wordB at h1
  rw [beq_iff_eq, Int.toNat_of_nonneg ht.1] at h1
  rw [h1] at hrun
  exact ⟨v, hrun⟩
/-- may a tuple be? -/
def tupMay (p b d : Int) : Bool := isProto p && (p != 1 || (b == 0 || d == 0))
set_option maxHeartbeats 2000000 in
set_option maxRecDepth 100000 in
theorem tu_May (w : World) (p a b c d : Int) (hW : Wds w) (hp : 0 ≤ p ∧ p ≤ 255) : Calls Tryd.prog 25 #[.agg #[.int .u8 p, .int .u32 a, .int .u16 b, .int .u32 c, .int .u16 d]] w (Ret (.bool (tupMay p b d)) w) := by
  obtain ⟨bm, hl⟩ := hW.look
  have HL := hide hl
  clear hW hl
  unfold tupMay
  obtain ⟨x1, q1⟩ : ∃ x1, isProto p = x1 := ⟨_, rfl⟩
  obtain ⟨x2, q2⟩ : ∃ x2, (p != 1) = x2 := ⟨_, rfl⟩
  obtain ⟨x3, q3⟩ : ∃ x3, (b == 0) = x3 := ⟨_, rfl⟩
  obtain ⟨x4, q4⟩ : ∃ x4, (d == 0) = x4 := ⟨_, rfl⟩
  rw [q1, q2, q3, q4]
  have Q1 := hide q1; have HP := hide hp
  clear q1 hp
  go_enter Tryd.func25, Tryd.ntmps25
  have d0 := Cells.new w #[.int .u8 p, .int .u32 a, .int .u16 b, .int .u32 c, .int .u16 d] 28
  have l0 : Below w.heap.size w (w.alloc (.cells #[.int .u8 p, .int .u32 a, .int .u16 b, .int .u32 c, .int .u16 d] 28)) := (fresh_below _ _)
  have L0 := hide l0; have D0 := hide d0
  clear l0 d0
  go_upto_region 1 with fail
  have l0 := L0.out; have d0 := D0.out
  clear L0 D0
  generalize (w.alloc (.cells #[.int .u8 p, .int .u32 a, .int .u16 b, .int .u32 c, .int .u16 d] 28)) = w1 at *
  have qd0_0 : ∀ W', Below w1.heap.size w1 W' → World.cell? W' ⟨w.heap.size, 0, none⟩ = some (.int .u8 p) := fun W' h => Cells.at_ (Cells.below h d0) 0
  have qd0_1 : ∀ W', Below w1.heap.size w1 W' → World.cell? W' ⟨w.heap.size, 1, none⟩ = some (.int .u32 a) := fun W' h => Cells.at_ (Cells.below h d0) 1
  have qd0_2 : ∀ W', Below w1.heap.size w1 W' → World.cell? W' ⟨w.heap.size, 2, none⟩ = some (.int .u16 b) := fun W' h => Cells.at_ (Cells.below h d0) 2
  have qd0_3 : ∀ W', Below w1.heap.size w1 W' → World.cell? W' ⟨w.heap.size, 3, none⟩ = some (.int .u32 c) := fun W' h => Cells.at_ (Cells.below h d0) 3
  have qd0_4 : ∀ W', Below w1.heap.size w1 W' → World.cell? W' ⟨w.heap.size, 4, none⟩ = some (.int .u16 d) := fun W' h => Cells.at_ (Cells.below h d0) 4
  have bb : Below w1.heap.size w1 w1 := Below.refl _ _
  have L0 := hide l0; have D0 := hide d0
  clear l0 d0
  obtain ⟨h1, h2⟩ := HL.out w1 L0.out
  obtain ⟨v, h3⟩ := h2 p HP.out
  rw [Q1.out] at h3
  clear h2
  cases x1
  · go_wp2_with fail
    go_ret
    exact ⟨rfl, L0.out⟩
  · cases x2
    · cases x3
      · go_wp2_with fail
        go_ret
        exact ⟨rfl, L0.out⟩
      · go_wp2_with fail
        go_ret
        exact ⟨rfl, L0.out⟩
    · go_wp2_with fail
      go_ret
      exact ⟨rfl, L0.out⟩
end Go.Proofs.YtilfcikhipadpaaDoor
end

section
/- binds: entries, what they hold, the entry of a plan: plain. -/
set_option linter.unusedVariables false
set_option linter.unusedSimpArgs false
namespace Go.Proofs.YtilfcikhipadpaaDoor
open Go.RowKit Go.Lib

/-- an endpoint -/
structure Pt where
  a : Int
  p : Int
structure Pt.Ok (x : Pt) : Prop where
  a : 0 ≤ x.a ∧ x.a ≤ 4294967295
  p : 0 ≤ x.p ∧ x.p ≤ 65535
def Pt.cells (x : Pt) : Array Value := #[.int .u32 x.a, .int .u16 x.p]
/-- an outer endpoint, and whose it is -/
structure Hld where
  oa : Int
  op : Int
  ia : Int
  ip : Int
def Hld.cells (x : Hld) : Array Value := #[.int .u32 x.oa, .int .u16 x.op, .int .u32 x.ia, .int .u16 x.ip]
def pointK : RowK Pt where
  k := 2
  T := 26
  S := 32
  bytes := 8
  z := .agg #[.int .u32 0, .int .u16 0]
  cells := Pt.cells
  size := fun _ => rfl
  one := fun a v hv => by
    simp only [Pt.cells, List.mem_cons, List.not_mem_nil, or_false] at hv
    rcases hv with h | h <;> (subst h; rfl)
  pos := by decide
  tS := by kernel_rfl
  info := by kernel_rfl
  zs := rfl
  few := by decide
def holdK : RowK Hld where
  k := 4
  T := 65
  S := 43
  bytes := 16
  z := .agg #[.int .u32 0, .int .u16 0, .int .u32 0, .int .u16 0]
  cells := Hld.cells
  size := fun _ => rfl
  one := fun a v hv => by
    simp only [Hld.cells, List.mem_cons, List.not_mem_nil, or_false] at hv
    rcases hv with h | h | h | h <;> (subst h; rfl)
  pos := by decide
  tS := by kernel_rfl
  info := by kernel_rfl
  zs := rfl
  few := by decide
def dholdK : RowK Hld where
  k := 4
  T := 69
  S := 49
  bytes := 16
  z := .agg #[.int .u32 0, .int .u16 0, .int .u32 0, .int .u16 0]
  cells := Hld.cells
  size := fun _ => rfl
  one := fun a v hv => by
    simp only [Hld.cells, List.mem_cons, List.not_mem_nil, or_false] at hv
    rcases hv with h | h | h | h <;> (subst h; rfl)
  pos := by decide
  tS := by kernel_rfl
  info := by kernel_rfl
  zs := rfl
  few := by decide
def dwantK : RowK Wnt where
  k := 8
  T := 42
  S := 34
  bytes := 28
  z := .agg zeroW.cells
  cells := Wnt.cells
  size := fun _ => rfl
  one := fun a v hv => by
    simp only [Wnt.cells, List.mem_cons, List.not_mem_nil, or_false] at hv
    rcases hv with h | h | h | h | h | h | h | h <;> (subst h; rfl)
  pos := by decide
  tS := by kernel_rfl
  info := by kernel_rfl
  zs := rfl
  few := by decide
/-- a flow -/
structure Ent where
  o : Btw
  r : Btw
  st : Int
  dl : Int
  hs : List Hld
def zeroT : Btw := ⟨0, 0, 0, 0, 0⟩
def zeroE : Ent := ⟨zeroT, zeroT, 0, 0, []⟩
/-- an entry's cells, its holds lying at v -/
def Ent.cells (x : Ent) (v : Value) : Array Value := #[.int .u8 x.o.p, .int .u32 x.o.si, .int .u16 x.o.sp, .int .u32 x.o.di, .int .u16 x.o.dp, .int .u8 x.r.p, .int .u32 x.r.si, .int .u16 x.r.sp, .int .u32 x.r.di, .int .u16 x.r.dp, .int .i64 x.st, .int .i64 x.dl, v]
def sameT (x y : Btw) : Bool := x.p == y.p && (x.si == y.si && (x.sp == y.sp && (x.di == y.di && x.dp == y.dp)))
/-- may an entry be? -/
def entMay (x : Ent) : Bool :=
  tupMay x.o.p x.o.sp x.o.dp && (tupMay x.r.p x.r.sp x.r.dp && (!sameT x.o x.r && (x.o.p == x.r.p && (decide (0 < timeV (flowV x.o.p) x.st) && (decide (0 ≤ x.dl) && (decide (x.dl ≤ 1099511635216) && (decide (1 ≤ x.hs.length) && decide (x.hs.length ≤ 2))))))))
def fitsL (ws : List Wnt) (os : List Pt) : Bool := (ws.zip os).all fun q => fitsV q.1 q.2.a q.2.p
def holdOf (w : Wnt) (o : Pt) : Hld := ⟨o.a, o.p, w.ii, w.ip⟩
def holdsL (ws : List Wnt) (os : List Pt) : List Hld := (ws.zip os).map fun q => holdOf q.1 q.2
theorem zip_snocK {α β : Type} (l : List α) (m : List β) {k : Nat} (h1 : k < l.length) (h2 : k < m.length) : (l.take (k + 1)).zip (m.take (k + 1)) = (l.take k).zip (m.take k) ++ [(l[k], m[k])] := by
  rw [List.take_succ_eq_append_getElem h1, List.take_succ_eq_append_getElem h2, List.zip_append (by simp; omega)]
  rfl
theorem holdsL_snoc (ws : List Wnt) (os : List Pt) {k : Nat} (h1 : k < ws.length) (h2 : k < os.length) : holdsL (ws.take (k + 1)) (os.take (k + 1)) = holdsL (ws.take k) (os.take k) ++ [holdOf ws[k] os[k]] := by
  unfold holdsL; rw [zip_snocK ws os h1 h2]; simp
theorem fitsL_snoc (ws : List Wnt) (os : List Pt) {k : Nat} (h1 : k < ws.length) (h2 : k < os.length) : fitsL (ws.take (k + 1)) (os.take (k + 1)) = (fitsL (ws.take k) (os.take k) && fitsV ws[k] os[k].a os[k].p) := by
  unfold fitsL; rw [zip_snocK ws os h1 h2]; simp
theorem fitsL_no {ws : List Wnt} {os : List Pt} {k : Nat} (h1 : k < ws.length) (h2 : k < os.length) (h : fitsV ws[k] os[k].a os[k].p = false) : fitsL ws os = false := by
  unfold fitsL
  rw [List.all_eq_false]
  refine ⟨(ws[k], os[k]), ?_, by simpa using h⟩
  rw [List.mem_iff_getElem]
  exact ⟨k, by simp; omega, by simp⟩
theorem holdsL_len (ws : List Wnt) (os : List Pt) (h : os.length = ws.length) : (holdsL ws os).length = ws.length := by unfold holdsL; simp; omega
/-- the one who begins, as the others see it -/
def srcOf (q : Pln) (os : List Pt) : Pt := match q.src, os with | true, o :: _ => o | _, _ => ⟨q.x.si, q.x.sp⟩
def entOf (q : Pln) (os : List Pt) (now : Int) : Ent := ⟨q.x, ⟨q.x.p, q.di, q.dp, (srcOf q os).a, (srcOf q os).p⟩, q.st, now + timeV (flowV q.x.p) q.st, holdsL q.ws os⟩
/-- the entry of a plan, its wants being met so, at a tick -/
def makeV (q : Pln) (os : List Pt) (now : Int) : Ent × Int :=
  if os.length ≠ q.ws.length ∨ now < 0 ∨ 1099511627776 < now then (zeroE, 2)
  else if fitsL q.ws os = false then (zeroE, 2)
  else if entMay (entOf q os now) = false then (zeroE, 2)
  else (entOf q os now, 0)
/-- what Make leaves -/
def Made (K : RowK Hld) (w : World) (q : Ent × Int) (e : Ending) (w' : World) : Prop := ∃ v', e = .returned (.tuple #[.agg (q.1.cells v'), .int .i64 q.2]) ∧ K.Own w' v' q.1.hs ∧ (∀ g, v'.ownBlock = some g → w.heap.size ≤ g) ∧ Below w.heap.size w w'
end Go.Proofs.YtilfcikhipadpaaDoor
end
