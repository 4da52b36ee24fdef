/- Several texts of this claim, one behind the other. -/
import Derived.Test.YtilfcikhipadpaaDoorM14

section
/- rules: a table through a run of calls. -/
set_option linter.unusedVariables false
set_option linter.unusedSimpArgs false
namespace Go.Proofs.YtilfcikhipadpaaDoor
open Go.RowKit Go.Lib
attribute [local go_sem] Oper.semAt_some

/-- a table, some calls after 'w0' (where it had the slice v0): nothing else has changed since -/
structure Held (w0 : World) (v0 : Value) (B : Nat) (o ip b : Int) (l : List Rule) (W : World) : Prop where
  ts : ∃ v, TS W B o ip b l v ∧ ∀ g, v.ownBlock = some g → v0.ownBlock = some g ∨ w0.heap.size ≤ g
  only : Only (fun k => k = B ∨ v0.ownBlock = some k) w0 W
theorem Held.start {w : World} {v : Value} {B : Nat} {o ip b : Int} {l : List Rule} (h : TS w B o ip b l v) : Held w v B o ip b l w := ⟨⟨v, h, fun g hg => Or.inl hg⟩, Only.refl _ _⟩
theorem Held.below {w0 W W' : World} {v0 : Value} {B : Nat} {o ip b : Int} {l : List Rule} (h : Held w0 v0 B o ip b l W) (k : Below W.heap.size W W') : Held w0 v0 B o ip b l W' := by
  obtain ⟨⟨v, h1, h2⟩, h3⟩ := h
  exact ⟨⟨v, h1.below k, h2⟩, Only.then h3 k⟩
theorem Only.join {X Y : Nat → Prop} {A C D : World} (h : Only X A C) (k : Only Y C D) (hy : ∀ i, i < A.heap.size → Y i → X i) : Only X A D :=
  ⟨k.os.trans h.os, k.tape.trans h.tape, k.output.trans h.output, Nat.le_trans h.size k.size, fun i hi hx => (k.block i (Nat.lt_of_lt_of_le hi h.size) fun hY => hx (hy i hi hY)).trans (h.block i hi hx)⟩
theorem Held.post {w0 W W' : World} {v0 : Value} {B : Nat} {o ip b : Int} {l l' : List Rule} {v : Value} {rv : Value} {e : Ending} (h : Only (fun k => k = B ∨ v0.ownBlock = some k) w0 W) (h2 : ∀ g, v.ownBlock = some g → v0.ownBlock = some g ∨ w0.heap.size ≤ g) (k : Post W B o ip b v l' rv e W') : e = .returned rv ∧ Held w0 v0 B o ip b l' W' := by
  obtain ⟨rfl, v', k1, k2, k3⟩ := k
  refine ⟨rfl, ⟨v', k1, fun g hg => ?_⟩, Only.join h k2 fun i hi hY => ?_⟩
  · rcases k3 g hg with q | q
    · exact h2 g q
    · exact Or.inr (Nat.le_trans h.size q)
  · rcases hY with rfl | hY
    · exact Or.inl rfl
    · rcases h2 i hY with q | q
      · exact Or.inr q
      · omega

theorem h_Add {w0 : World} {v0 : Value} {B : Nat} {o ip b : Int} {l : List Rule} (i : Int) (r : Rule) (hip : 0 ≤ ip ∧ ip ≤ 4294967295) (hr : r.Ok) (hl : l.length ≤ 1000) (W : World) (h : Held w0 v0 B o ip b l W) :
    Calls Tryd.prog 22 #[.pointer (some ⟨B, 0, none⟩), .int .i64 i, .agg r.cells] W fun e W' => e = .returned (.int .i64 (addC o ip b l i r)) ∧ Held w0 v0 B o ip b (addL o ip b l i r) W' := by
  obtain ⟨⟨v, h1, h2⟩, h3⟩ := h
  exact (t_Add W B o ip b v l i r h1 hip hr hl).mono fun e W' k => Held.post (l := l) h3 h2 k
theorem h_Static {w0 : World} {v0 : Value} {B : Nat} {o ip b : Int} {l : List Rule} (p ei ep : Int) (hl : l.length ≤ 1000) (W : World) (h : Held w0 v0 B o ip b l W) :
    Calls Tryd.prog 36 #[.pointer (some ⟨B, 0, none⟩), .int .u8 p, .agg #[.int .u32 ei, .int .u16 ep]] W (Ret (.tuple #[.agg (firstR o (stP p ei ep) l).cells, .bool (l.any (stP p ei ep))]) W) := by
  obtain ⟨⟨v, h1, h2⟩, h3⟩ := h
  exact t_Static W B o ip b v l h1 hl p ei ep
theorem h_Own {w0 : World} {v0 : Value} {B : Nat} {o ip b : Int} {l : List Rule} (p ei ep : Int) (hl : l.length ≤ 1000) (W : World) (h : Held w0 v0 B o ip b l W) :
    Calls Tryd.prog 51 #[.pointer (some ⟨B, 0, none⟩), .int .u8 p, .agg #[.int .u32 ei, .int .u16 ep]] W (Ret (.tuple #[.agg (firstR o (owP p ei ep) l).cells, .bool (l.any (owP p ei ep))]) W) := by
  obtain ⟨⟨v, h1, h2⟩, h3⟩ := h
  exact t_Own W B o ip b v l h1 hl p ei ep
theorem h_Source {w0 : World} {v0 : Value} {B : Nat} {o ip b : Int} {l : List Rule} (p si sp di dp : Int) (hok : ∀ r ∈ l, r.Ok) (hs : 0 ≤ si ∧ si ≤ 4294967295) (hd : 0 ≤ di ∧ di ≤ 4294967295) (hl : l.length ≤ 1000) (W : World) (h : Held w0 v0 B o ip b l W) :
    Calls Tryd.prog 52 #[.pointer (some ⟨B, 0, none⟩), .agg #[.int .u8 p, .int .u32 si, .int .u16 sp, .int .u32 di, .int .u16 dp]] W (Ret (.tuple #[.agg (firstR o (srcP p si di) l).cells, .bool (l.any (srcP p si di))]) W) := by
  obtain ⟨⟨v, h1, h2⟩, h3⟩ := h
  exact t_Source W B o ip b v l h1 hl hok p si sp di dp hs hd
theorem h_Outer {w0 : World} {v0 : Value} {B : Nat} {o ip b : Int} {l : List Rule} (a : Int) (hl : l.length ≤ 1000) (W : World) (h : Held w0 v0 B o ip b l W) :
    Calls Tryd.prog 38 #[.pointer (some ⟨B, 0, none⟩), .int .u32 a] W (Ret (.bool (outR o l a)) W) := by
  obtain ⟨⟨v, h1, h2⟩, h3⟩ := h
  exact t_Outer W B o ip b v l a h1 hl
theorem h_Inner {w0 : World} {v0 : Value} {B : Nat} {o ip b : Int} {l : List Rule} (a : Int) (hi : 0 ≤ ip ∧ ip ≤ 4294967295) (ha : 0 ≤ a ∧ a ≤ 4294967295) (W : World) (h : Held w0 v0 B o ip b l W) :
    Calls Tryd.prog 37 #[.pointer (some ⟨B, 0, none⟩), .int .u32 a] W (Ret (.bool (hasP ip b a)) W) := by
  obtain ⟨⟨v, h1, h2⟩, h3⟩ := h
  exact t_Inner W B o ip b a v h1.tbl hi ha
theorem h_Check {w0 : World} {v0 : Value} {B : Nat} {o ip b : Int} {l : List Rule} (r : Rule) (hi : 0 ≤ ip ∧ ip ≤ 4294967295) (hr : r.Ok) (W : World) (h : Held w0 v0 B o ip b l W) :
    Calls Tryd.prog 30 #[.pointer (some ⟨B, 0, none⟩), .agg r.cells] W (Ret (.int .i64 (chkR ip b r)) W) := by
  obtain ⟨⟨v, h1, h2⟩, h3⟩ := h
  exact t_Check W B o ip b v r h1.tbl hi hr

instance (r : Rule) : Decidable r.Ok := by unfold Rule.Ok; infer_instance
def nines : Int := 151587081
def tensI : Int := 167772160
def rA : Rule := ⟨2, 0, 0, 0, 0, 0, 0, 1000, 1999, 0, 0⟩
def rB : Rule := ⟨3, 6, 0, 0, 0, 0, 151587081, 1500, 1500, 167772165, 80⟩
def rC : Rule := ⟨3, 6, 0, 0, 0, 0, 151587081, 2000, 2000, 167772165, 80⟩
theorem new_ok : newOk 151587081 167772160 8 = true := by decide
theorem add_1 : addC 151587081 167772160 8 [] 0 rA = 0 := by decide
theorem add_2 : addC 151587081 167772160 8 [rA] 0 rB = 11 := by decide
theorem add_3 : addC 151587081 167772160 8 [rA] 0 rC = 0 := by decide
theorem add_4 : addC 151587081 167772160 8 [rC, rA] 0 rC = 11 := by decide
theorem add_5 : addC 151587081 167772160 8 [rC, rA] 3 { rA with e := 151587081 } = 2 := by decide
theorem src_1 : firstR 151587081 (srcP 17 167772161 16909060) [rC, rA] = { rA with e := 151587081 } ∧ [rC, rA].any (srcP 17 167772161 16909060) = true := by decide
theorem sta_1 : firstR 151587081 (stP 6 151587081 2000) [rC, rA] = rC ∧ [rC, rA].any (stP 6 151587081 2000) = true := by decide
theorem out_1 : outR 151587081 [rC, rA] 151587081 = true := by decide
theorem inn_1 : hasP 167772160 8 167837953 = true := by decide
end Go.Proofs.YtilfcikhipadpaaDoor
end

section
/- rules: the chapter's examples. -/
set_option linter.unusedVariables false
set_option linter.unusedSimpArgs false
namespace Go.Proofs.YtilfcikhipadpaaDoor
open Go.RowKit Go.Lib
attribute [local go_sem] Oper.semAt_some

/-- all but the table lies as it lay -/
structure On (w0 : World) (v0 : Value) (B : Nat) (W : World) : Prop where
  only : Only (fun k => k = B ∨ v0.ownBlock = some k) w0 W
theorem On.of {w0 W : World} {v0 : Value} {B : Nat} {o ip b : Int} {l : List Rule} (h : Held w0 v0 B o ip b l W) : On w0 v0 B W := ⟨h.only⟩
theorem On.cells {w0 W : World} {v0 : Value} {B : Nat} (h : On w0 v0 B W) {k : Nat} {cs : Array Value} {T : TypeId} (d : Cells w0 k cs T) (h1 : k ≠ B) (h2 : ¬ v0.ownBlock = some k) : Cells W k cs T := Cells.only d h.only (by rintro (e | e); exact h1 e; exact h2 e)
theorem On.alloc {w0 W : World} {v0 : Value} {B : Nat} (h : On w0 v0 B W) (o : Obj) : On w0 v0 B (W.alloc o) := ⟨Only.then h.only (fresh_below _ _)⟩
theorem Held.ret {w0 W : World} {v0 : Value} {B : Nat} {o ip b : Int} {l : List Rule} {f : FuncId} {args : Array Value} {rv : Value} (h : Held w0 v0 B o ip b l W) (c : Calls Tryd.prog f args W (Ret rv W)) : Calls Tryd.prog f args W fun e W' => e = .returned rv ∧ Held w0 v0 B o ip b l W' ∧ Below W.heap.size W W' := c.mono fun e W' k => ⟨k.1, h.below k.2, k.2⟩

end Go.Proofs.YtilfcikhipadpaaDoor
end
