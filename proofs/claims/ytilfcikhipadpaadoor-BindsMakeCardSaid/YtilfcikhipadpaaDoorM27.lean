/- Several texts of this claim, one behind the other. -/
import Derived.Test.YtilfcikhipadpaaDoorM26
import Derived.Test.YtilfcikhipadpaaDoorM15

section
/- binds: the chapter's table; what a datagram is seen as. -/
set_option linter.unusedVariables false
set_option linter.unusedSimpArgs false
namespace Go.Proofs.YtilfcikhipadpaaDoor
open Go.RowKit Go.Lib
attribute [local go_sem] Oper.semAt_some

def qA : Rule := ⟨2, 0, 0, 0, 0, 0, 0, 1000, 1007, 0, 0⟩
def qB : Rule := ⟨3, 17, 0, 0, 0, 0, 151587081, 80, 80, 167772162, 8000⟩
theorem qA_ok : qA.Ok := by decide
theorem qB_ok : qB.Ok := by decide
theorem addA : addC 151587081 167772160 8 [] 0 qA = 0 ∧ addL 151587081 167772160 8 [] 0 qA = [qA] := by decide +kernel
theorem addB : addC 151587081 167772160 8 [qA] 1 qB = 0 ∧ addL 151587081 167772160 8 [qA] 1 qB = [qA, qB] := by decide +kernel

/-- the chapter's table -/
def Tabled (w : World) (e : Ending) (w' : World) : Prop := ∃ B v, e = .returned (.pointer (some ⟨B, 0, none⟩)) ∧ TS w' B 151587081 167772160 8 [qA, qB] v ∧ Below w.heap.size w w'
set_option maxHeartbeats 4000000 in
set_option maxRecDepth 100000 in
theorem l_table (w : World) : Calls Tryd.prog 12 #[] w (Tabled w) := by
  have c1 := fun W => t_New W 151587081 167772160 8 (by decide) (by decide)
  simp only [show newOk 151587081 167772160 8 = true from by decide, if_true] at c1
  have C1 := hide c1
  clear c1
  go_enter Tryd.func12, Tryd.ntmps12
  go_upto_region 2 with (go_at_call 21; (refine (C1.out _).mono ?_); rintro e w2 ⟨B, rfl, ts, b2, hB⟩)
  have ca := fun W (h : Held w2 (.slice none 0 0) B 151587081 167772160 8 [] W) => h_Add 0 qA (by decide) qA_ok (by decide) W h
  have cb := fun W (h : Held w2 (.slice none 0 0) B 151587081 167772160 8 [qA] W) => h_Add 1 qB (by decide) qB_ok (by decide) W h
  rw [addA.1, addA.2] at ca
  rw [addB.1, addB.2] at cb
  simp only [Rule.cells, qA] at ca
  simp only [Rule.cells, qB] at cb
  have h0 := hide (Held.start ts)
  have CA := hide ca; have CB := hide cb; have B2 := hide b2; have HB := hide hB
  clear ca cb ts b2 hB C1
  go_upto_region 3 with (go_at_call 22; (refine (CA.out _ h0.out).mono ?_); rintro e w3 ⟨rfl, h3⟩)
  have H3 := hide h3
  clear h3
  go_wp2_with (go_at_call 22; (refine (CB.out _ H3.out).mono ?_); rintro e w4 ⟨rfl, h4⟩; have H4 := hide h4; clear h4)
  go_ret
  obtain ⟨⟨v, h1, h2⟩, h3⟩ := H4.out
  exact ⟨B, v, rfl, h1, B2.out.trans (h3.below (fun k hk => by rcases hk with e | e; (rw [e]; exact HB.out); cases e) B2.out.size)⟩
theorem l_datagram (w : World) (a b c d : Int) : Calls Tryd.prog 14 #[.agg #[.int .u32 a, .int .u16 b], .agg #[.int .u32 c, .int .u16 d]] w (Ret (.agg #[.int .u8 17, .int .u32 a, .int .u16 b, .int .u32 c, .int .u16 d, .int .i64 2, .int .u8 0, .bool false, .int .u8 64]) w) := by
  go_enter Tryd.func14, Tryd.ntmps14
  have d0 := Cells.new w #[.int .u32 a, .int .u16 b] 26
  replace d0 := Cells.below (fresh_below (w.alloc (.cells #[.int .u32 a, .int .u16 b] 26)) (.cells #[.int .u32 c, .int .u16 d] 26)) d0
  have d1 := Cells.new (w.alloc (.cells #[.int .u32 a, .int .u16 b] 26)) #[.int .u32 c, .int .u16 d] 26
  replace d0 := Cells.below (fresh_below ((w.alloc (.cells #[.int .u32 a, .int .u16 b] 26)).alloc (.cells #[.int .u32 c, .int .u16 d] 26)) (.cells #[.int .u8 0, .int .u32 0, .int .u16 0, .int .u32 0, .int .u16 0, .int .i64 0, .int .u8 0, .bool false, .int .u8 0] 62)) d0
  replace d1 := Cells.below (fresh_below ((w.alloc (.cells #[.int .u32 a, .int .u16 b] 26)).alloc (.cells #[.int .u32 c, .int .u16 d] 26)) (.cells #[.int .u8 0, .int .u32 0, .int .u16 0, .int .u32 0, .int .u16 0, .int .i64 0, .int .u8 0, .bool false, .int .u8 0] 62)) d1
  have d2 := Cells.new ((w.alloc (.cells #[.int .u32 a, .int .u16 b] 26)).alloc (.cells #[.int .u32 c, .int .u16 d] 26)) #[.int .u8 0, .int .u32 0, .int .u16 0, .int .u32 0, .int .u16 0, .int .i64 0, .int .u8 0, .bool false, .int .u8 0] 62
  have l0 : Below w.heap.size w (((w.alloc (.cells #[.int .u32 a, .int .u16 b] 26)).alloc (.cells #[.int .u32 c, .int .u16 d] 26)).alloc (.cells #[.int .u8 0, .int .u32 0, .int .u16 0, .int .u32 0, .int .u16 0, .int .i64 0, .int .u8 0, .bool false, .int .u8 0] 62)) := (bstep (bstep (fresh_below _ _) (fresh_below _ _)) (fresh_below _ _))
  simp only [World.size_alloc] at d1 d2
  have L0 := hide l0; have D0 := hide d0; have D1 := hide d1; have D2 := hide d2
  clear l0 d0 d1 d2
  go_upto_region 1 with fail
  have l0 := L0.out; have d0 := D0.out; have d1 := D1.out; have d2 := D2.out
  clear L0 D0 D1 D2
  generalize (((w.alloc (.cells #[.int .u32 a, .int .u16 b] 26)).alloc (.cells #[.int .u32 c, .int .u16 d] 26)).alloc (.cells #[.int .u8 0, .int .u32 0, .int .u16 0, .int .u32 0, .int .u16 0, .int .i64 0, .int .u8 0, .bool false, .int .u8 0] 62)) = w1 at *
  have qd0_0 : ∀ W', Below w1.heap.size w1 W' → World.cell? W' ⟨w.heap.size, 0, none⟩ = some (.int .u32 a) := fun W' h => Cells.at_ (Cells.below h d0) 0
  have qd0_1 : ∀ W', Below w1.heap.size w1 W' → World.cell? W' ⟨w.heap.size, 1, none⟩ = some (.int .u16 b) := fun W' h => Cells.at_ (Cells.below h d0) 1
  have qd1_0 : ∀ W', Below w1.heap.size w1 W' → World.cell? W' ⟨w.heap.size + 1, 0, none⟩ = some (.int .u32 c) := fun W' h => Cells.at_ (Cells.below h d1) 0
  have qd1_1 : ∀ W', Below w1.heap.size w1 W' → World.cell? W' ⟨w.heap.size + 1, 1, none⟩ = some (.int .u16 d) := fun W' h => Cells.at_ (Cells.below h d1) 1
  have qd2_0 : ∀ W', Below w1.heap.size w1 W' → World.cell? W' ⟨w.heap.size + 1 + 1, 0, none⟩ = some (.int .u8 0) := fun W' h => Cells.at_ (Cells.below h d2) 0
  have qd2_1 : ∀ W', Below w1.heap.size w1 W' → World.cell? W' ⟨w.heap.size + 1 + 1, 1, none⟩ = some (.int .u32 0) := fun W' h => Cells.at_ (Cells.below h d2) 1
  have qd2_2 : ∀ W', Below w1.heap.size w1 W' → World.cell? W' ⟨w.heap.size + 1 + 1, 2, none⟩ = some (.int .u16 0) := fun W' h => Cells.at_ (Cells.below h d2) 2
  have qd2_3 : ∀ W', Below w1.heap.size w1 W' → World.cell? W' ⟨w.heap.size + 1 + 1, 3, none⟩ = some (.int .u32 0) := fun W' h => Cells.at_ (Cells.below h d2) 3
  have qd2_4 : ∀ W', Below w1.heap.size w1 W' → World.cell? W' ⟨w.heap.size + 1 + 1, 4, none⟩ = some (.int .u16 0) := fun W' h => Cells.at_ (Cells.below h d2) 4
  have qd2_5 : ∀ W', Below w1.heap.size w1 W' → World.cell? W' ⟨w.heap.size + 1 + 1, 5, none⟩ = some (.int .i64 0) := fun W' h => Cells.at_ (Cells.below h d2) 5
  have qd2_6 : ∀ W', Below w1.heap.size w1 W' → World.cell? W' ⟨w.heap.size + 1 + 1, 6, none⟩ = some (.int .u8 0) := fun W' h => Cells.at_ (Cells.below h d2) 6
  have qd2_7 : ∀ W', Below w1.heap.size w1 W' → World.cell? W' ⟨w.heap.size + 1 + 1, 7, none⟩ = some (.bool false) := fun W' h => Cells.at_ (Cells.below h d2) 7
  have qd2_8 : ∀ W', Below w1.heap.size w1 W' → World.cell? W' ⟨w.heap.size + 1 + 1, 8, none⟩ = some (.int .u8 0) := fun W' h => Cells.at_ (Cells.below h d2) 8
  have bb : Below w1.heap.size w1 w1 := Below.refl _ _
  have L0 := hide l0; have D0 := hide d0; have D1 := hide d1; have D2 := hide d2
  clear l0 d0 d1 d2
  have fz : ∀ W' i, Below w1.heap.size w1 W' → World.frozen? W' ⟨w.heap.size + 1 + 1, i, none⟩ = false := fun W' i h => Cells.free (Cells.below h D2.out) i
  go_wp2_with fail
  have kk : Cells (((((((((w1.setCell ⟨w.heap.size + 1 + 1, 0, none⟩ (.int .u8 17)).setCell ⟨w.heap.size + 1 + 1, 1, none⟩ (.int .u32 a)).setCell ⟨w.heap.size + 1 + 1, 2, none⟩ (.int .u16 b)).setCell ⟨w.heap.size + 1 + 1, 3, none⟩ (.int .u32 c)).setCell ⟨w.heap.size + 1 + 1, 4, none⟩ (.int .u16 d)).setCell ⟨w.heap.size + 1 + 1, 5, none⟩ (.int .i64 2)).setCell ⟨w.heap.size + 1 + 1, 6, none⟩ (.int .u8 0)).setCell ⟨w.heap.size + 1 + 1, 7, none⟩ (.bool false)).setCell ⟨w.heap.size + 1 + 1, 8, none⟩ (.int .u8 64)) (w.heap.size + 1 + 1) #[.int .u8 17, .int .u32 a, .int .u16 b, .int .u32 c, .int .u16 d, .int .i64 2, .int .u8 0, .bool false, .int .u8 64] 62 := Cells.like (Cells.set_ (Cells.set_ (Cells.set_ (Cells.set_ (Cells.set_ (Cells.set_ (Cells.set_ (Cells.set_ (Cells.set_ D2.out 0 (.int .u8 17)) 1 (.int .u32 a)) 2 (.int .u16 b)) 3 (.int .u32 c)) 4 (.int .u16 d)) 5 (.int .i64 2)) 6 (.int .u8 0)) 7 (.bool false)) 8 (.int .u8 64)) (by simp)
  have lb : Below w.heap.size w (((((((((w1.setCell ⟨w.heap.size + 1 + 1, 0, none⟩ (.int .u8 17)).setCell ⟨w.heap.size + 1 + 1, 1, none⟩ (.int .u32 a)).setCell ⟨w.heap.size + 1 + 1, 2, none⟩ (.int .u16 b)).setCell ⟨w.heap.size + 1 + 1, 3, none⟩ (.int .u32 c)).setCell ⟨w.heap.size + 1 + 1, 4, none⟩ (.int .u16 d)).setCell ⟨w.heap.size + 1 + 1, 5, none⟩ (.int .i64 2)).setCell ⟨w.heap.size + 1 + 1, 6, none⟩ (.int .u8 0)).setCell ⟨w.heap.size + 1 + 1, 7, none⟩ (.bool false)).setCell ⟨w.heap.size + 1 + 1, 8, none⟩ (.int .u8 64)) := by repeat' (first | with_reducible exact L0.out | with_reducible refine Below.setCell ?_ (by show w.heap.size ≤ w.heap.size + 1 + 1; omega) _)
  clear fz bb D0 D1 D2 L0 qd0_0 qd1_0 qd0_1 qd1_1 qd2_0 qd2_1 qd2_2 qd2_3 qd2_4 qd2_5 qd2_6 qd2_7 qd2_8
  generalize (((((((((w1.setCell ⟨w.heap.size + 1 + 1, 0, none⟩ (.int .u8 17)).setCell ⟨w.heap.size + 1 + 1, 1, none⟩ (.int .u32 a)).setCell ⟨w.heap.size + 1 + 1, 2, none⟩ (.int .u16 b)).setCell ⟨w.heap.size + 1 + 1, 3, none⟩ (.int .u32 c)).setCell ⟨w.heap.size + 1 + 1, 4, none⟩ (.int .u16 d)).setCell ⟨w.heap.size + 1 + 1, 5, none⟩ (.int .i64 2)).setCell ⟨w.heap.size + 1 + 1, 6, none⟩ (.int .u8 0)).setCell ⟨w.heap.size + 1 + 1, 7, none⟩ (.bool false)).setCell ⟨w.heap.size + 1 + 1, 8, none⟩ (.int .u8 64)) = W5 at *
  have x0 : W5.cell? ⟨w.heap.size + 1 + 1, 0, none⟩ = some (.int .u8 17) := kk.at_ 0
  have x1 : W5.cell? ⟨w.heap.size + 1 + 1, 1, none⟩ = some (.int .u32 a) := kk.at_ 1
  have x2 : W5.cell? ⟨w.heap.size + 1 + 1, 2, none⟩ = some (.int .u16 b) := kk.at_ 2
  have x3 : W5.cell? ⟨w.heap.size + 1 + 1, 3, none⟩ = some (.int .u32 c) := kk.at_ 3
  have x4 : W5.cell? ⟨w.heap.size + 1 + 1, 4, none⟩ = some (.int .u16 d) := kk.at_ 4
  have x5 : W5.cell? ⟨w.heap.size + 1 + 1, 5, none⟩ = some (.int .i64 2) := kk.at_ 5
  have x6 : W5.cell? ⟨w.heap.size + 1 + 1, 6, none⟩ = some (.int .u8 0) := kk.at_ 6
  have x7 : W5.cell? ⟨w.heap.size + 1 + 1, 7, none⟩ = some (.bool false) := kk.at_ 7
  have x8 : W5.cell? ⟨w.heap.size + 1 + 1, 8, none⟩ = some (.int .u8 64) := kk.at_ 8
  (try simp only [Exit.inBlock, Exit.then]); refine bodyPost_ret (by simp [results, Tryd.results14, go_sem, *]; try rfl) rfl ?_
  exact ⟨rfl, lb⟩
end Go.Proofs.YtilfcikhipadpaaDoor
end

section
/- binds: the chapter's plans (plain). -/
set_option linter.unusedVariables false
namespace Go.Proofs.YtilfcikhipadpaaDoor
open Go.RowKit Go.Lib

/-- what is told of a datagram, by the chapter's table -/
noncomputable def ofT (a b c d : Int) : Pln × Int := ofV 151587081 167772160 8 [qA, qB] ⟨17, a, b, c, d⟩ 2 0 false
theorem of_a : ofT 167772161 4000 134744072 53 = (⟨⟨17, 167772161, 4000, 134744072, 53⟩, 134744072, 53, true, 1, [⟨false, 167772161, 4000, 0, 0, 151587081, 1000, 1007⟩]⟩, 0) := by kernel_rfl
theorem of_b : ofT 167772162 8000 134744072 53 = (⟨⟨17, 167772162, 8000, 134744072, 53⟩, 134744072, 53, true, 1, [⟨true, 167772162, 8000, 151587081, 80, 0, 0, 0⟩]⟩, 0) := by kernel_rfl
theorem of_c : ofT 134744072 53 151587081 80 = (⟨⟨17, 134744072, 53, 151587081, 80⟩, 167772162, 8000, false, 1, [⟨true, 167772162, 8000, 151587081, 80, 0, 0, 0⟩]⟩, 0) := by kernel_rfl
theorem of_d : ofT 167772161 4000 151587081 80 = (⟨⟨17, 167772161, 4000, 151587081, 80⟩, 167772162, 8000, true, 1, [⟨false, 167772161, 4000, 0, 0, 151587081, 1000, 1007⟩, ⟨true, 167772162, 8000, 151587081, 80, 0, 0, 0⟩]⟩, 0) := by kernel_rfl
theorem of_i : ofT 167772162 8000 151587081 80 = (zeroP, 9) := by kernel_rfl
theorem of_j : ofT 167772161 4000 167772162 8000 = (zeroP, 9) := by kernel_rfl
theorem of_k : ofT 134744072 53 151587081 1000 = (zeroP, 10) := by kernel_rfl

/-- one of the chapter's calls -/
theorem t_of {w : World} {B : Nat} {v : Value} (h : TS w B 151587081 167772160 8 [qA, qB] v) (hT : Lasts w) (a b c d : Int) (ha : 0 ≤ a ∧ a ≤ 4294967295) (hb : 0 ≤ b ∧ b ≤ 65535) (hc : 0 ≤ c ∧ c ≤ 4294967295) (hd : 0 ≤ d ∧ d ≤ 65535) (q : Pln × Int) (e : ofT a b c d = q) :
    Calls Tryd.prog 13 #[.pointer (some ⟨B, 0, none⟩), .agg #[.int .u8 17, .int .u32 a, .int .u16 b, .int .u32 c, .int .u16 d, .int .i64 2, .int .u8 0, .bool false, .int .u8 64]] w (Routed w q) := by
  have := b_Of w B 151587081 167772160 8 v [qA, qB] h (by decide) (by
    intro r hr
    simp only [List.mem_cons, List.not_mem_nil, or_false] at hr
    rcases hr with rfl | rfl
    · exact qA_ok
    · exact qB_ok) (by decide) hT ⟨17, a, b, c, d⟩ ⟨⟨by show (0 : Int) ≤ 17; decide, by show (17 : Int) ≤ 255; decide⟩, ha, hb, hc, hd⟩ 2 0 64 false
  rw [← e]
  exact this
end Go.Proofs.YtilfcikhipadpaaDoor
end
