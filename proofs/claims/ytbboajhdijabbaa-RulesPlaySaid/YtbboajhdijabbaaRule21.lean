/- rules: the chapter's examples. -/
import Derived.Test.YtbboajhdijabbaaRule20
set_option linter.unusedVariables false
set_option linter.unusedSimpArgs false
namespace Go.Proofs.Ytbboajhdijabbaa
open Go.RowKit Go.Lib
attribute [local go_sem] Oper.semAt_some

/-- all but the table lies as it lay -/
structure On (w0 : World) (v0 : Value) (B : Nat) (W : World) : Prop where
  only : Only (fun k => k = B ∨ v0.ownBlock = some k) w0 W
theorem On.of {w0 W : World} {v0 : Value} {B : Nat} {o ip b : Int} {l : List Rule} (h : Held w0 v0 B o ip b l W) : On w0 v0 B W := ⟨h.only⟩
theorem On.cells {w0 W : World} {v0 : Value} {B : Nat} (h : On w0 v0 B W) {k : Nat} {cs : Array Value} {T : TypeId} (d : Cells w0 k cs T) (h1 : k ≠ B) (h2 : ¬ v0.ownBlock = some k) : Cells W k cs T := Cells.only d h.only (by rintro (e | e); exact h1 e; exact h2 e)
theorem On.alloc {w0 W : World} {v0 : Value} {B : Nat} (h : On w0 v0 B W) (o : Obj) : On w0 v0 B (W.alloc o) := ⟨Only.then h.only (fresh_below _ _)⟩
theorem Held.ret {w0 W : World} {v0 : Value} {B : Nat} {o ip b : Int} {l : List Rule} {f : FuncId} {args : Array Value} {rv : Value} (h : Held w0 v0 B o ip b l W) (c : Calls Try.prog f args W (Ret rv W)) : Calls Try.prog f args W fun e W' => e = .returned rv ∧ Held w0 v0 B o ip b l W' ∧ Below W.heap.size W W' := c.mono fun e W' k => ⟨k.1, h.below k.2, k.2⟩

set_option maxHeartbeats 8000000 in
set_option maxRecDepth 100000 in
theorem ruled (w : World) : Calls Try.prog 11 #[] w (Ret (.bool true) w) := by
  have c0 := fun W => l_tens W
  have c1 := fun W => t_New W 151587081 167772160 8 (by decide) (by decide)
  simp only [new_ok, if_true] at c1
  have C0 := hide c0; have C1 := hide c1
  clear c0 c1
  go_enter Try.func11, Try.ntmps11
  go_upto_region 2 with (first | (go_at_call 30; refine (C0.out _).mono ?_; rintro e w1 ⟨rfl, b1⟩) | (go_at_call 9; refine (C1.out _).mono ?_; rintro e w2 ⟨B, rfl, ts, b2, hB⟩))
  go_upto_region 6 with fail
  have b3 : Below w2.heap.size w2 (((w2.alloc (.cells #[.int .i64 rA.k, .int .u8 rA.p, .int .u32 rA.sa, .int .i64 rA.sb, .int .u32 rA.da, .int .i64 rA.db, .int .u32 rA.e, .int .u16 rA.f, .int .u16 rA.t, .int .u32 rA.ia, .int .u16 rA.ip] 30)).alloc (.cells #[.int .i64 rB.k, .int .u8 rB.p, .int .u32 rB.sa, .int .i64 rB.sb, .int .u32 rB.da, .int .i64 rB.db, .int .u32 rB.e, .int .u16 rB.f, .int .u16 rB.t, .int .u32 rB.ia, .int .u16 rB.ip] 30)).alloc (.cells #[.int .i64 rC.k, .int .u8 rC.p, .int .u32 rC.sa, .int .i64 rC.sb, .int .u32 rC.da, .int .i64 rC.db, .int .u32 rC.e, .int .u16 rC.f, .int .u16 rC.t, .int .u32 rC.ia, .int .u16 rC.ip] 30)) := bstep (bstep (fresh_below _ _) (fresh_below _ _)) (fresh_below _ _)
  have dA := Cells.new w2 #[.int .i64 rA.k, .int .u8 rA.p, .int .u32 rA.sa, .int .i64 rA.sb, .int .u32 rA.da, .int .i64 rA.db, .int .u32 rA.e, .int .u16 rA.f, .int .u16 rA.t, .int .u32 rA.ia, .int .u16 rA.ip] 30
  replace dA := Cells.below (fresh_below (w2.alloc (.cells #[.int .i64 rA.k, .int .u8 rA.p, .int .u32 rA.sa, .int .i64 rA.sb, .int .u32 rA.da, .int .i64 rA.db, .int .u32 rA.e, .int .u16 rA.f, .int .u16 rA.t, .int .u32 rA.ia, .int .u16 rA.ip] 30)) (.cells #[.int .i64 rB.k, .int .u8 rB.p, .int .u32 rB.sa, .int .i64 rB.sb, .int .u32 rB.da, .int .i64 rB.db, .int .u32 rB.e, .int .u16 rB.f, .int .u16 rB.t, .int .u32 rB.ia, .int .u16 rB.ip] 30)) dA
  have dB := Cells.new (w2.alloc (.cells #[.int .i64 rA.k, .int .u8 rA.p, .int .u32 rA.sa, .int .i64 rA.sb, .int .u32 rA.da, .int .i64 rA.db, .int .u32 rA.e, .int .u16 rA.f, .int .u16 rA.t, .int .u32 rA.ia, .int .u16 rA.ip] 30)) #[.int .i64 rB.k, .int .u8 rB.p, .int .u32 rB.sa, .int .i64 rB.sb, .int .u32 rB.da, .int .i64 rB.db, .int .u32 rB.e, .int .u16 rB.f, .int .u16 rB.t, .int .u32 rB.ia, .int .u16 rB.ip] 30
  replace dA := Cells.below (fresh_below ((w2.alloc (.cells #[.int .i64 rA.k, .int .u8 rA.p, .int .u32 rA.sa, .int .i64 rA.sb, .int .u32 rA.da, .int .i64 rA.db, .int .u32 rA.e, .int .u16 rA.f, .int .u16 rA.t, .int .u32 rA.ia, .int .u16 rA.ip] 30)).alloc (.cells #[.int .i64 rB.k, .int .u8 rB.p, .int .u32 rB.sa, .int .i64 rB.sb, .int .u32 rB.da, .int .i64 rB.db, .int .u32 rB.e, .int .u16 rB.f, .int .u16 rB.t, .int .u32 rB.ia, .int .u16 rB.ip] 30)) (.cells #[.int .i64 rC.k, .int .u8 rC.p, .int .u32 rC.sa, .int .i64 rC.sb, .int .u32 rC.da, .int .i64 rC.db, .int .u32 rC.e, .int .u16 rC.f, .int .u16 rC.t, .int .u32 rC.ia, .int .u16 rC.ip] 30)) dA
  replace dB := Cells.below (fresh_below ((w2.alloc (.cells #[.int .i64 rA.k, .int .u8 rA.p, .int .u32 rA.sa, .int .i64 rA.sb, .int .u32 rA.da, .int .i64 rA.db, .int .u32 rA.e, .int .u16 rA.f, .int .u16 rA.t, .int .u32 rA.ia, .int .u16 rA.ip] 30)).alloc (.cells #[.int .i64 rB.k, .int .u8 rB.p, .int .u32 rB.sa, .int .i64 rB.sb, .int .u32 rB.da, .int .i64 rB.db, .int .u32 rB.e, .int .u16 rB.f, .int .u16 rB.t, .int .u32 rB.ia, .int .u16 rB.ip] 30)) (.cells #[.int .i64 rC.k, .int .u8 rC.p, .int .u32 rC.sa, .int .i64 rC.sb, .int .u32 rC.da, .int .i64 rC.db, .int .u32 rC.e, .int .u16 rC.f, .int .u16 rC.t, .int .u32 rC.ia, .int .u16 rC.ip] 30)) dB
  have dC := Cells.new ((w2.alloc (.cells #[.int .i64 rA.k, .int .u8 rA.p, .int .u32 rA.sa, .int .i64 rA.sb, .int .u32 rA.da, .int .i64 rA.db, .int .u32 rA.e, .int .u16 rA.f, .int .u16 rA.t, .int .u32 rA.ia, .int .u16 rA.ip] 30)).alloc (.cells #[.int .i64 rB.k, .int .u8 rB.p, .int .u32 rB.sa, .int .i64 rB.sb, .int .u32 rB.da, .int .i64 rB.db, .int .u32 rB.e, .int .u16 rB.f, .int .u16 rB.t, .int .u32 rB.ia, .int .u16 rB.ip] 30)) #[.int .i64 rC.k, .int .u8 rC.p, .int .u32 rC.sa, .int .i64 rC.sb, .int .u32 rC.da, .int .i64 rC.db, .int .u32 rC.e, .int .u16 rC.f, .int .u16 rC.t, .int .u32 rC.ia, .int .u16 rC.ip] 30
  simp only [World.size_alloc] at dB dC
  simp only [rA, rB, rC] at b3 dA dB dC
  generalize hw3 : World.alloc (World.alloc (World.alloc w2 _) _) _ = w3 at *
  clear hw3
  have ts3 := ts.below b3
  have hBlt : B < w2.heap.size := Cells.lt ts.tbl
  have h3 := Held.start ts3
  have o3 := On.of h3
  have nn : ∀ k, ¬ (Value.slice none 0 0).ownBlock = some k := fun k e => by cases e
  have qdA_0 : ∀ W, On w3 (.slice none 0 0) B W → World.cell? W ⟨w2.heap.size, 0, none⟩ = some (.int .i64 2) := fun W h => Cells.at_ (On.cells h dA (by omega) (nn _)) 0
  have qdA_1 : ∀ W, On w3 (.slice none 0 0) B W → World.cell? W ⟨w2.heap.size, 1, none⟩ = some (.int .u8 0) := fun W h => Cells.at_ (On.cells h dA (by omega) (nn _)) 1
  have qdA_2 : ∀ W, On w3 (.slice none 0 0) B W → World.cell? W ⟨w2.heap.size, 2, none⟩ = some (.int .u32 0) := fun W h => Cells.at_ (On.cells h dA (by omega) (nn _)) 2
  have qdA_3 : ∀ W, On w3 (.slice none 0 0) B W → World.cell? W ⟨w2.heap.size, 3, none⟩ = some (.int .i64 0) := fun W h => Cells.at_ (On.cells h dA (by omega) (nn _)) 3
  have qdA_4 : ∀ W, On w3 (.slice none 0 0) B W → World.cell? W ⟨w2.heap.size, 4, none⟩ = some (.int .u32 0) := fun W h => Cells.at_ (On.cells h dA (by omega) (nn _)) 4
  have qdA_5 : ∀ W, On w3 (.slice none 0 0) B W → World.cell? W ⟨w2.heap.size, 5, none⟩ = some (.int .i64 0) := fun W h => Cells.at_ (On.cells h dA (by omega) (nn _)) 5
  have qdA_6 : ∀ W, On w3 (.slice none 0 0) B W → World.cell? W ⟨w2.heap.size, 6, none⟩ = some (.int .u32 0) := fun W h => Cells.at_ (On.cells h dA (by omega) (nn _)) 6
  have qdA_7 : ∀ W, On w3 (.slice none 0 0) B W → World.cell? W ⟨w2.heap.size, 7, none⟩ = some (.int .u16 1000) := fun W h => Cells.at_ (On.cells h dA (by omega) (nn _)) 7
  have qdA_8 : ∀ W, On w3 (.slice none 0 0) B W → World.cell? W ⟨w2.heap.size, 8, none⟩ = some (.int .u16 1999) := fun W h => Cells.at_ (On.cells h dA (by omega) (nn _)) 8
  have qdA_9 : ∀ W, On w3 (.slice none 0 0) B W → World.cell? W ⟨w2.heap.size, 9, none⟩ = some (.int .u32 0) := fun W h => Cells.at_ (On.cells h dA (by omega) (nn _)) 9
  have qdA_10 : ∀ W, On w3 (.slice none 0 0) B W → World.cell? W ⟨w2.heap.size, 10, none⟩ = some (.int .u16 0) := fun W h => Cells.at_ (On.cells h dA (by omega) (nn _)) 10
  have qdB_0 : ∀ W, On w3 (.slice none 0 0) B W → World.cell? W ⟨w2.heap.size + 1, 0, none⟩ = some (.int .i64 3) := fun W h => Cells.at_ (On.cells h dB (by omega) (nn _)) 0
  have qdB_1 : ∀ W, On w3 (.slice none 0 0) B W → World.cell? W ⟨w2.heap.size + 1, 1, none⟩ = some (.int .u8 6) := fun W h => Cells.at_ (On.cells h dB (by omega) (nn _)) 1
  have qdB_2 : ∀ W, On w3 (.slice none 0 0) B W → World.cell? W ⟨w2.heap.size + 1, 2, none⟩ = some (.int .u32 0) := fun W h => Cells.at_ (On.cells h dB (by omega) (nn _)) 2
  have qdB_3 : ∀ W, On w3 (.slice none 0 0) B W → World.cell? W ⟨w2.heap.size + 1, 3, none⟩ = some (.int .i64 0) := fun W h => Cells.at_ (On.cells h dB (by omega) (nn _)) 3
  have qdB_4 : ∀ W, On w3 (.slice none 0 0) B W → World.cell? W ⟨w2.heap.size + 1, 4, none⟩ = some (.int .u32 0) := fun W h => Cells.at_ (On.cells h dB (by omega) (nn _)) 4
  have qdB_5 : ∀ W, On w3 (.slice none 0 0) B W → World.cell? W ⟨w2.heap.size + 1, 5, none⟩ = some (.int .i64 0) := fun W h => Cells.at_ (On.cells h dB (by omega) (nn _)) 5
  have qdB_6 : ∀ W, On w3 (.slice none 0 0) B W → World.cell? W ⟨w2.heap.size + 1, 6, none⟩ = some (.int .u32 151587081) := fun W h => Cells.at_ (On.cells h dB (by omega) (nn _)) 6
  have qdB_7 : ∀ W, On w3 (.slice none 0 0) B W → World.cell? W ⟨w2.heap.size + 1, 7, none⟩ = some (.int .u16 1500) := fun W h => Cells.at_ (On.cells h dB (by omega) (nn _)) 7
  have qdB_8 : ∀ W, On w3 (.slice none 0 0) B W → World.cell? W ⟨w2.heap.size + 1, 8, none⟩ = some (.int .u16 1500) := fun W h => Cells.at_ (On.cells h dB (by omega) (nn _)) 8
  have qdB_9 : ∀ W, On w3 (.slice none 0 0) B W → World.cell? W ⟨w2.heap.size + 1, 9, none⟩ = some (.int .u32 167772165) := fun W h => Cells.at_ (On.cells h dB (by omega) (nn _)) 9
  have qdB_10 : ∀ W, On w3 (.slice none 0 0) B W → World.cell? W ⟨w2.heap.size + 1, 10, none⟩ = some (.int .u16 80) := fun W h => Cells.at_ (On.cells h dB (by omega) (nn _)) 10
  have qdC_0 : ∀ W, On w3 (.slice none 0 0) B W → World.cell? W ⟨w2.heap.size + 1 + 1, 0, none⟩ = some (.int .i64 3) := fun W h => Cells.at_ (On.cells h dC (by omega) (nn _)) 0
  have qdC_1 : ∀ W, On w3 (.slice none 0 0) B W → World.cell? W ⟨w2.heap.size + 1 + 1, 1, none⟩ = some (.int .u8 6) := fun W h => Cells.at_ (On.cells h dC (by omega) (nn _)) 1
  have qdC_2 : ∀ W, On w3 (.slice none 0 0) B W → World.cell? W ⟨w2.heap.size + 1 + 1, 2, none⟩ = some (.int .u32 0) := fun W h => Cells.at_ (On.cells h dC (by omega) (nn _)) 2
  have qdC_3 : ∀ W, On w3 (.slice none 0 0) B W → World.cell? W ⟨w2.heap.size + 1 + 1, 3, none⟩ = some (.int .i64 0) := fun W h => Cells.at_ (On.cells h dC (by omega) (nn _)) 3
  have qdC_4 : ∀ W, On w3 (.slice none 0 0) B W → World.cell? W ⟨w2.heap.size + 1 + 1, 4, none⟩ = some (.int .u32 0) := fun W h => Cells.at_ (On.cells h dC (by omega) (nn _)) 4
  have qdC_5 : ∀ W, On w3 (.slice none 0 0) B W → World.cell? W ⟨w2.heap.size + 1 + 1, 5, none⟩ = some (.int .i64 0) := fun W h => Cells.at_ (On.cells h dC (by omega) (nn _)) 5
  have qdC_6 : ∀ W, On w3 (.slice none 0 0) B W → World.cell? W ⟨w2.heap.size + 1 + 1, 6, none⟩ = some (.int .u32 151587081) := fun W h => Cells.at_ (On.cells h dC (by omega) (nn _)) 6
  have qdC_7 : ∀ W, On w3 (.slice none 0 0) B W → World.cell? W ⟨w2.heap.size + 1 + 1, 7, none⟩ = some (.int .u16 2000) := fun W h => Cells.at_ (On.cells h dC (by omega) (nn _)) 7
  have qdC_8 : ∀ W, On w3 (.slice none 0 0) B W → World.cell? W ⟨w2.heap.size + 1 + 1, 8, none⟩ = some (.int .u16 2000) := fun W h => Cells.at_ (On.cells h dC (by omega) (nn _)) 8
  have qdC_9 : ∀ W, On w3 (.slice none 0 0) B W → World.cell? W ⟨w2.heap.size + 1 + 1, 9, none⟩ = some (.int .u32 167772165) := fun W h => Cells.at_ (On.cells h dC (by omega) (nn _)) 9
  have qdC_10 : ∀ W, On w3 (.slice none 0 0) B W → World.cell? W ⟨w2.heap.size + 1 + 1, 10, none⟩ = some (.int .u16 80) := fun W h => Cells.at_ (On.cells h dC (by omega) (nn _)) 10
  have A1 := hide (fun W (h : Held w3 (.slice none 0 0) B 151587081 167772160 8 [] W) => (show Calls Try.prog 14 #[.pointer (some ⟨B, 0, none⟩), .int .i64 0, .agg #[.int .i64 2, .int .u8 0, .int .u32 0, .int .i64 0, .int .u32 0, .int .i64 0, .int .u32 0, .int .u16 1000, .int .u16 1999, .int .u32 0, .int .u16 0]] W fun e W' => e = .returned (.int .i64 0) ∧ Held w3 (.slice none 0 0) B 151587081 167772160 8 [rA] W' from by
    have := h_Add 0 rA (by decide) (by decide) (by decide) W h
    rwa [add_1, show addL 151587081 167772160 8 [] 0 rA = [rA] by decide] at this))
  have A2 := hide (fun W (h : Held w3 (.slice none 0 0) B 151587081 167772160 8 [rA] W) => (show Calls Try.prog 14 #[.pointer (some ⟨B, 0, none⟩), .int .i64 0, .agg #[.int .i64 3, .int .u8 6, .int .u32 0, .int .i64 0, .int .u32 0, .int .i64 0, .int .u32 151587081, .int .u16 1500, .int .u16 1500, .int .u32 167772165, .int .u16 80]] W fun e W' => e = .returned (.int .i64 11) ∧ Held w3 (.slice none 0 0) B 151587081 167772160 8 [rA] W' from by
    have := h_Add 0 rB (by decide) (by decide) (by decide) W h
    rwa [add_2, show addL 151587081 167772160 8 [rA] 0 rB = [rA] by decide] at this))
  have A3 := hide (fun W (h : Held w3 (.slice none 0 0) B 151587081 167772160 8 [rA] W) => (show Calls Try.prog 14 #[.pointer (some ⟨B, 0, none⟩), .int .i64 0, .agg #[.int .i64 3, .int .u8 6, .int .u32 0, .int .i64 0, .int .u32 0, .int .i64 0, .int .u32 151587081, .int .u16 2000, .int .u16 2000, .int .u32 167772165, .int .u16 80]] W fun e W' => e = .returned (.int .i64 0) ∧ Held w3 (.slice none 0 0) B 151587081 167772160 8 [rC, rA] W' from by
    have := h_Add 0 rC (by decide) (by decide) (by decide) W h
    rwa [add_3, show addL 151587081 167772160 8 [rA] 0 rC = [rC, rA] by decide] at this))
  have A4 := hide (fun W (h : Held w3 (.slice none 0 0) B 151587081 167772160 8 [rC, rA] W) => (show Calls Try.prog 14 #[.pointer (some ⟨B, 0, none⟩), .int .i64 0, .agg #[.int .i64 3, .int .u8 6, .int .u32 0, .int .i64 0, .int .u32 0, .int .i64 0, .int .u32 151587081, .int .u16 2000, .int .u16 2000, .int .u32 167772165, .int .u16 80]] W fun e W' => e = .returned (.int .i64 11) ∧ Held w3 (.slice none 0 0) B 151587081 167772160 8 [rC, rA] W' from by
    have := h_Add 0 rC (by decide) (by decide) (by decide) W h
    rwa [add_4, show addL 151587081 167772160 8 [rC, rA] 0 rC = [rC, rA] by decide] at this))
  have S1 := hide (fun W (h : Held w3 (.slice none 0 0) B 151587081 167772160 8 [rC, rA] W) => (show Calls Try.prog 23 #[.pointer (some ⟨B, 0, none⟩), .agg #[.int .u8 17, .int .u32 167772161, .int .u16 5, .int .u32 16909060, .int .u16 53]] W fun e W' => e = .returned (.tuple #[.agg #[.int .i64 2, .int .u8 0, .int .u32 0, .int .i64 0, .int .u32 0, .int .i64 0, .int .u32 151587081, .int .u16 1000, .int .u16 1999, .int .u32 0, .int .u16 0], .bool true]) ∧ Held w3 (.slice none 0 0) B 151587081 167772160 8 [rC, rA] W' ∧ Below W.heap.size W W' from by
    have := h.ret (h_Source 17 167772161 5 16909060 53 (by decide) (by decide) (by decide) (by decide) W h)
    rwa [src_1.1, src_1.2] at this))
  have S2 := hide (fun W (h : Held w3 (.slice none 0 0) B 151587081 167772160 8 [rC, rA] W) => (show Calls Try.prog 28 #[.pointer (some ⟨B, 0, none⟩), .int .u8 6, .agg #[.int .u32 151587081, .int .u16 2000]] W fun e W' => e = .returned (.tuple #[.agg #[.int .i64 3, .int .u8 6, .int .u32 0, .int .i64 0, .int .u32 0, .int .i64 0, .int .u32 151587081, .int .u16 2000, .int .u16 2000, .int .u32 167772165, .int .u16 80], .bool true]) ∧ Held w3 (.slice none 0 0) B 151587081 167772160 8 [rC, rA] W' ∧ Below W.heap.size W W' from by
    have := h.ret (h_Static 6 151587081 2000 (by decide) W h)
    rwa [sta_1.1, sta_1.2] at this))
  have oA : ∀ W o, On w3 (.slice none 0 0) B W → On w3 (.slice none 0 0) B (W.alloc o) := fun W o h => On.alloc h o
  have DA := hide dA; have DB := hide dB; have DC := hide dC; have HB := hide hBlt; have HW := hide (show w.heap.size ≤ B from by have := b1.size; omega); have B12 := hide (bstep b1 (bstep b2 b3)); have TS3 := hide ts3
  clear dA dB dC hBlt b1 b2 b3 ts ts3 hB nn C0 C1
  go_upto_region 11 with (first | (go_at_call 14; (with_reducible refine (A1.out _ (by (first | with_reducible assumption | exact Held.below (by with_reducible assumption) (fresh_below _ _)))).mono ?_); rintro e w5 ⟨rfl, h5⟩; have o5 := On.of h5) | (go_at_call 14; (with_reducible refine (A2.out _ (by (first | with_reducible assumption | exact Held.below (by with_reducible assumption) (fresh_below _ _)))).mono ?_); rintro e w5 ⟨rfl, h5⟩; have o5 := On.of h5) | (go_at_call 14; (with_reducible refine (A3.out _ (by (first | with_reducible assumption | exact Held.below (by with_reducible assumption) (fresh_below _ _)))).mono ?_); rintro e w5 ⟨rfl, h5⟩; have o5 := On.of h5) | (go_at_call 14; (with_reducible refine (A4.out _ (by (first | with_reducible assumption | exact Held.below (by with_reducible assumption) (fresh_below _ _)))).mono ?_); rintro e w5 ⟨rfl, h5⟩; have o5 := On.of h5) | (go_at_call 23; (with_reducible refine (S1.out _ (by (first | with_reducible assumption | exact Held.below (by with_reducible assumption) (fresh_below _ _)))).mono ?_); rintro e w8 ⟨rfl, h8, b8⟩; have o8 := On.of h8) | (go_at_call 28; (with_reducible refine (S2.out _ (by (first | with_reducible assumption | exact Held.below (by with_reducible assumption) (fresh_below _ _)))).mono ?_); rintro e w9 ⟨rfl, h9, b9⟩; have o9 := On.of h9))
  have a9 := (oA _ (.cells #[.int .i64 3, .int .u8 6, .int .u32 0, .int .i64 0, .int .u32 0, .int .i64 0, .int .u32 151587081, .int .u16 2000, .int .u16 2000, .int .u32 167772165, .int .u16 80] 30) o9)
  have s0 := h3.only.size
  have g3 : w2.heap.size + 3 ≤ w3.heap.size := by have := Cells.lt DC.out; omega
  have g8 : w3.heap.size ≤ w8.heap.size := h8.only.size
  have g9 : w8.heap.size < w9.heap.size := by have := b9.size; rw [World.size_alloc] at this; omega
  have dd : Cells (w9.alloc (.cells #[.int .i64 3, .int .u8 6, .int .u32 0, .int .i64 0, .int .u32 0, .int .i64 0, .int .u32 151587081, .int .u16 2000, .int .u16 2000, .int .u32 167772165, .int .u16 80] 30)) w8.heap.size #[.int .i64 2, .int .u8 0, .int .u32 0, .int .i64 0, .int .u32 0, .int .i64 0, .int .u32 151587081, .int .u16 1000, .int .u16 1999, .int .u32 0, .int .u16 0] 30 := Cells.alloc (Cells.below b9 (Cells.new w8 #[.int .i64 2, .int .u8 0, .int .u32 0, .int .i64 0, .int .u32 0, .int .i64 0, .int .u32 151587081, .int .u16 1000, .int .u16 1999, .int .u32 0, .int .u16 0] 30)) _
  have ff := Cells.new w9 #[.int .i64 3, .int .u8 6, .int .u32 0, .int .i64 0, .int .u32 0, .int .i64 0, .int .u32 151587081, .int .u16 2000, .int .u16 2000, .int .u32 167772165, .int .u16 80] 30
  have aa : Cells (w9.alloc (.cells #[.int .i64 3, .int .u8 6, .int .u32 0, .int .i64 0, .int .u32 0, .int .i64 0, .int .u32 151587081, .int .u16 2000, .int .u16 2000, .int .u32 167772165, .int .u16 80] 30)) w2.heap.size _ _ := On.cells a9 DA.out (by have := HB.out; omega) (fun e => by cases e)
  have cc : Cells (w9.alloc (.cells #[.int .i64 3, .int .u8 6, .int .u32 0, .int .i64 0, .int .u32 0, .int .i64 0, .int .u32 151587081, .int .u16 2000, .int .u16 2000, .int .u32 167772165, .int .u16 80] 30)) (w2.heap.size + 1 + 1) _ _ := On.cells a9 DC.out (by have := HB.out; omega) (fun e => by cases e)
  have h10 := h9.below (fresh_below w9 (.cells #[.int .i64 3, .int .u8 6, .int .u32 0, .int .i64 0, .int .u32 0, .int .i64 0, .int .u32 151587081, .int .u16 2000, .int .u16 2000, .int .u32 167772165, .int .u16 80] 30))
  clear qdA_0 qdB_0 qdC_0 qdA_1 qdB_1 qdC_1 qdA_2 qdB_2 qdC_2 qdA_3 qdB_3 qdC_3 qdA_4 qdB_4 qdC_4 qdA_5 qdB_5 qdC_5 qdA_6 qdB_6 qdC_6 qdA_7 qdB_7 qdC_7 qdA_8 qdB_8 qdC_8 qdA_9 qdB_9 qdC_9 qdA_10 qdB_10 qdC_10 h3 o3 h8 o8 b8 h9 o9 b9 a9 oA A1 A2 A3 A4 S1 S2 DB
  generalize w9.alloc (.cells #[.int .i64 3, .int .u8 6, .int .u32 0, .int .i64 0, .int .u32 0, .int .i64 0, .int .u32 151587081, .int .u16 2000, .int .u16 2000, .int .u32 167772165, .int .u16 80] 30) = w10 at *
  have xaa_0 : w10.cell? ⟨w2.heap.size, 0, none⟩ = some (.int .i64 2) := aa.at_ 0
  have xaa_1 : w10.cell? ⟨w2.heap.size, 1, none⟩ = some (.int .u8 0) := aa.at_ 1
  have xaa_2 : w10.cell? ⟨w2.heap.size, 2, none⟩ = some (.int .u32 0) := aa.at_ 2
  have xaa_3 : w10.cell? ⟨w2.heap.size, 3, none⟩ = some (.int .i64 0) := aa.at_ 3
  have xaa_4 : w10.cell? ⟨w2.heap.size, 4, none⟩ = some (.int .u32 0) := aa.at_ 4
  have xaa_5 : w10.cell? ⟨w2.heap.size, 5, none⟩ = some (.int .i64 0) := aa.at_ 5
  have xaa_6 : w10.cell? ⟨w2.heap.size, 6, none⟩ = some (.int .u32 0) := aa.at_ 6
  have xaa_7 : w10.cell? ⟨w2.heap.size, 7, none⟩ = some (.int .u16 1000) := aa.at_ 7
  have xaa_8 : w10.cell? ⟨w2.heap.size, 8, none⟩ = some (.int .u16 1999) := aa.at_ 8
  have xaa_9 : w10.cell? ⟨w2.heap.size, 9, none⟩ = some (.int .u32 0) := aa.at_ 9
  have xaa_10 : w10.cell? ⟨w2.heap.size, 10, none⟩ = some (.int .u16 0) := aa.at_ 10
  have yaa_0 : w10.frozen? ⟨w2.heap.size, 0, none⟩ = false := aa.free 0
  have yaa_1 : w10.frozen? ⟨w2.heap.size, 1, none⟩ = false := aa.free 1
  have yaa_2 : w10.frozen? ⟨w2.heap.size, 2, none⟩ = false := aa.free 2
  have yaa_3 : w10.frozen? ⟨w2.heap.size, 3, none⟩ = false := aa.free 3
  have yaa_4 : w10.frozen? ⟨w2.heap.size, 4, none⟩ = false := aa.free 4
  have yaa_5 : w10.frozen? ⟨w2.heap.size, 5, none⟩ = false := aa.free 5
  have yaa_6 : w10.frozen? ⟨w2.heap.size, 6, none⟩ = false := aa.free 6
  have yaa_7 : w10.frozen? ⟨w2.heap.size, 7, none⟩ = false := aa.free 7
  have yaa_8 : w10.frozen? ⟨w2.heap.size, 8, none⟩ = false := aa.free 8
  have yaa_9 : w10.frozen? ⟨w2.heap.size, 9, none⟩ = false := aa.free 9
  have yaa_10 : w10.frozen? ⟨w2.heap.size, 10, none⟩ = false := aa.free 10
  have G := hide (⟨s0, g3, g8, g9⟩ : _ ∧ _ ∧ _ ∧ _)
  have H10 := hide h10; have DD := hide dd; have FF := hide ff; have AA := hide aa; have CC := hide cc
  clear s0 g3 g8 g9 h10 dd ff aa cc DA DC
  go_upto_region 12 with fail
  have aa := Cells.set_ AA.out 6 (.int .u32 151587081)
  have dd := Cells.other DD.out (show w8.heap.size ≠ w2.heap.size by have := G.out; omega) 6 (.int .u32 151587081)
  have ff := Cells.other FF.out (show w9.heap.size ≠ w2.heap.size by have := G.out; omega) 6 (.int .u32 151587081)
  have cc := Cells.other CC.out (show w2.heap.size + 1 + 1 ≠ w2.heap.size by omega) 6 (.int .u32 151587081)
  obtain ⟨v, hts, hv⟩ := H10.out.ts
  have n1 : ¬ B = w2.heap.size := by have := HB.out; omega
  have n2 : ∀ g, v.ownBlock = some g → w3.heap.size ≤ g := fun g hg => by
    rcases hv g hg with e | e
    · cases e
    · exact e
  have ts11 := TS.only hts (Only.setAt (X := fun k => k = w2.heap.size) (Only.refl _ _) (b := w2.heap.size) 6 (.int .u32 151587081) (Or.inl rfl)) n1 (fun g hg e => by have := n2 g hg; have := G.out; omega)
  have bw : Below w.heap.size w (w10.setCell ⟨w2.heap.size, 6, none⟩ (.int .u32 151587081)) := by
    have h1 := Below.trans B12.out (Only.below (B := w.heap.size) H10.out.only (by rintro k (rfl | e); exact HW.out; cases e) B12.out.size)
    exact Below.setCell h1 (p := ⟨w2.heap.size, 6, none⟩) (by have := HB.out; have := HW.out; dsimp only; omega) _
  clear xaa_0 xaa_1 xaa_2 xaa_3 xaa_4 xaa_5 xaa_6 xaa_7 xaa_8 xaa_9 xaa_10 yaa_0 yaa_1 yaa_2 yaa_3 yaa_4 yaa_5 yaa_6 yaa_7 yaa_8 yaa_9 yaa_10 hts hv n1 DD FF CC AA H10
  generalize w10.setCell ⟨w2.heap.size, 6, none⟩ (.int .u32 151587081) = w11 at *
  have xaa_0 : w11.cell? ⟨w2.heap.size, 0, none⟩ = some (.int .i64 2) := aa.at_ 0
  have xaa_1 : w11.cell? ⟨w2.heap.size, 1, none⟩ = some (.int .u8 0) := aa.at_ 1
  have xaa_2 : w11.cell? ⟨w2.heap.size, 2, none⟩ = some (.int .u32 0) := aa.at_ 2
  have xaa_3 : w11.cell? ⟨w2.heap.size, 3, none⟩ = some (.int .i64 0) := aa.at_ 3
  have xaa_4 : w11.cell? ⟨w2.heap.size, 4, none⟩ = some (.int .u32 0) := aa.at_ 4
  have xaa_5 : w11.cell? ⟨w2.heap.size, 5, none⟩ = some (.int .i64 0) := aa.at_ 5
  have xaa_6 : w11.cell? ⟨w2.heap.size, 6, none⟩ = some (.int .u32 151587081) := aa.at_ 6
  have xaa_7 : w11.cell? ⟨w2.heap.size, 7, none⟩ = some (.int .u16 1000) := aa.at_ 7
  have xaa_8 : w11.cell? ⟨w2.heap.size, 8, none⟩ = some (.int .u16 1999) := aa.at_ 8
  have xaa_9 : w11.cell? ⟨w2.heap.size, 9, none⟩ = some (.int .u32 0) := aa.at_ 9
  have xaa_10 : w11.cell? ⟨w2.heap.size, 10, none⟩ = some (.int .u16 0) := aa.at_ 10
  have xdd_0 : w11.cell? ⟨w8.heap.size, 0, none⟩ = some (.int .i64 2) := dd.at_ 0
  have xdd_1 : w11.cell? ⟨w8.heap.size, 1, none⟩ = some (.int .u8 0) := dd.at_ 1
  have xdd_2 : w11.cell? ⟨w8.heap.size, 2, none⟩ = some (.int .u32 0) := dd.at_ 2
  have xdd_3 : w11.cell? ⟨w8.heap.size, 3, none⟩ = some (.int .i64 0) := dd.at_ 3
  have xdd_4 : w11.cell? ⟨w8.heap.size, 4, none⟩ = some (.int .u32 0) := dd.at_ 4
  have xdd_5 : w11.cell? ⟨w8.heap.size, 5, none⟩ = some (.int .i64 0) := dd.at_ 5
  have xdd_6 : w11.cell? ⟨w8.heap.size, 6, none⟩ = some (.int .u32 151587081) := dd.at_ 6
  have xdd_7 : w11.cell? ⟨w8.heap.size, 7, none⟩ = some (.int .u16 1000) := dd.at_ 7
  have xdd_8 : w11.cell? ⟨w8.heap.size, 8, none⟩ = some (.int .u16 1999) := dd.at_ 8
  have xdd_9 : w11.cell? ⟨w8.heap.size, 9, none⟩ = some (.int .u32 0) := dd.at_ 9
  have xdd_10 : w11.cell? ⟨w8.heap.size, 10, none⟩ = some (.int .u16 0) := dd.at_ 10
  have xff_0 : w11.cell? ⟨w9.heap.size, 0, none⟩ = some (.int .i64 3) := ff.at_ 0
  have xff_1 : w11.cell? ⟨w9.heap.size, 1, none⟩ = some (.int .u8 6) := ff.at_ 1
  have xff_2 : w11.cell? ⟨w9.heap.size, 2, none⟩ = some (.int .u32 0) := ff.at_ 2
  have xff_3 : w11.cell? ⟨w9.heap.size, 3, none⟩ = some (.int .i64 0) := ff.at_ 3
  have xff_4 : w11.cell? ⟨w9.heap.size, 4, none⟩ = some (.int .u32 0) := ff.at_ 4
  have xff_5 : w11.cell? ⟨w9.heap.size, 5, none⟩ = some (.int .i64 0) := ff.at_ 5
  have xff_6 : w11.cell? ⟨w9.heap.size, 6, none⟩ = some (.int .u32 151587081) := ff.at_ 6
  have xff_7 : w11.cell? ⟨w9.heap.size, 7, none⟩ = some (.int .u16 2000) := ff.at_ 7
  have xff_8 : w11.cell? ⟨w9.heap.size, 8, none⟩ = some (.int .u16 2000) := ff.at_ 8
  have xff_9 : w11.cell? ⟨w9.heap.size, 9, none⟩ = some (.int .u32 167772165) := ff.at_ 9
  have xff_10 : w11.cell? ⟨w9.heap.size, 10, none⟩ = some (.int .u16 80) := ff.at_ 10
  have xcc_0 : w11.cell? ⟨w2.heap.size + 1 + 1, 0, none⟩ = some (.int .i64 3) := cc.at_ 0
  have xcc_1 : w11.cell? ⟨w2.heap.size + 1 + 1, 1, none⟩ = some (.int .u8 6) := cc.at_ 1
  have xcc_2 : w11.cell? ⟨w2.heap.size + 1 + 1, 2, none⟩ = some (.int .u32 0) := cc.at_ 2
  have xcc_3 : w11.cell? ⟨w2.heap.size + 1 + 1, 3, none⟩ = some (.int .i64 0) := cc.at_ 3
  have xcc_4 : w11.cell? ⟨w2.heap.size + 1 + 1, 4, none⟩ = some (.int .u32 0) := cc.at_ 4
  have xcc_5 : w11.cell? ⟨w2.heap.size + 1 + 1, 5, none⟩ = some (.int .i64 0) := cc.at_ 5
  have xcc_6 : w11.cell? ⟨w2.heap.size + 1 + 1, 6, none⟩ = some (.int .u32 151587081) := cc.at_ 6
  have xcc_7 : w11.cell? ⟨w2.heap.size + 1 + 1, 7, none⟩ = some (.int .u16 2000) := cc.at_ 7
  have xcc_8 : w11.cell? ⟨w2.heap.size + 1 + 1, 8, none⟩ = some (.int .u16 2000) := cc.at_ 8
  have xcc_9 : w11.cell? ⟨w2.heap.size + 1 + 1, 9, none⟩ = some (.int .u32 167772165) := cc.at_ 9
  have xcc_10 : w11.cell? ⟨w2.heap.size + 1 + 1, 10, none⟩ = some (.int .u16 80) := cc.at_ 10
  have h11 := Held.start ts11
  have wn : ∀ g, v.ownBlock = some g → w.heap.size ≤ g := fun g hg => Nat.le_trans B12.out.size (n2 g hg)
  have WN := hide wn; have BW := hide bw
  clear ts11 n2 aa dd ff cc wn bw B12 TS3
  have A5 := hide (fun W (h : Held w11 v B 151587081 167772160 8 [rC, rA] W) => (show Calls Try.prog 14 #[.pointer (some ⟨B, 0, none⟩), .int .i64 3, .agg #[.int .i64 2, .int .u8 0, .int .u32 0, .int .i64 0, .int .u32 0, .int .i64 0, .int .u32 151587081, .int .u16 1000, .int .u16 1999, .int .u32 0, .int .u16 0]] W fun e W' => e = .returned (.int .i64 2) ∧ Held w11 v B 151587081 167772160 8 [rC, rA] W' from by
    have := h_Add 3 { rA with e := 151587081 } (by decide) (by decide) (by decide) W h
    rwa [add_5, show addL 151587081 167772160 8 [rC, rA] 3 { rA with e := 151587081 } = [rC, rA] by decide] at this))
  have D1 := hide (fun W (h : Held w11 v B 151587081 167772160 8 [rC, rA] W) => (show Calls Try.prog 26 #[.pointer (some ⟨B, 0, none⟩), .int .i64 2] W fun e W' => e = .returned (.int .i64 2) ∧ Held w11 v B 151587081 167772160 8 [rC, rA] W' from by
    have := h_Delete 2 (by decide) W h
    rwa [show delC [rC, rA] 2 = 2 by decide, show delL [rC, rA] 2 = [rC, rA] by decide] at this))
  have O1 := hide (fun W (h : Held w11 v B 151587081 167772160 8 [rC, rA] W) => (show Calls Try.prog 18 #[.pointer (some ⟨B, 0, none⟩), .int .u32 151587081] W fun e W' => e = .returned (.bool true) ∧ Held w11 v B 151587081 167772160 8 [rC, rA] W' from by
    have := (h_Outer 151587081 (by decide) W h).mono (R' := fun e W' => e = .returned (.bool (outR 151587081 [rC, rA] 151587081)) ∧ Held w11 v B 151587081 167772160 8 [rC, rA] W') fun e W' k => ⟨k.1, h.below k.2⟩
    rwa [out_1] at this))
  have I1 := hide (fun W (h : Held w11 v B 151587081 167772160 8 [rC, rA] W) => (show Calls Try.prog 16 #[.pointer (some ⟨B, 0, none⟩), .int .u32 167837953] W fun e W' => e = .returned (.bool true) ∧ Held w11 v B 151587081 167772160 8 [rC, rA] W' from by
    have := (h_Inner 167837953 (by decide) (by decide) W h).mono (R' := fun e W' => e = .returned (.bool (hasP 167772160 8 167837953)) ∧ Held w11 v B 151587081 167772160 8 [rC, rA] W') fun e W' k => ⟨k.1, h.below k.2⟩
    rwa [inn_1] at this))
  have L1 := hide (fun W (h : Held w11 v B 151587081 167772160 8 [rC, rA] W) => (show Calls Try.prog 22 #[.pointer (some ⟨B, 0, none⟩)] W fun e W' => ∃ A c, e = .returned (.slice A 2 c) ∧ Held w11 v B 151587081 167772160 8 [rC, rA] W' from (h_List (by decide) W h).mono fun e W' ⟨A, c, k1, k2, k3, k4⟩ => ⟨A, c, k1, h.below k3⟩))
  go_wp2_with (first | (go_at_call 14; (with_reducible refine (A5.out _ (by (first | with_reducible assumption | exact Held.below (by with_reducible assumption) (fresh_below _ _)))).mono ?_); rintro e w5 ⟨rfl, h5⟩) | (go_at_call 26; (with_reducible refine (D1.out _ (by (first | with_reducible assumption | exact Held.below (by with_reducible assumption) (fresh_below _ _)))).mono ?_); rintro e w5 ⟨rfl, h5⟩) | (go_at_call 18; (with_reducible refine (O1.out _ (by (first | with_reducible assumption | exact Held.below (by with_reducible assumption) (fresh_below _ _)))).mono ?_); rintro e w5 ⟨rfl, h5⟩) | (go_at_call 16; (with_reducible refine (I1.out _ (by (first | with_reducible assumption | exact Held.below (by with_reducible assumption) (fresh_below _ _)))).mono ?_); rintro e w5 ⟨rfl, h5⟩) | (go_at_call 22; (with_reducible refine (L1.out _ (by (first | with_reducible assumption | exact Held.below (by with_reducible assumption) (fresh_below _ _)))).mono ?_); rintro e w5 ⟨A, c, rfl, h5⟩))
  go_ret
  refine ⟨ret_bool (by first | rfl | (simp; done) | decide), ?_⟩
  have hh : Held w11 v B 151587081 167772160 8 [rC, rA] _ := h5
  have h1 := Only.below (B := w.heap.size) hh.only (by rintro k (rfl | e); exact HW.out; exact WN.out k e) BW.out.size
  exact Below.trans BW.out h1
end Go.Proofs.Ytbboajhdijabbaa
