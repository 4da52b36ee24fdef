/- RulesNone: the walk. -/
import Derived.Test.YtbboajhdijabbaaRule22
set_option linter.unusedVariables false
set_option linter.unusedSimpArgs false
namespace Go.Proofs.Ytbboajhdijabbaa
open Go.RowKit Go.Lib
attribute [local go_sem] Oper.semAt_some

set_option maxHeartbeats 8000000 in
set_option maxRecDepth 100000 in
theorem none_go (r : Rule) (i p si sp di dp : Int) (w : World) :
    Calls Try.prog 8 #[.agg r.cells, .int .i64 i, .agg #[.int .u8 p, .int .u32 si, .int .u16 sp, .int .u32 di, .int .u16 dp]] w (Ret (.bool true) w) := by
  have n2 := fun W A (h : None W A) => n_Check W A h r
  have n3 := fun W A (h : None W A) => n_Add W A h i r
  unfold Rule.cells at *
  have N2 := hide n2; have N3 := hide n3
  clear n2 n3
  go_enter Try.func8, Try.ntmps8
  have d0 := Cells.new w #[.int .i64 r.k, .int .u8 r.p, .int .u32 r.sa, .int .i64 r.sb, .int .u32 r.da, .int .i64 r.db, .int .u32 r.e, .int .u16 r.f, .int .u16 r.t, .int .u32 r.ia, .int .u16 r.ip] 30
  replace d0 := Cells.below (fresh_below (w.alloc (.cells #[.int .i64 r.k, .int .u8 r.p, .int .u32 r.sa, .int .i64 r.sb, .int .u32 r.da, .int .i64 r.db, .int .u32 r.e, .int .u16 r.f, .int .u16 r.t, .int .u32 r.ia, .int .u16 r.ip] 30)) (.cells #[.int .u8 p, .int .u32 si, .int .u16 sp, .int .u32 di, .int .u16 dp] 49)) d0
  have d1 := Cells.new (w.alloc (.cells #[.int .i64 r.k, .int .u8 r.p, .int .u32 r.sa, .int .i64 r.sb, .int .u32 r.da, .int .i64 r.db, .int .u32 r.e, .int .u16 r.f, .int .u16 r.t, .int .u32 r.ia, .int .u16 r.ip] 30)) #[.int .u8 p, .int .u32 si, .int .u16 sp, .int .u32 di, .int .u16 dp] 49
  rw [World.size_alloc] at d1
  have l0 : Below w.heap.size w ((w.alloc (.cells #[.int .i64 r.k, .int .u8 r.p, .int .u32 r.sa, .int .i64 r.sb, .int .u32 r.da, .int .i64 r.db, .int .u32 r.e, .int .u16 r.f, .int .u16 r.t, .int .u32 r.ia, .int .u16 r.ip] 30)).alloc (.cells #[.int .u8 p, .int .u32 si, .int .u16 sp, .int .u32 di, .int .u16 dp] 49)) := bstep (fresh_below _ _) (fresh_below _ _)
  have L0 := hide l0; have D0 := hide d0; have D1 := hide d1
  clear l0 d0 d1
  go_upto_region 1 with fail
  have l0 := L0.out; have d0 := D0.out; have d1 := D1.out
  clear L0 D0 D1
  generalize ((w.alloc (.cells #[.int .i64 r.k, .int .u8 r.p, .int .u32 r.sa, .int .i64 r.sb, .int .u32 r.da, .int .i64 r.db, .int .u32 r.e, .int .u16 r.f, .int .u16 r.t, .int .u32 r.ia, .int .u16 r.ip] 30)).alloc (.cells #[.int .u8 p, .int .u32 si, .int .u16 sp, .int .u32 di, .int .u16 dp] 49)) = w1 at *
  have L0 := hide l0; have D0 := hide d0; have D1 := hide d1
  clear l0 d0 d1
  go_wp2_with fail
  go_loopg [7, 8] 2 (fun gg s7 s8 wr => ∃ (j : Nat) (A : Option Addr), j ≤ 2 ∧ 2 - j ≤ gg ∧ s8 = .int .i64 j ∧ s7 = .pointer A ∧ Aside (None wr A) ∧ Aside (Below w1.heap.size w1 wr))
  case atStart => exact ⟨0, none, by omega, by omega, rfl, rfl, Or.inl rfl, Below.refl _ _⟩
  case round =>
    obtain ⟨j, A, hj, hg, rfl, rfl, hN, hB⟩ := hrel
    by_cases hlt : j < 2
    · have hlt' : (j : Int) < 2 := by omega
      have e0 := Cells.below hB.out D0.out; have e1 := Cells.below hB.out D1.out
      have qe0_0 : ∀ W', Below wr.heap.size wr W' → World.cell? W' ⟨w.heap.size, 0, none⟩ = some (.int .i64 r.k) := fun W' h => Cells.at_ (Cells.below h e0) 0
      have qe0_1 : ∀ W', Below wr.heap.size wr W' → World.cell? W' ⟨w.heap.size, 1, none⟩ = some (.int .u8 r.p) := fun W' h => Cells.at_ (Cells.below h e0) 1
      have qe0_2 : ∀ W', Below wr.heap.size wr W' → World.cell? W' ⟨w.heap.size, 2, none⟩ = some (.int .u32 r.sa) := fun W' h => Cells.at_ (Cells.below h e0) 2
      have qe0_3 : ∀ W', Below wr.heap.size wr W' → World.cell? W' ⟨w.heap.size, 3, none⟩ = some (.int .i64 r.sb) := fun W' h => Cells.at_ (Cells.below h e0) 3
      have qe0_4 : ∀ W', Below wr.heap.size wr W' → World.cell? W' ⟨w.heap.size, 4, none⟩ = some (.int .u32 r.da) := fun W' h => Cells.at_ (Cells.below h e0) 4
      have qe0_5 : ∀ W', Below wr.heap.size wr W' → World.cell? W' ⟨w.heap.size, 5, none⟩ = some (.int .i64 r.db) := fun W' h => Cells.at_ (Cells.below h e0) 5
      have qe0_6 : ∀ W', Below wr.heap.size wr W' → World.cell? W' ⟨w.heap.size, 6, none⟩ = some (.int .u32 r.e) := fun W' h => Cells.at_ (Cells.below h e0) 6
      have qe0_7 : ∀ W', Below wr.heap.size wr W' → World.cell? W' ⟨w.heap.size, 7, none⟩ = some (.int .u16 r.f) := fun W' h => Cells.at_ (Cells.below h e0) 7
      have qe0_8 : ∀ W', Below wr.heap.size wr W' → World.cell? W' ⟨w.heap.size, 8, none⟩ = some (.int .u16 r.t) := fun W' h => Cells.at_ (Cells.below h e0) 8
      have qe0_9 : ∀ W', Below wr.heap.size wr W' → World.cell? W' ⟨w.heap.size, 9, none⟩ = some (.int .u32 r.ia) := fun W' h => Cells.at_ (Cells.below h e0) 9
      have qe0_10 : ∀ W', Below wr.heap.size wr W' → World.cell? W' ⟨w.heap.size, 10, none⟩ = some (.int .u16 r.ip) := fun W' h => Cells.at_ (Cells.below h e0) 10
      have qe1_0 : ∀ W', Below wr.heap.size wr W' → World.cell? W' ⟨w.heap.size + 1, 0, none⟩ = some (.int .u8 p) := fun W' h => Cells.at_ (Cells.below h e1) 0
      have qe1_1 : ∀ W', Below wr.heap.size wr W' → World.cell? W' ⟨w.heap.size + 1, 1, none⟩ = some (.int .u32 si) := fun W' h => Cells.at_ (Cells.below h e1) 1
      have qe1_2 : ∀ W', Below wr.heap.size wr W' → World.cell? W' ⟨w.heap.size + 1, 2, none⟩ = some (.int .u16 sp) := fun W' h => Cells.at_ (Cells.below h e1) 2
      have qe1_3 : ∀ W', Below wr.heap.size wr W' → World.cell? W' ⟨w.heap.size + 1, 3, none⟩ = some (.int .u32 di) := fun W' h => Cells.at_ (Cells.below h e1) 3
      have qe1_4 : ∀ W', Below wr.heap.size wr W' → World.cell? W' ⟨w.heap.size + 1, 4, none⟩ = some (.int .u16 dp) := fun W' h => Cells.at_ (Cells.below h e1) 4
      have bb : Below wr.heap.size wr wr := Below.refl _ _
      have bA : ∀ W o, Below wr.heap.size wr W → Below wr.heap.size wr (W.alloc o) := fun W o h => bstep h (fresh_below W o)
      have NN := hide (fun W (h : Below wr.heap.size wr W) => hN.out.below h)
      clear e0 e1
      have HB := hide hB; have HN := hide hN
      clear hB hN
      go_wp2_with (first | (go_at_call 28; (with_reducible refine (n_Static _ A (NN.out _ (by first | with_reducible assumption | exact bA _ _ (by with_reducible assumption))) _ _ _).mono ?_); rintro e w2 ⟨rfl, b2⟩; have b2' : Below wr.heap.size wr w2 := bstep (by first | with_reducible assumption | exact bA _ _ (by with_reducible assumption)) b2; clear b2) | (go_at_call 29; (with_reducible refine (n_Own _ A (NN.out _ (by first | with_reducible assumption | exact bA _ _ (by with_reducible assumption))) _ _ _).mono ?_); rintro e w2 ⟨rfl, b2⟩; have b2' : Below wr.heap.size wr w2 := bstep (by first | with_reducible assumption | exact bA _ _ (by with_reducible assumption)) b2; clear b2) | (go_at_call 23; (with_reducible refine (n_Source _ A (NN.out _ (by first | with_reducible assumption | exact bA _ _ (by with_reducible assumption))) _ _ _ _ _).mono ?_); rintro e w2 ⟨rfl, b2⟩; have b2' : Below wr.heap.size wr w2 := bstep (by first | with_reducible assumption | exact bA _ _ (by with_reducible assumption)) b2; clear b2) | (go_at_call 12; (with_reducible refine (N2.out _ A (NN.out _ (by first | with_reducible assumption | exact bA _ _ (by with_reducible assumption)))).mono ?_); rintro e w2 ⟨rfl, b2⟩; have b2' : Below wr.heap.size wr w2 := bstep (by first | with_reducible assumption | exact bA _ _ (by with_reducible assumption)) b2; clear b2) | (go_at_call 14; (with_reducible refine (N3.out _ A (NN.out _ (by first | with_reducible assumption | exact bA _ _ (by with_reducible assumption)))).mono ?_); rintro e w2 ⟨rfl, b2⟩; have b2' : Below wr.heap.size wr w2 := bstep (by first | with_reducible assumption | exact bA _ _ (by with_reducible assumption)) b2; clear b2) | (go_at_call 26; (with_reducible refine (n_Delete _ A (NN.out _ (by first | with_reducible assumption | exact bA _ _ (by with_reducible assumption))) _).mono ?_); rintro e w2 ⟨rfl, b2⟩; have b2' : Below wr.heap.size wr w2 := bstep (by first | with_reducible assumption | exact bA _ _ (by with_reducible assumption)) b2; clear b2) | (go_at_call 22; (with_reducible refine (n_List _ A (NN.out _ (by first | with_reducible assumption | exact bA _ _ (by with_reducible assumption)))).mono ?_); rintro e w2 ⟨rfl, b2⟩; have b2' : Below wr.heap.size wr w2 := bstep (by first | with_reducible assumption | exact bA _ _ (by with_reducible assumption)) b2; clear b2) | (go_at_call 32; (with_reducible refine (n_Copy _ A (NN.out _ (by first | with_reducible assumption | exact bA _ _ (by with_reducible assumption)))).mono ?_); rintro e w2 ⟨rfl, b2⟩; have b2' : Below wr.heap.size wr w2 := bstep (by first | with_reducible assumption | exact bA _ _ (by with_reducible assumption)) b2; clear b2) | (go_at_call 16; (with_reducible refine (n_Inner _ A (NN.out _ (by first | with_reducible assumption | exact bA _ _ (by with_reducible assumption))) _).mono ?_); rintro e w2 ⟨rfl, b2⟩; have b2' : Below wr.heap.size wr w2 := bstep (by first | with_reducible assumption | exact bA _ _ (by with_reducible assumption)) b2; clear b2) | (go_at_call 18; (with_reducible refine (n_Outer _ A (NN.out _ (by first | with_reducible assumption | exact bA _ _ (by with_reducible assumption))) _).mono ?_); rintro e w2 ⟨rfl, b2⟩; have b2' : Below wr.heap.size wr w2 := bstep (by first | with_reducible assumption | exact bA _ _ (by with_reducible assumption)) b2; clear b2))
      go_roundg (2 - (j + 1))
      case measure => omega
      case rel =>
        refine ⟨j + 1, some ⟨w2.heap.size, 0, none⟩, by omega, by omega, by go_num, rfl, Or.inr ⟨_, rfl, Cells.new w2 _ _⟩, bstep HB.out.out (bA _ _ (by assumption))⟩
    · have : j = 2 := by omega
      subst this
      go_wp2_with (go_at_call 11; (with_reducible refine (ruled _).mono ?_); rintro e w2 ⟨rfl, b2⟩)
      go_ret
      exact ⟨rfl, bstep (bstep L0.out hB.out) b2⟩

theorem RulesNone_walk (a0 a1 a2 a3 a4 a5 a6 a7 a8 a9 a10 i x0 x1 x2 x3 x4 : Int) (w : World) (_ : -9223372036854775808 ≤ a0 ∧ a0 ≤ 9223372036854775807) (_ : 0 ≤ a1 ∧ a1 ≤ 255) (_ : 0 ≤ a2 ∧ a2 ≤ 4294967295) (_ : -9223372036854775808 ≤ a3 ∧ a3 ≤ 9223372036854775807) (_ : 0 ≤ a4 ∧ a4 ≤ 4294967295) (_ : -9223372036854775808 ≤ a5 ∧ a5 ≤ 9223372036854775807) (_ : 0 ≤ a6 ∧ a6 ≤ 4294967295) (_ : 0 ≤ a7 ∧ a7 ≤ 65535) (_ : 0 ≤ a8 ∧ a8 ≤ 65535) (_ : 0 ≤ a9 ∧ a9 ≤ 4294967295) (_ : 0 ≤ a10 ∧ a10 ≤ 65535) (_ : -9223372036854775808 ≤ i ∧ i ≤ 9223372036854775807) (_ : 0 ≤ x0 ∧ x0 ≤ 255) (_ : 0 ≤ x1 ∧ x1 ≤ 4294967295) (_ : 0 ≤ x2 ∧ x2 ≤ 65535) (_ : 0 ≤ x3 ∧ x3 ≤ 4294967295) (_ : 0 ≤ x4 ∧ x4 ≤ 65535) :
    Calls Try.prog 8 #[.agg #[.int .i64 a0, .int .u8 a1, .int .u32 a2, .int .i64 a3, .int .u32 a4, .int .i64 a5, .int .u32 a6, .int .u16 a7, .int .u16 a8, .int .u32 a9, .int .u16 a10], .int .i64 i, .agg #[.int .u8 x0, .int .u32 x1, .int .u16 x2, .int .u32 x3, .int .u16 x4]] w (Ret (.bool true) w) :=
  none_go ⟨a0, a1, a2, a3, a4, a5, a6, a7, a8, a9, a10⟩ i x0 x1 x2 x3 x4 w
end Go.Proofs.Ytbboajhdijabbaa
