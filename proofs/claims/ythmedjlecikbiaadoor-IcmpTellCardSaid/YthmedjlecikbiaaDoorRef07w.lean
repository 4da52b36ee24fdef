/- WithID over this program. -/
import Derived.Test.YthmedjlecikbiaaDoorIcmp2
set_option linter.unusedVariables false
namespace Go.Proofs.YthmedjlecikbiaaDoor
open Go.RowKit Go.Maps
attribute [local go_sem] Oper.semAt_some

set_option maxHeartbeats 4000000 in
theorem r7_WithID (m : Msg) (id : Int) (w : World) (ho : m.Ok) (hi : 0 ≤ id ∧ id ≤ 65535) :
    Calls Tryd.prog 24 #[.agg #[.int .u8 m.t, .int .u8 m.c, .int .u16 m.n, .string m.r, .string m.d], .int .u16 id] w (Ret (.agg #[.int .u8 (msgID m id).t, .int .u8 (msgID m id).c, .int .u16 (msgID m id).n, .string (msgID m id).r, .string (msgID m id).d]) w) := by
  obtain ⟨-, -, -, hr, -⟩ := ho
  obtain ⟨t, c, n, r, d⟩ := m
  have c1 := fun w => r_Put16 id w hi.1 hi.2
  simp only [msgID] at hr ⊢
  by_cases h2 : 2 ≤ r.size
  · rw [if_pos h2]
    have hz : (S (put16 id)).size = 2 := rfl
    have he : S (put16 id) ++ r.extract 2 r.size = S (lay (L r) 0 id) := by
      apply L_inj; rw [L_append, L_from]; rfl
    obtain ⟨p, hp⟩ : ∃ p, p = S (put16 id) := ⟨_, rfl⟩
    obtain ⟨u, hu⟩ : ∃ u, u = S (lay (L r) 0 id) := ⟨_, rfl⟩
    rw [← hp] at c1 hz he
    rw [← hu] at he ⊢
    have zr : (r.extract 2 r.size).size ≤ 140737488351232 := by rw [ByteArray.size_extract]; omega
    have i1 : (2 : Int) ≤ (r.size : Int) := by omega
    have C1 := hide c1; have HE := hide he
    clear c1 hp hu he
    go_enter Tryd.func24, Tryd.ntmps24
    have d0 := Cells.new w #[.int .u8 t, .int .u8 c, .int .u16 n, .string r, .string d] 32
    replace d0 := Cells.below (fresh_below (w.alloc (.cells #[.int .u8 t, .int .u8 c, .int .u16 n, .string r, .string d] 32)) (.cells #[.int .u8 0, .int .u8 0, .int .u16 0, .string { data := #[] }, .string { data := #[] }] 32)) d0
    have d1 := Cells.new (w.alloc (.cells #[.int .u8 t, .int .u8 c, .int .u16 n, .string r, .string d] 32)) #[.int .u8 0, .int .u8 0, .int .u16 0, .string { data := #[] }, .string { data := #[] }] 32
    rw [World.size_alloc] at d1
    go_wp2_with fail
    go_region_with (first | (go_at_call 33; (with_reducible refine (C1.out _).mono ?_); rintro e wq ⟨rfl, bq⟩; have D0 := Cells.up d0 (by (repeat' (first | with_reducible exact Below.refl _ _ | with_reducible refine bstep ?_ (fresh_below _ _) | with_reducible refine Below.drew ?_))) bq; have D1 := Cells.up d1 (by (repeat' (first | with_reducible exact Below.refl _ _ | with_reducible refine bstep ?_ (fresh_below _ _) | with_reducible refine Below.drew ?_))) bq; have bq2 : Below w.heap.size w wq := (by (refine bstep ?_ bq); (repeat' (first | with_reducible exact Below.refl _ _ | with_reducible refine bstep ?_ (fresh_below _ _) | with_reducible refine Below.drew ?_))); have xD0_0 : wq.cell? ⟨w.heap.size, 0, none⟩ = some (.int .u8 t) := D0.at_ 0; have yD0_0 : wq.frozen? ⟨w.heap.size, 0, none⟩ = false := D0.free 0; have xD0_1 : wq.cell? ⟨w.heap.size, 1, none⟩ = some (.int .u8 c) := D0.at_ 1; have yD0_1 : wq.frozen? ⟨w.heap.size, 1, none⟩ = false := D0.free 1; have xD0_2 : wq.cell? ⟨w.heap.size, 2, none⟩ = some (.int .u16 n) := D0.at_ 2; have yD0_2 : wq.frozen? ⟨w.heap.size, 2, none⟩ = false := D0.free 2; have xD0_3 : wq.cell? ⟨w.heap.size, 3, none⟩ = some (.string r) := D0.at_ 3; have yD0_3 : wq.frozen? ⟨w.heap.size, 3, none⟩ = false := D0.free 3; have xD0_4 : wq.cell? ⟨w.heap.size, 4, none⟩ = some (.string d) := D0.at_ 4; have yD0_4 : wq.frozen? ⟨w.heap.size, 4, none⟩ = false := D0.free 4; have xD1_0 : wq.cell? ⟨w.heap.size + 1, 0, none⟩ = some (.int .u8 0) := D1.at_ 0; have yD1_0 : wq.frozen? ⟨w.heap.size + 1, 0, none⟩ = false := D1.free 0; have xD1_1 : wq.cell? ⟨w.heap.size + 1, 1, none⟩ = some (.int .u8 0) := D1.at_ 1; have yD1_1 : wq.frozen? ⟨w.heap.size + 1, 1, none⟩ = false := D1.free 1; have xD1_2 : wq.cell? ⟨w.heap.size + 1, 2, none⟩ = some (.int .u16 0) := D1.at_ 2; have yD1_2 : wq.frozen? ⟨w.heap.size + 1, 2, none⟩ = false := D1.free 2; have xD1_3 : wq.cell? ⟨w.heap.size + 1, 3, none⟩ = some (.string { data := #[] }) := D1.at_ 3; have yD1_3 : wq.frozen? ⟨w.heap.size + 1, 3, none⟩ = false := D1.free 3; have xD1_4 : wq.cell? ⟨w.heap.size + 1, 4, none⟩ = some (.string { data := #[] }) := D1.at_ 4; have yD1_4 : wq.frozen? ⟨w.heap.size + 1, 4, none⟩ = false := D1.free 4))
    all_goals
      have zq := bq2.size
      go_wp2
      (try simp only [Exit.inBlock, Exit.then]); refine bodyPost_ret (by simp [results, Tryd.results24, go_sem, *]; try rfl) rfl ?_
      exact ⟨by rw [HE.out], by (repeat' (first | with_reducible exact bq2 | with_reducible refine Below.setCell ?_ (by first | exact Nat.le_refl _ | (dsimp only; omega)) _ | with_reducible refine bstep ?_ (fresh_below _ _) | with_reducible refine Below.drew ?_))⟩
  · rw [if_neg h2]
    have i1 : ¬ (2 : Int) ≤ (r.size : Int) := by omega
    go_enter Tryd.func24, Tryd.ntmps24
    go_wp2
    (try simp only [Exit.inBlock, Exit.then]); refine bodyPost_ret (by simp [results, Tryd.results24, go_sem, *]; try rfl) rfl ?_
    exact ⟨rfl, (by (repeat' (first | with_reducible exact Below.refl _ _ | with_reducible refine Below.setCell ?_ (by first | exact Nat.le_refl _ | (dsimp only; omega)) _ | with_reducible refine bstep ?_ (fresh_below _ _) | with_reducible refine Below.drew ?_)))⟩
end Go.Proofs.YthmedjlecikbiaaDoor
