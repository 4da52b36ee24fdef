/- Put of the document's icmp (porterref07) over this program. -/
import Derived.Test.YthmedjlecikbiaaDoorRef07
set_option linter.unusedVariables false
namespace Go.Proofs.YthmedjlecikbiaaDoor
open Go.RowKit
attribute [local go_sem] Oper.semAt_some

set_option maxRecDepth 100000 in
set_option maxHeartbeats 4000000 in
theorem r7_Put_yes (m : Msg) (w : World) (ho : m.Ok) (h : m.r.size = 4) :
    Calls Tryd.prog 16 #[.agg #[.int .u8 m.t, .int .u8 m.c, .int .u16 m.n, .string m.r, .string m.d]] w (Ret (.tuple #[.string (S (msgPut m)), .int .i64 0]) w) := by
  obtain ⟨⟨t0, t1⟩, ⟨c0, c1⟩, ⟨n0, n1⟩, hr, hd⟩ := ho
  have f1 := fun w => r_Put16 m.n w n0 n1
  obtain ⟨s2, e2⟩ : ∃ s, s = S (put16 m.n) := ⟨_, rfl⟩
  rw [← e2] at f1
  have z2 : s2.size = 2 := by rw [e2]; rfl
  have z1 : (S [byt m.t, byt m.c]).size = 2 := rfl
  have hend : S [byt m.t, byt m.c] ++ s2 ++ m.r ++ m.d = S (msgPut m) := by
    apply L_inj; rw [L_append, L_append, L_append, e2]; rfl
  obtain ⟨s1, e1⟩ : ∃ s, s = S [byt m.t, byt m.c] := ⟨_, rfl⟩
  rw [← e1] at z1 hend
  have cv : ∀ (W : World) (b : Nat), W.cell? ⟨b, 0, none⟩ = some (.int .u8 m.t) → W.cell? ⟨b, 1, none⟩ = some (.int .u8 m.c) → (convert 26 9 (.slice (some ⟨b, 0, none⟩) 2 2)).run Tryd.prog W = .ok (.string s1) W := fun W b h0 h1 => by
    rw [e1]
    exact run_convert_bytes_arg (P := Tryd.prog) W 26 5 Tryd.underlying26 Tryd.underlying5 b 0 2 2 [m.t, m.c] rfl
      (fun i hi => by
        match i, hi with
        | 0, _ => exact h0
        | 1, _ => exact h1) 9 Tryd.underlying9
  have y1 : (s1 ++ s2).size = 4 := by rw [ByteArray.size_append, z1, z2]
  have y2 : (s1 ++ s2 ++ m.r).size = 8 := by rw [ByteArray.size_append, y1, h]
  have q1 : ((m.r.size : Int) == 4) = true := by simp; omega
  have q2 : ((m.r.size : Int) != 4) = false := by simp; omega
  have hd2 : (m.d.size : Int) ≤ 140737488351232 := by omega
  have F1 := hide f1; have HE := hide hend
  clear f1 hend e1 e2 h
  go_enter Tryd.func16, Tryd.ntmps16
  have d0 := Cells.new w #[.int .u8 m.t, .int .u8 m.c, .int .u16 m.n, .string m.r, .string m.d] 32
  go_wp2_with fail
  have qA : ∀ (W : World), (W.alloc (.cells #[.int .u8 m.t, .int .u8 m.c] 5)).cell? ⟨W.heap.size, 0, none⟩ = some (.int .u8 m.t) := fun W => Lib.cell_of_heap (heap_alloc_new W _) 0
  have qB : ∀ (W : World), (W.alloc (.cells #[.int .u8 m.t, .int .u8 m.c] 5)).cell? ⟨W.heap.size, 1, none⟩ = some (.int .u8 m.c) := fun W => Lib.cell_of_heap (heap_alloc_new W _) 1
  have SK := hide (fun (zX zY : World) (zh : (Below w.heap.size w zX ∧ zX.cell? ⟨w.heap.size, 0, none⟩ = some (.int .u8 m.t) ∧ zX.cell? ⟨w.heap.size, 1, none⟩ = some (.int .u8 m.c) ∧ zX.cell? ⟨w.heap.size, 2, none⟩ = some (.int .u16 m.n) ∧ zX.cell? ⟨w.heap.size, 3, none⟩ = some (.string m.r) ∧ zX.cell? ⟨w.heap.size, 4, none⟩ = some (.string m.d) ∧ True)) (zb : Below zX.heap.size zX zY) => (show (Below w.heap.size w zY ∧ zY.cell? ⟨w.heap.size, 0, none⟩ = some (.int .u8 m.t) ∧ zY.cell? ⟨w.heap.size, 1, none⟩ = some (.int .u8 m.c) ∧ zY.cell? ⟨w.heap.size, 2, none⟩ = some (.int .u16 m.n) ∧ zY.cell? ⟨w.heap.size, 3, none⟩ = some (.string m.r) ∧ zY.cell? ⟨w.heap.size, 4, none⟩ = some (.string m.d) ∧ True) from ⟨bstep zh.1 zb, cellAt zb zh.2.1, cellAt zb zh.2.2.1, cellAt zb zh.2.2.2.1, cellAt zb zh.2.2.2.2.1, cellAt zb zh.2.2.2.2.2.1, trivial⟩))
  have FS := hide (fun (zX : World) (zh : (Below w.heap.size w zX ∧ zX.cell? ⟨w.heap.size, 0, none⟩ = some (.int .u8 m.t) ∧ zX.cell? ⟨w.heap.size, 1, none⟩ = some (.int .u8 m.c) ∧ zX.cell? ⟨w.heap.size, 2, none⟩ = some (.int .u16 m.n) ∧ zX.cell? ⟨w.heap.size, 3, none⟩ = some (.string m.r) ∧ zX.cell? ⟨w.heap.size, 4, none⟩ = some (.string m.d) ∧ True)) => zh.1)
  have GS := hide (fun (zX : World) (zh : (Below w.heap.size w zX ∧ zX.cell? ⟨w.heap.size, 0, none⟩ = some (.int .u8 m.t) ∧ zX.cell? ⟨w.heap.size, 1, none⟩ = some (.int .u8 m.c) ∧ zX.cell? ⟨w.heap.size, 2, none⟩ = some (.int .u16 m.n) ∧ zX.cell? ⟨w.heap.size, 3, none⟩ = some (.string m.r) ∧ zX.cell? ⟨w.heap.size, 4, none⟩ = some (.string m.d) ∧ True)) => zh)
  have hS0 : (Below w.heap.size w (w.alloc (.cells #[.int .u8 m.t, .int .u8 m.c, .int .u16 m.n, .string m.r, .string m.d] 32)) ∧ (w.alloc (.cells #[.int .u8 m.t, .int .u8 m.c, .int .u16 m.n, .string m.r, .string m.d] 32)).cell? ⟨w.heap.size, 0, none⟩ = some (.int .u8 m.t) ∧ (w.alloc (.cells #[.int .u8 m.t, .int .u8 m.c, .int .u16 m.n, .string m.r, .string m.d] 32)).cell? ⟨w.heap.size, 1, none⟩ = some (.int .u8 m.c) ∧ (w.alloc (.cells #[.int .u8 m.t, .int .u8 m.c, .int .u16 m.n, .string m.r, .string m.d] 32)).cell? ⟨w.heap.size, 2, none⟩ = some (.int .u16 m.n) ∧ (w.alloc (.cells #[.int .u8 m.t, .int .u8 m.c, .int .u16 m.n, .string m.r, .string m.d] 32)).cell? ⟨w.heap.size, 3, none⟩ = some (.string m.r) ∧ (w.alloc (.cells #[.int .u8 m.t, .int .u8 m.c, .int .u16 m.n, .string m.r, .string m.d] 32)).cell? ⟨w.heap.size, 4, none⟩ = some (.string m.d) ∧ True) := ⟨(by (repeat' (first | with_reducible exact Below.refl _ _ | with_reducible refine bstep ?_ (fresh_below _ _) | with_reducible refine Below.drew ?_ | with_reducible refine Below.setCell ?_ (by first | exact Nat.le_refl _ | assumption | omega) _))), d0.at_ 0, d0.at_ 1, d0.at_ 2, d0.at_ 3, d0.at_ 4, trivial⟩
  go_region_held_law (fun w' => (Below w.heap.size w w' ∧ w'.cell? ⟨w.heap.size, 0, none⟩ = some (.int .u8 m.t) ∧ w'.cell? ⟨w.heap.size, 1, none⟩ = some (.int .u8 m.c) ∧ w'.cell? ⟨w.heap.size, 2, none⟩ = some (.int .u16 m.n) ∧ w'.cell? ⟨w.heap.size, 3, none⟩ = some (.string m.r) ∧ w'.cell? ⟨w.heap.size, 4, none⟩ = some (.string m.d) ∧ True)) (first | assumption | exact SK.out _ _ hS0 (Below.refl _ _).drew | exact SK.out _ _ (by assumption) (fresh_below _ _) | (refine SK.out _ _ ?_ (by assumption); assumption))
    (first | (go_at_call 33; (with_reducible refine (F1.out _).mono ?_); rintro e wq ⟨rfl, bq⟩; try (have qc : wq.cell? ⟨w.heap.size + 1, 0, none⟩ = some (.int .u8 m.t) := by (have := cellAt bq (qA _); simpa using this)); try (have qd : wq.cell? ⟨w.heap.size + 1, 1, none⟩ = some (.int .u8 m.c) := by (have := cellAt bq (qB _); simpa using this))))
  all_goals
    trace_state
    go_wp2
    go_ret2
    exact ⟨ret_two (v_str HE.out) rfl, (by first | exact FS.out _ (by assumption) | exact bstep (FS.out _ (by assumption)) (fresh_below _ _) | exact bstep (bstep (FS.out _ (by assumption)) (fresh_below _ _)) (fresh_below _ _))⟩

end Go.Proofs.YthmedjlecikbiaaDoor
