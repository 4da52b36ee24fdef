/- Several texts of this claim, one behind the other. -/
import Derived.Test.YtilfcikhipadpaaGreatDoorK20a
import Derived.Test.YtilfcikhipadpaaGreatDoorRows
import Derived.Maps.OwnOps
import Derived.Maps.OwnSet

section
/- Put of the document's icmp (porterref07) over this program. -/
set_option linter.unusedVariables false
namespace Go.Proofs.YtilfcikhipadpaaGreatDoor
open Go.RowKit
attribute [local go_sem] Oper.semAt_some

set_option maxRecDepth 100000 in
set_option maxHeartbeats 4000000 in
theorem r7_Put_yes (m : Msg) (w : World) (ho : m.Ok) (h : m.r.size = 4) :
    Calls Tryz.prog 78 #[.agg #[.int .u8 m.t, .int .u8 m.c, .int .u16 m.n, .string m.r, .string m.d]] w (Ret (.tuple #[.string (S (msgPut m)), .int .i64 0]) w) := by
  obtain ⟨⟨t0, t1⟩, ⟨c0, c1⟩, ⟨n0, n1⟩, hr, hd⟩ := ho
  have f1 := fun w => r_Put16 m.n w n0 n1
  obtain ⟨s2, e2⟩ : ∃ s, s = S (put16 m.n) := ⟨_, rfl⟩
  rw [← e2] at f1
  have z2 : s2.size = 2 := by rw [e2]; rfl
  have z1 : (S [byt m.t, byt m.c]).size = 2 := rfl
  have hend : S [byt m.t, byt m.c] ++ s2 ++ m.r ++ m.d = S (msgPut m) := by
    apply L_inj; rw [L_append, L_append, L_append, e2]; rfl
  obtain ⟨s1, e1⟩ : ∃ s, s = S [byt m.t, byt m.c] := ⟨_, rfl⟩
  rw [← e1] at z1 hend
  have cv : ∀ (W : World) (b : Nat), W.cell? ⟨b, 0, none⟩ = some (.int .u8 m.t) → W.cell? ⟨b, 1, none⟩ = some (.int .u8 m.c) → (convert 237 9 (.slice (some ⟨b, 0, none⟩) 2 2)).run Tryz.prog W = .ok (.string s1) W := fun W b h0 h1 => by
    rw [e1]
    exact run_convert_bytes_arg (P := Tryz.prog) W 237 5 Tryz.underlying237 Tryz.underlying5 b 0 2 2 [m.t, m.c] rfl
      (fun i hi => by
        match i, hi with
        | 0, _ => exact h0
        | 1, _ => exact h1) 9 Tryz.underlying9
  have y1 : (s1 ++ s2).size = 4 := by rw [ByteArray.size_append, z1, z2]
  have y2 : (s1 ++ s2 ++ m.r).size = 8 := by rw [ByteArray.size_append, y1, h]
  have q1 : ((m.r.size : Int) == 4) = true := by simp; omega
  have q2 : ((m.r.size : Int) != 4) = false := by simp; omega
  have hd2 : (m.d.size : Int) ≤ 140737488351232 := by omega
  have F1 := hide f1; have HE := hide hend
  clear f1 hend e1 e2 h
  go_enter Tryz.func78, Tryz.ntmps78
  have d0 := Cells.new w #[.int .u8 m.t, .int .u8 m.c, .int .u16 m.n, .string m.r, .string m.d] 164
  go_wp2_with fail
  have qA : ∀ (W : World), (W.alloc (.cells #[.int .u8 m.t, .int .u8 m.c] 5)).cell? ⟨W.heap.size, 0, none⟩ = some (.int .u8 m.t) := fun W => Lib.cell_of_heap (heap_alloc_new W _) 0
  have qB : ∀ (W : World), (W.alloc (.cells #[.int .u8 m.t, .int .u8 m.c] 5)).cell? ⟨W.heap.size, 1, none⟩ = some (.int .u8 m.c) := fun W => Lib.cell_of_heap (heap_alloc_new W _) 1
  have SK := hide (fun (zX zY : World) (zh : (Below w.heap.size w zX ∧ zX.cell? ⟨w.heap.size, 0, none⟩ = some (.int .u8 m.t) ∧ zX.cell? ⟨w.heap.size, 1, none⟩ = some (.int .u8 m.c) ∧ zX.cell? ⟨w.heap.size, 2, none⟩ = some (.int .u16 m.n) ∧ zX.cell? ⟨w.heap.size, 3, none⟩ = some (.string m.r) ∧ zX.cell? ⟨w.heap.size, 4, none⟩ = some (.string m.d) ∧ True)) (zb : Below zX.heap.size zX zY) => (show (Below w.heap.size w zY ∧ zY.cell? ⟨w.heap.size, 0, none⟩ = some (.int .u8 m.t) ∧ zY.cell? ⟨w.heap.size, 1, none⟩ = some (.int .u8 m.c) ∧ zY.cell? ⟨w.heap.size, 2, none⟩ = some (.int .u16 m.n) ∧ zY.cell? ⟨w.heap.size, 3, none⟩ = some (.string m.r) ∧ zY.cell? ⟨w.heap.size, 4, none⟩ = some (.string m.d) ∧ True) from ⟨bstep zh.1 zb, cellAt zb zh.2.1, cellAt zb zh.2.2.1, cellAt zb zh.2.2.2.1, cellAt zb zh.2.2.2.2.1, cellAt zb zh.2.2.2.2.2.1, trivial⟩))
  have FS := hide (fun (zX : World) (zh : (Below w.heap.size w zX ∧ zX.cell? ⟨w.heap.size, 0, none⟩ = some (.int .u8 m.t) ∧ zX.cell? ⟨w.heap.size, 1, none⟩ = some (.int .u8 m.c) ∧ zX.cell? ⟨w.heap.size, 2, none⟩ = some (.int .u16 m.n) ∧ zX.cell? ⟨w.heap.size, 3, none⟩ = some (.string m.r) ∧ zX.cell? ⟨w.heap.size, 4, none⟩ = some (.string m.d) ∧ True)) => zh.1)
  have GS := hide (fun (zX : World) (zh : (Below w.heap.size w zX ∧ zX.cell? ⟨w.heap.size, 0, none⟩ = some (.int .u8 m.t) ∧ zX.cell? ⟨w.heap.size, 1, none⟩ = some (.int .u8 m.c) ∧ zX.cell? ⟨w.heap.size, 2, none⟩ = some (.int .u16 m.n) ∧ zX.cell? ⟨w.heap.size, 3, none⟩ = some (.string m.r) ∧ zX.cell? ⟨w.heap.size, 4, none⟩ = some (.string m.d) ∧ True)) => zh)
  have hS0 : (Below w.heap.size w (w.alloc (.cells #[.int .u8 m.t, .int .u8 m.c, .int .u16 m.n, .string m.r, .string m.d] 164)) ∧ (w.alloc (.cells #[.int .u8 m.t, .int .u8 m.c, .int .u16 m.n, .string m.r, .string m.d] 164)).cell? ⟨w.heap.size, 0, none⟩ = some (.int .u8 m.t) ∧ (w.alloc (.cells #[.int .u8 m.t, .int .u8 m.c, .int .u16 m.n, .string m.r, .string m.d] 164)).cell? ⟨w.heap.size, 1, none⟩ = some (.int .u8 m.c) ∧ (w.alloc (.cells #[.int .u8 m.t, .int .u8 m.c, .int .u16 m.n, .string m.r, .string m.d] 164)).cell? ⟨w.heap.size, 2, none⟩ = some (.int .u16 m.n) ∧ (w.alloc (.cells #[.int .u8 m.t, .int .u8 m.c, .int .u16 m.n, .string m.r, .string m.d] 164)).cell? ⟨w.heap.size, 3, none⟩ = some (.string m.r) ∧ (w.alloc (.cells #[.int .u8 m.t, .int .u8 m.c, .int .u16 m.n, .string m.r, .string m.d] 164)).cell? ⟨w.heap.size, 4, none⟩ = some (.string m.d) ∧ True) := ⟨(by (repeat' (first | with_reducible exact Below.refl _ _ | with_reducible refine Below.setCell ?_ (by first | exact Nat.le_refl _ | (dsimp only; omega)) _ | with_reducible refine bstep ?_ (fresh_below _ _) | with_reducible refine Below.drew ?_))), d0.at_ 0, d0.at_ 1, d0.at_ 2, d0.at_ 3, d0.at_ 4, trivial⟩
  go_region_held_law (fun w' => (Below w.heap.size w w' ∧ w'.cell? ⟨w.heap.size, 0, none⟩ = some (.int .u8 m.t) ∧ w'.cell? ⟨w.heap.size, 1, none⟩ = some (.int .u8 m.c) ∧ w'.cell? ⟨w.heap.size, 2, none⟩ = some (.int .u16 m.n) ∧ w'.cell? ⟨w.heap.size, 3, none⟩ = some (.string m.r) ∧ w'.cell? ⟨w.heap.size, 4, none⟩ = some (.string m.d) ∧ True)) (first | assumption | exact SK.out _ _ hS0 (Below.refl _ _).drew | exact SK.out _ _ hS0 (fresh_below _ _).drew | exact SK.out _ _ (by assumption) (fresh_below _ _) | (refine SK.out _ _ ?_ (by assumption); assumption))
    (first | (go_at_call 118; (with_reducible refine (F1.out _).mono ?_); rintro e wq ⟨rfl, bq⟩; try (have qc : wq.cell? ⟨w.heap.size + 1, 0, none⟩ = some (.int .u8 m.t) := by (have := cellAt bq (qA _); simpa using this)); try (have qd : wq.cell? ⟨w.heap.size + 1, 1, none⟩ = some (.int .u8 m.c) := by (have := cellAt bq (qB _); simpa using this))))
  all_goals
    trace_state
    go_wp2
    go_ret2
    exact ⟨ret_two (v_str HE.out) rfl, (by first | exact FS.out _ (by assumption) | exact bstep (FS.out _ (by assumption)) (fresh_below _ _) | exact bstep (bstep (FS.out _ (by assumption)) (fresh_below _ _)) (fresh_below _ _))⟩

end Go.Proofs.YtilfcikhipadpaaGreatDoor
end

section
/- Seal of the document's icmp (porterref07) over this program. -/
set_option linter.unusedVariables false
namespace Go.Proofs.YtilfcikhipadpaaGreatDoor
open Go.RowKit
attribute [local go_sem] Oper.semAt_some

set_option maxHeartbeats 4000000 in
theorem r7_Seal (s : ByteArray) (w : World) (hs : s.size ≤ 140737488351232) :
    Calls Tryz.prog 79 #[.string s] w (Ret (.string (S (icmpSeal (L s)))) w) := by
  by_cases h8 : s.size < 8
  · have hv : S (icmpSeal (L s)) = s := by unfold icmpSeal; rw [L_length, if_pos h8, S_L]
    rw [hv]
    have q2 : (s.size : Int) < 8 := by omega
    clear hv
    go_enter Tryz.func79, Tryz.ntmps79
    go_wp2_with fail
    go_ret
    exact ⟨rfl, (by (repeat' (first | with_reducible exact Below.refl _ _ | with_reducible refine Below.setCell ?_ (by first | exact Nat.le_refl _ | (dsimp only; omega)) _ | with_reducible refine bstep ?_ (fresh_below _ _) | with_reducible refine Below.drew ?_)))⟩
  · have q2 : ¬ (s.size : Int) < 8 := by omega
    have i1 : (2 : Int) ≤ (s.size : Int) := by omega
    have i2 : (4 : Int) ≤ (s.size : Int) := by omega
    have hv : S (icmpSeal (L s)) = S (lay (L s) 2 (icmpSum (L s))) := by unfold icmpSeal; rw [L_length, if_neg h8]
    rw [hv]
    have hub := icmpSum_bd (L s)
    have f2 := fun w => r_Put16 (icmpSum (L s)) w hub.1 hub.2
    obtain ⟨f, hf⟩ : ∃ f, f = s.extract 0 2 := ⟨_, rfl⟩
    obtain ⟨g, hg⟩ : ∃ g, g = s.extract 4 s.size := ⟨_, rfl⟩
    have zf : f.size = 2 := by rw [hf, ByteArray.size_extract]; omega
    have zg : g.size = s.size - 4 := by rw [hg, ByteArray.size_extract]; omega
    have hLf : L f = (L s).take 2 := by rw [hf, L_to]
    have hLg : L g = (L s).drop 4 := by rw [hg, L_from]
    have z00 : (f ++ { data := #[0, 0] }).size = 4 := by rw [ByteArray.size_append, zf]; rfl
    have hLm : L (f ++ { data := #[0, 0] } ++ g) = lay (L s) 2 0 := by rw [L_append, L_append, hLf, hLg]; rfl
    have hzm : (f ++ { data := #[0, 0] } ++ g).size = s.size := by rw [ByteArray.size_append, z00, zg]; omega
    have f1 := fun (w : World) => r_Sum (some ⟨w.heap.size, 0, none⟩) 1 1 [f ++ { data := #[0, 0] } ++ g] _ (Row.freshN w #[.string (f ++ { data := #[0, 0] } ++ g)] 9 _ _ rfl rfl) (by intro x hx; simp only [List.mem_cons, List.not_mem_nil, or_false] at hx; subst hx; rw [hzm]; exact hs) (by omega)
    simp only [List.map_cons, List.map_nil, hLm] at f1
    have rw0 := fun (w : World) => Row.freshN w #[.string (f ++ { data := #[0, 0] } ++ g)] 9 1 [.string (f ++ { data := #[0, 0] } ++ g)] rfl rfl
    have f3 := fun (w : World) => r_Sum (some ⟨w.heap.size, 0, none⟩) 1 1 [f ++ { data := #[0, 0] } ++ g] ((w.alloc (.cells #[.string (f ++ { data := #[0, 0] } ++ g)] 9)).drew) (by exact rw0 w) (by intro x hx; simp only [List.mem_cons, List.not_mem_nil, or_false] at hx; subst hx; rw [hzm]; exact hs) (by omega)
    simp only [List.map_cons, List.map_nil, hLm] at f3
    have hn : sumL [lay (L s) 2 0] = icmpSum (L s) := rfl
    rw [hn] at f1 f3
    obtain ⟨n, hn2⟩ : ∃ n, n = icmpSum (L s) := ⟨_, rfl⟩
    rw [← hn2] at f1 f2 f3 hub ⊢
    obtain ⟨p, hp⟩ : ∃ p, p = S (put16 n) := ⟨_, rfl⟩
    have zp : p.size = 2 := by rw [hp]; rfl
    rw [← hp] at f2
    have zg2 : g.size ≤ 140737488351232 := by omega
    have zfp : (f ++ p).size = 4 := by rw [ByteArray.size_append, zf, zp]
    have hend : f ++ p ++ g = S (lay (L s) 2 n) := by
      apply L_inj; rw [L_S, L_append, L_append, hLf, hLg, hp]; rfl
    obtain ⟨n0, n1⟩ := hub
    subst hf
    subst hg
    have HE := hide hend; have F1 := hide f1; have F2 := hide f2; have F3 := hide f3
    clear rw0 hend f1 f2 f3 hLf hLg hLm hn hn2 hp hv zg z00 hzm
    go_enter Tryz.func79, Tryz.ntmps79
    go_wp2_with fail
    go_region_held_law (fun _ => True) (trivial)
      (first | (go_at_call 129; (with_reducible refine (F1.out _).mono ?_); rintro e w1 ⟨rfl, b1⟩) | (go_at_call 129; (with_reducible refine (F3.out _).mono ?_); rintro e w1 ⟨rfl, b1⟩))
    all_goals
     go_wp2_with fail
     go_region_held_law (fun _ => True) (trivial)
      (first | (go_at_call 118; (with_reducible refine (F2.out _).mono ?_); rintro e w3 ⟨rfl, b3⟩))
     all_goals
      go_wp2
      go_ret
      refine ⟨ret_str HE.out, ?_⟩
      repeat' (first | with_reducible exact Below.refl _ _ | with_reducible refine bstep ?_ b3 | with_reducible refine bstep ?_ b1 | with_reducible refine Below.drew ?_ | with_reducible refine bstep ?_ (fresh_below _ _))
end Go.Proofs.YtilfcikhipadpaaGreatDoor
end

section
/- icmp over this program: what does not look at the kinds of messages. -/
set_option linter.unusedVariables false
namespace Go.Proofs.YtilfcikhipadpaaGreatDoor
open Go.RowKit
attribute [local go_sem] Oper.semAt_some

theorem i_Parse_no (s : ByteArray) (w : World) (h : s.size < 8) :
    Calls Tryz.prog 136 #[.string s] w (Ret (.tuple #[.agg #[.int .u8 0, .int .u8 0, .int .u16 0, .string { data := #[] }, .string { data := #[] }], .bool false]) w) := by
  have q2 : (s.size : Int) < 8 := by omega
  go_enter Tryz.func136, Tryz.ntmps136
  go_wp2_with fail
  (try simp only [Exit.inBlock, Exit.then]); refine bodyPost_ret (by simp [results, Tryz.results136, go_sem]; try rfl) rfl ?_
  exact ⟨rfl, fresh_below _ _⟩

theorem i_ID (m : Msg) (w : World) (ho : m.Ok) :
    Calls Tryz.prog 183 #[.agg #[.int .u8 m.t, .int .u8 m.c, .int .u16 m.n, .string m.r, .string m.d]] w (Ret (.int .u16 (get16 (L m.r) 0)) w) := by
  have c := fun w => Get16 m.r 0 w (reach_max ho.2.2.2.1) (by omega)
  obtain ⟨x, hx⟩ : ∃ x, x = get16 (L m.r) 0 := ⟨_, rfl⟩
  obtain ⟨h, hh⟩ : ∃ x, x = has m.r.size 0 2 := ⟨_, rfl⟩
  rw [← hx, ← hh] at c
  rw [← hx]
  have C := hide c
  clear c hx hh
  go_enter Tryz.func183, Tryz.ntmps183
  go_wp2_with fail
  (with_reducible refine (C.out _).mono ?_)
  rintro e w1 ⟨rfl, b1⟩
  replace b1 : Below w.heap.size w w1 := by (refine bstep ?_ b1); (repeat' (first | with_reducible exact Below.refl _ _ | with_reducible refine Below.setCell ?_ (by first | exact Nat.le_refl _ | (dsimp only; omega)) _ | with_reducible refine bstep ?_ (fresh_below _ _) | with_reducible refine Below.drew ?_))
  have z1 : w.heap.size ≤ w1.heap.size := b1.size
  go_wp2_with fail
  go_ret
  exact ⟨rfl, (by (repeat' (first | with_reducible exact b1 | with_reducible exact Below.refl _ _ | with_reducible refine Below.setCell ?_ (by first | exact Nat.le_refl _ | (dsimp only; omega)) _ | with_reducible refine bstep ?_ (fresh_below _ _) | with_reducible refine Below.drew ?_)))⟩
theorem r7_ID (m : Msg) (w : World) (ho : m.Ok) :
    Calls Tryz.prog 87 #[.agg #[.int .u8 m.t, .int .u8 m.c, .int .u16 m.n, .string m.r, .string m.d]] w (Ret (.int .u16 (get16 (L m.r) 0)) w) := by
  have c := fun w => r_Get16 m.r 0 w (reach_max ho.2.2.2.1) (by omega)
  obtain ⟨x, hx⟩ : ∃ x, x = get16 (L m.r) 0 := ⟨_, rfl⟩
  obtain ⟨h, hh⟩ : ∃ x, x = has m.r.size 0 2 := ⟨_, rfl⟩
  rw [← hx, ← hh] at c
  rw [← hx]
  have C := hide c
  clear c hx hh
  go_enter Tryz.func87, Tryz.ntmps87
  go_wp2_with fail
  (with_reducible refine (C.out _).mono ?_)
  rintro e w1 ⟨rfl, b1⟩
  replace b1 : Below w.heap.size w w1 := by (refine bstep ?_ b1); (repeat' (first | with_reducible exact Below.refl _ _ | with_reducible refine Below.setCell ?_ (by first | exact Nat.le_refl _ | (dsimp only; omega)) _ | with_reducible refine bstep ?_ (fresh_below _ _) | with_reducible refine Below.drew ?_))
  have z1 : w.heap.size ≤ w1.heap.size := b1.size
  go_wp2_with fail
  go_ret
  exact ⟨rfl, (by (repeat' (first | with_reducible exact b1 | with_reducible exact Below.refl _ _ | with_reducible refine Below.setCell ?_ (by first | exact Nat.le_refl _ | (dsimp only; omega)) _ | with_reducible refine bstep ?_ (fresh_below _ _) | with_reducible refine Below.drew ?_)))⟩
end Go.Proofs.YtilfcikhipadpaaGreatDoor
end

section
/- The kinds of messages, as the program lays them: what a look into them gives; what the program's Query and Error tell. -/
set_option linter.unusedVariables false
namespace Go.Proofs.YtilfcikhipadpaaGreatDoor
open Go.RowKit Go.Maps
attribute [local go_sem] Oper.semAt_some

/-- what a type is: 1: it asks; 2: it is told; 3: an error; 0: none of these -/
def kindOf (t : Int) : Int := if t = 8 ∨ t = 13 then 1 else if t = 0 ∨ t = 14 then 2 else if t = 3 ∨ t = 11 ∨ t = 12 then 3 else 0
def Kinds (w : World) : Prop :=
  ∃ b n, w.cell? ⟨2, 0, none⟩ = some (.map (some b)) ∧ w.ownsMap (H := Unit) Tryz.prog 5 (plainElem Tryz.prog 3) b n Rows.laid_porter_icmp_kinds
theorem Kinds.below {w w' : World} (h : Kinds w) (k : Below w.heap.size w w') : Kinds w' := by
  obtain ⟨b, n, hc, es, clock, hb, hF⟩ := h
  exact ⟨b, n, cellAt k hc, es, clock, (k.block b (Array.getElem?_eq_some_iff.1 hb).1).trans hb, hF⟩
def kindsB (t : Nat) : Bool := match (Rows.laid_porter_icmp_kinds (H := Unit)).atKey (.int .u8 (t : Int)) (.lit (.int .i64 0)) with | .lit (.int .i64 c) => c == kindOf t | _ => false
theorem kinds_b : (List.range 256).all kindsB = true := by kernel_rfl
theorem kinds_at {t : Nat} (h : t < 256) : (Rows.laid_porter_icmp_kinds (H := Unit)).atKey (.int .u8 (t : Int)) (.lit (.int .i64 0)) = .lit (.int .i64 (kindOf t)) := by
  have hb := List.all_eq_true.1 kinds_b t (List.mem_range.2 h)
  unfold kindsB at hb
  split at hb
  · rename_i c e
    rw [e, beq_iff_eq.1 hb]
  · cases hb
theorem Kinds.look {w : World} (h : Kinds w) : ∃ b, w.cell? ⟨2, 0, none⟩ = some (.map (some b)) ∧
    ∀ t : Int, 0 ≤ t ∧ t ≤ 255 → (Instr.lookup 303 (.map (some b)) (.int .u8 t) false).run Tryz.prog w = .ok (.int .i64 (kindOf t)) w := by
  obtain ⟨b, n, hc, hown⟩ := h
  refine ⟨b, hc, fun t ht => ?_⟩
  obtain ⟨c, hrun, hat, hwc⟩ := hown.lookup_int (t := 303) (int_keyed Tryz.underlying5) Tryz.underlying303 Tryz.underlying3 (by kernel_rfl) (key := .int .u8 t) (keyOf_int_mk Tryz.underlying5 (by go_wf))
  have h2 := kinds_at (t := t.toNat) (by omega)
  simp only [Int.toNat_of_nonneg ht.1] at h2
  rw [h2] at hat
  generalize kindOf t = z at hat ⊢
  have hz : z = c := by cases hat; rfl
  rw [hz]; exact hrun
end Go.Proofs.YtilfcikhipadpaaGreatDoor
end
