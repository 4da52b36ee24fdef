/- Several texts of this claim, one behind the other. -/
import Derived.Test.YtilfcikhipadpaaGreatDoorK21c
import Derived.Test.YtilfcikhipadpaaGreatDoorRows
import Derived.Maps.OwnOps
import Derived.Maps.OwnSet

section
/- Seal of the document's icmp (porterref07) over this program. -/
set_option linter.unusedVariables false
namespace Go.Proofs.YtilfcikhipadpaaGreatDoor
open Go.RowKit
attribute [local go_sem] Oper.semAt_some

set_option maxHeartbeats 4000000 in
theorem r7_Seal (s : ByteArray) (w : World) (hs : s.size ≤ 140737488351232) :
    Calls Tryz.prog 79 #[.string s] w (Ret (.string (S (icmpSeal (L s)))) w) := by
  by_cases h8 : s.size < 8
  · have hv : S (icmpSeal (L s)) = s := by unfold icmpSeal; rw [L_length, if_pos h8, S_L]
    rw [hv]
    have q2 : (s.size : Int) < 8 := by omega
    clear hv
    go_enter Tryz.func79, Tryz.ntmps79
    go_wp2_with fail
    go_ret
    exact ⟨rfl, (by (repeat' (first | with_reducible exact Below.refl _ _ | with_reducible refine Below.setCell ?_ (by first | exact Nat.le_refl _ | (dsimp only; omega)) _ | with_reducible refine bstep ?_ (fresh_below _ _) | with_reducible refine Below.drew ?_)))⟩
  · have q2 : ¬ (s.size : Int) < 8 := by omega
    have i1 : (2 : Int) ≤ (s.size : Int) := by omega
    have i2 : (4 : Int) ≤ (s.size : Int) := by omega
    have hv : S (icmpSeal (L s)) = S (lay (L s) 2 (icmpSum (L s))) := by unfold icmpSeal; rw [L_length, if_neg h8]
    rw [hv]
    have hub := icmpSum_bd (L s)
    have f2 := fun w => r_Put16 (icmpSum (L s)) w hub.1 hub.2
    obtain ⟨f, hf⟩ : ∃ f, f = s.extract 0 2 := ⟨_, rfl⟩
    obtain ⟨g, hg⟩ : ∃ g, g = s.extract 4 s.size := ⟨_, rfl⟩
    have zf : f.size = 2 := by rw [hf, ByteArray.size_extract]; omega
    have zg : g.size = s.size - 4 := by rw [hg, ByteArray.size_extract]; omega
    have hLf : L f = (L s).take 2 := by rw [hf, L_to]
    have hLg : L g = (L s).drop 4 := by rw [hg, L_from]
    have z00 : (f ++ { data := #[0, 0] }).size = 4 := by rw [ByteArray.size_append, zf]; rfl
    have hLm : L (f ++ { data := #[0, 0] } ++ g) = lay (L s) 2 0 := by rw [L_append, L_append, hLf, hLg]; rfl
    have hzm : (f ++ { data := #[0, 0] } ++ g).size = s.size := by rw [ByteArray.size_append, z00, zg]; omega
    have f1 := fun (w : World) => r_Sum (some ⟨w.heap.size, 0, none⟩) 1 1 [f ++ { data := #[0, 0] } ++ g] _ (Row.freshN w #[.string (f ++ { data := #[0, 0] } ++ g)] 9 _ _ rfl rfl) (by intro x hx; simp only [List.mem_cons, List.not_mem_nil, or_false] at hx; subst hx; rw [hzm]; exact hs) (by omega)
    simp only [List.map_cons, List.map_nil, hLm] at f1
    have rw0 := fun (w : World) => Row.freshN w #[.string (f ++ { data := #[0, 0] } ++ g)] 9 1 [.string (f ++ { data := #[0, 0] } ++ g)] rfl rfl
    have f3 := fun (w : World) => r_Sum (some ⟨w.heap.size, 0, none⟩) 1 1 [f ++ { data := #[0, 0] } ++ g] ((w.alloc (.cells #[.string (f ++ { data := #[0, 0] } ++ g)] 9)).drew) (by exact rw0 w) (by intro x hx; simp only [List.mem_cons, List.not_mem_nil, or_false] at hx; subst hx; rw [hzm]; exact hs) (by omega)
    simp only [List.map_cons, List.map_nil, hLm] at f3
    have hn : sumL [lay (L s) 2 0] = icmpSum (L s) := rfl
    rw [hn] at f1 f3
    obtain ⟨n, hn2⟩ : ∃ n, n = icmpSum (L s) := ⟨_, rfl⟩
    rw [← hn2] at f1 f2 f3 hub ⊢
    obtain ⟨p, hp⟩ : ∃ p, p = S (put16 n) := ⟨_, rfl⟩
    have zp : p.size = 2 := by rw [hp]; rfl
    rw [← hp] at f2
    have zg2 : g.size ≤ 140737488351232 := by omega
    have zfp : (f ++ p).size = 4 := by rw [ByteArray.size_append, zf, zp]
    have hend : f ++ p ++ g = S (lay (L s) 2 n) := by
      apply L_inj; rw [L_S, L_append, L_append, hLf, hLg, hp]; rfl
    obtain ⟨n0, n1⟩ := hub
    subst hf
    subst hg
    have HE := hide hend; have F1 := hide f1; have F2 := hide f2; have F3 := hide f3
    clear rw0 hend f1 f2 f3 hLf hLg hLm hn hn2 hp hv zg z00 hzm
    go_enter Tryz.func79, Tryz.ntmps79
    go_wp2_with fail
    go_region_held_law (fun _ => True) (trivial)
      (first | (go_at_call 129; (with_reducible refine (F1.out _).mono ?_); rintro e w1 ⟨rfl, b1⟩) | (go_at_call 129; (with_reducible refine (F3.out _).mono ?_); rintro e w1 ⟨rfl, b1⟩))
    all_goals
     go_wp2_with fail
     go_region_held_law (fun _ => True) (trivial)
      (first | (go_at_call 118; (with_reducible refine (F2.out _).mono ?_); rintro e w3 ⟨rfl, b3⟩))
     all_goals
      go_wp2
      go_ret
      refine ⟨ret_str HE.out, ?_⟩
      repeat' (first | with_reducible exact Below.refl _ _ | with_reducible refine bstep ?_ b3 | with_reducible refine bstep ?_ b1 | with_reducible refine Below.drew ?_ | with_reducible refine bstep ?_ (fresh_below _ _))
end Go.Proofs.YtilfcikhipadpaaGreatDoor
end

section
/- icmp over this program: what does not look at the kinds of messages. -/
set_option linter.unusedVariables false
namespace Go.Proofs.YtilfcikhipadpaaGreatDoor
open Go.RowKit
attribute [local go_sem] Oper.semAt_some

theorem i_Parse_no (s : ByteArray) (w : World) (h : s.size < 8) :
    Calls Tryz.prog 136 #[.string s] w (Ret (.tuple #[.agg #[.int .u8 0, .int .u8 0, .int .u16 0, .string { data := #[] }, .string { data := #[] }], .bool false]) w) := by
  have q2 : (s.size : Int) < 8 := by omega
  go_enter Tryz.func136, Tryz.ntmps136
  go_wp2_with fail
  (try simp only [Exit.inBlock, Exit.then]); refine bodyPost_ret (by simp [results, Tryz.results136, go_sem]; try rfl) rfl ?_
  exact ⟨rfl, fresh_below _ _⟩

theorem i_ID (m : Msg) (w : World) (ho : m.Ok) :
    Calls Tryz.prog 183 #[.agg #[.int .u8 m.t, .int .u8 m.c, .int .u16 m.n, .string m.r, .string m.d]] w (Ret (.int .u16 (get16 (L m.r) 0)) w) := by
  have c := fun w => Get16 m.r 0 w (reach_max ho.2.2.2.1) (by omega)
  obtain ⟨x, hx⟩ : ∃ x, x = get16 (L m.r) 0 := ⟨_, rfl⟩
  obtain ⟨h, hh⟩ : ∃ x, x = has m.r.size 0 2 := ⟨_, rfl⟩
  rw [← hx, ← hh] at c
  rw [← hx]
  have C := hide c
  clear c hx hh
  go_enter Tryz.func183, Tryz.ntmps183
  go_wp2_with fail
  (with_reducible refine (C.out _).mono ?_)
  rintro e w1 ⟨rfl, b1⟩
  replace b1 : Below w.heap.size w w1 := by (refine bstep ?_ b1); (repeat' (first | with_reducible exact Below.refl _ _ | with_reducible refine Below.setCell ?_ (by first | exact Nat.le_refl _ | (dsimp only; omega)) _ | with_reducible refine bstep ?_ (fresh_below _ _) | with_reducible refine Below.drew ?_))
  have z1 : w.heap.size ≤ w1.heap.size := b1.size
  go_wp2_with fail
  go_ret
  exact ⟨rfl, (by (repeat' (first | with_reducible exact b1 | with_reducible exact Below.refl _ _ | with_reducible refine Below.setCell ?_ (by first | exact Nat.le_refl _ | (dsimp only; omega)) _ | with_reducible refine bstep ?_ (fresh_below _ _) | with_reducible refine Below.drew ?_)))⟩
end Go.Proofs.YtilfcikhipadpaaGreatDoor
end

section
/- The kinds of messages, as the program lays them: what a look into them gives; what the program's Query and Error tell. -/
set_option linter.unusedVariables false
namespace Go.Proofs.YtilfcikhipadpaaGreatDoor
open Go.RowKit Go.Maps
attribute [local go_sem] Oper.semAt_some

/-- what a type is: 1: it asks; 2: it is told; 3: an error; 0: none of these -/
def kindOf (t : Int) : Int := if t = 8 ∨ t = 13 then 1 else if t = 0 ∨ t = 14 then 2 else if t = 3 ∨ t = 11 ∨ t = 12 then 3 else 0
def Kinds (w : World) : Prop :=
  ∃ b n, w.cell? ⟨2, 0, none⟩ = some (.map (some b)) ∧ w.ownsMap (H := Unit) Tryz.prog 5 (plainElem Tryz.prog 3) b n Rows.laid_porter_icmp_kinds
theorem Kinds.below {w w' : World} (h : Kinds w) (k : Below w.heap.size w w') : Kinds w' := by
  obtain ⟨b, n, hc, es, clock, hb, hF⟩ := h
  exact ⟨b, n, cellAt k hc, es, clock, (k.block b (Array.getElem?_eq_some_iff.1 hb).1).trans hb, hF⟩
def kindsB (t : Nat) : Bool := match (Rows.laid_porter_icmp_kinds (H := Unit)).atKey (.int .u8 (t : Int)) (.lit (.int .i64 0)) with | .lit (.int .i64 c) => c == kindOf t | _ => false
theorem kinds_b : (List.range 256).all kindsB = true := by kernel_rfl
theorem kinds_at {t : Nat} (h : t < 256) : (Rows.laid_porter_icmp_kinds (H := Unit)).atKey (.int .u8 (t : Int)) (.lit (.int .i64 0)) = .lit (.int .i64 (kindOf t)) := by
  have hb := List.all_eq_true.1 kinds_b t (List.mem_range.2 h)
  unfold kindsB at hb
  split at hb
  · rename_i c e
    rw [e, beq_iff_eq.1 hb]
  · cases hb
theorem Kinds.look {w : World} (h : Kinds w) : ∃ b, w.cell? ⟨2, 0, none⟩ = some (.map (some b)) ∧
    ∀ t : Int, 0 ≤ t ∧ t ≤ 255 → (Instr.lookup 303 (.map (some b)) (.int .u8 t) false).run Tryz.prog w = .ok (.int .i64 (kindOf t)) w := by
  obtain ⟨b, n, hc, hown⟩ := h
  refine ⟨b, hc, fun t ht => ?_⟩
  obtain ⟨c, hrun, hat, hwc⟩ := hown.lookup_int (t := 303) (int_keyed Tryz.underlying5) Tryz.underlying303 Tryz.underlying3 (by kernel_rfl) (key := .int .u8 t) (keyOf_int_mk Tryz.underlying5 (by go_wf))
  have h2 := kinds_at (t := t.toNat) (by omega)
  simp only [Int.toNat_of_nonneg ht.1] at h2
  rw [h2] at hat
  generalize kindOf t = z at hat ⊢
  have hz : z = c := by cases hat; rfl
  rw [hz]; exact hrun
end Go.Proofs.YtilfcikhipadpaaGreatDoor
end

section
/- What messages are, and their numbers: the program's and the document's. -/
set_option linter.unusedVariables false
namespace Go.Proofs.YtilfcikhipadpaaGreatDoor
open Go.RowKit Go.Maps
attribute [local go_sem] Oper.semAt_some

def qAsk (m : Msg) : Bool := decide (m.c = 0) && decide (kindOf m.t = 1)
def qIs (m : Msg) : Bool := decide (m.c = 0) && (decide (kindOf m.t = 1) || decide (kindOf m.t = 2))
def qErr (m : Msg) : Bool := decide (kindOf m.t = 3)
theorem kindOf_cases (t : Int) : kindOf t = 0 ∨ kindOf t = 1 ∨ kindOf t = 2 ∨ kindOf t = 3 := by unfold kindOf; split <;> (try split) <;> (try split) <;> simp

theorem qAsk_of {m : Msg} (h : m.c = 0) : qAsk m = decide (kindOf m.t = 1) := by unfold qAsk; simp [h]
theorem qIs_of {m : Msg} (h : m.c = 0) : qIs m = (decide (kindOf m.t = 1) || decide (kindOf m.t = 2)) := by unfold qIs; simp [h]

set_option maxHeartbeats 1000000 in
theorem i_Query (m : Msg) (w : World) (ho : m.Ok) (hk : Kinds w) :
    Calls Tryz.prog 182 #[.agg #[.int .u8 m.t, .int .u8 m.c, .int .u16 m.n, .string m.r, .string m.d]] w (Ret (.tuple #[.bool (qAsk m), .bool (qIs m)]) w) := by
  obtain ⟨⟨t0, t1⟩, ⟨c0, c1⟩, -⟩ := ho
  obtain ⟨b, hc, hl0⟩ := (hk.below (fresh_below w (.cells #[.int .u8 m.t, .int .u8 m.c, .int .u16 m.n, .string m.r, .string m.d] 166))).look
  have hl := hl0 m.t ⟨t0, t1⟩
  clear hl0 hk
  obtain ⟨t, c, n, r, d⟩ := m
  simp only at t0 t1 c0 c1 hc hl ⊢
  by_cases h : c = 0
  · have e1 := qAsk_of (m := ⟨t, c, n, r, d⟩) h
    have e2 := qIs_of (m := ⟨t, c, n, r, d⟩) h
    simp only at e1 e2
    rw [e1, e2]
    clear e1 e2
    subst h
    have hx := kindOf_cases t
    generalize kindOf t = x at hx hl ⊢
    rcases hx with rfl | rfl | rfl | rfl
    all_goals
      go_enter Tryz.func182, Tryz.ntmps182
      go_wp2
      go_ret2
      exact ⟨rfl, (by (repeat' (first | with_reducible exact Below.refl _ _ | with_reducible refine Below.setCell ?_ (by first | exact Nat.le_refl _ | (dsimp only; omega)) _ | with_reducible refine bstep ?_ (fresh_below _ _) | with_reducible refine Below.drew ?_)))⟩
  · have e1 : qAsk ⟨t, c, n, r, d⟩ = false := by unfold qAsk; simp [h]
    have e2 : qIs ⟨t, c, n, r, d⟩ = false := by unfold qIs; simp [h]
    rw [e1, e2]
    have q1 : (c == 0) = false := by simp [h]
    have q2 : (c != 0) = true := by simp [h]
    clear e1 e2 hl hc
    go_enter Tryz.func182, Tryz.ntmps182
    go_wp2
    go_ret2
    exact ⟨rfl, (by (repeat' (first | with_reducible exact Below.refl _ _ | with_reducible refine Below.setCell ?_ (by first | exact Nat.le_refl _ | (dsimp only; omega)) _ | with_reducible refine bstep ?_ (fresh_below _ _) | with_reducible refine Below.drew ?_)))⟩

set_option maxHeartbeats 1000000 in
theorem i_Error (m : Msg) (w : World) (ho : m.Ok) (hk : Kinds w) :
    Calls Tryz.prog 184 #[.agg #[.int .u8 m.t, .int .u8 m.c, .int .u16 m.n, .string m.r, .string m.d]] w (Ret (.bool (qErr m)) w) := by
  obtain ⟨⟨t0, t1⟩, ⟨c0, c1⟩, -⟩ := ho
  obtain ⟨b, hc, hl0⟩ := (hk.below (fresh_below w (.cells #[.int .u8 m.t, .int .u8 m.c, .int .u16 m.n, .string m.r, .string m.d] 166))).look
  have hl := hl0 m.t ⟨t0, t1⟩
  clear hl0 hk
  obtain ⟨t, c, n, r, d⟩ := m
  simp only [qErr] at t0 t1 c0 c1 hc hl ⊢
  have hx := kindOf_cases t
  generalize kindOf t = x at hx hl ⊢
  rcases hx with rfl | rfl | rfl | rfl
  all_goals
    go_enter Tryz.func184, Tryz.ntmps184
    go_wp2
    go_ret
    exact ⟨rfl, (by (repeat' (first | with_reducible exact Below.refl _ _ | with_reducible refine Below.setCell ?_ (by first | exact Nat.le_refl _ | (dsimp only; omega)) _ | with_reducible refine bstep ?_ (fresh_below _ _) | with_reducible refine Below.drew ?_)))⟩

/-- a message with another number -/
def msgID (m : Msg) (id : Int) : Msg := ⟨m.t, m.c, m.n, if 2 ≤ m.r.size then S (lay (L m.r) 0 id) else m.r, m.d⟩
end Go.Proofs.YtilfcikhipadpaaGreatDoor
end
