/- Several texts of this claim, one behind the other. -/
import Derived.Test.YtedfdphapcanoaaGreatDoorProg
import Derived.Test.YtedfdphapcanoaaGreatDoorM16
import Derived.Test.YtedfdphapcanoaaGreatDoorM14
import Derived.Test.YtedfdphapcanoaaGreatDoorRows
import Derived.Deep.Upon
import Derived.Deep.CutRange
import Derived.Maps.OwnOps
import Derived.Maps.OwnSet
import Derived.Maps.StringElems

section
/- track: how long a state lasts, out of the program's table; the state of a first packet. -/
set_option linter.unusedVariables false
set_option linter.unusedSimpArgs false
namespace Go.Proofs.YtedfdphapcanoaaGreatDoor
open Go.RowKit Go.Lib
attribute [local go_sem] Oper.semAt_some

/-- how many ticks a state lasts -/
def timeV (fl st : Int) : Int :=
  if fl = 1 then (if st = 1 then 120 else if st = 2 then 300 else 0)
  else if fl = 2 then (if st = 1 then 60 else if st = 2 then 60 else 0)
  else if fl = 3 then (if st = 3 then 7440 else if 1 ≤ st ∧ st ≤ 7 then 240 else 0)
  else 0
theorem timeV_bd (fl st : Int) : 0 ≤ timeV fl st ∧ timeV fl st ≤ 7440 := by unfold timeV; repeat' split <;> omega
/-- the table as it lies -/
def Lasts (W : World) : Prop := ∀ i j : Nat, i < 4 → j < 8 → W.cell? ⟨0, i * 8 + j, none⟩ = some (.int .i64 (timeV i j))
theorem Lasts.below {W W' : World} (h : Lasts W) (k : Below W.heap.size W W') : Lasts W' := fun i j hi hj => by
  rw [k.cell (p := ⟨0, _, none⟩) (World.block_lt_of_cell? W _ (h i j hi hj))]
  exact h i j hi hj

set_option maxHeartbeats 2000000 in
theorem tk_Timeout (w : World) (fl st : Int) (h : Lasts w) : Calls Tryz.prog 85 #[.int .i64 fl, .int .i64 st] w (Ret (.int .i64 (timeV fl st)) w) := by
  by_cases h1 : fl < 0
  · have e : timeV fl st = 0 := by unfold timeV; rw [if_neg (by omega), if_neg (by omega), if_neg (by omega)]
    rw [e]
    clear e h
    have bb : Below w.heap.size w w := Below.refl _ _
    go_enter Tryz.func85, Tryz.ntmps85
    go_wp2_with fail
    go_ret
    exact ⟨rfl, by assumption⟩
  by_cases h2 : 4 ≤ fl
  · have e : timeV fl st = 0 := by unfold timeV; rw [if_neg (by omega), if_neg (by omega), if_neg (by omega)]
    rw [e]
    clear e h
    have bb : Below w.heap.size w w := Below.refl _ _
    go_enter Tryz.func85, Tryz.ntmps85
    go_wp2_with fail
    go_ret
    exact ⟨rfl, by assumption⟩
  by_cases h3 : st < 0
  · have e : timeV fl st = 0 := by unfold timeV; repeat' split <;> omega
    rw [e]
    clear e h
    have bb : Below w.heap.size w w := Below.refl _ _
    go_enter Tryz.func85, Tryz.ntmps85
    go_wp2_with fail
    go_ret
    exact ⟨rfl, by assumption⟩
  by_cases h4 : 7 < st
  · have e : timeV fl st = 0 := by unfold timeV; repeat' split <;> omega
    rw [e]
    clear e h
    have bb : Below w.heap.size w w := Below.refl _ _
    go_enter Tryz.func85, Tryz.ntmps85
    go_wp2_with fail
    go_ret
    exact ⟨rfl, by assumption⟩
  obtain ⟨i, rfl⟩ := Int.eq_ofNat_of_zero_le (show 0 ≤ fl by omega)
  obtain ⟨j, rfl⟩ := Int.eq_ofNat_of_zero_le (show 0 ≤ st by omega)
  have hi : i < 4 := by omega
  have hj : j < 8 := by omega
  have hc := h i j hi hj
  generalize timeV (i : Int) (j : Int) = x at *
  clear h
  have bb : Below w.heap.size w w := Below.refl _ _
  go_enter Tryz.func85, Tryz.ntmps85
  go_wp2_with fail
  go_ret
  exact ⟨rfl, by assumption⟩
theorem tk_May (w : World) (fl st : Int) (h : Lasts w) : Calls Tryz.prog 153 #[.int .i64 fl, .int .i64 st] w (Ret (.bool (decide (0 < timeV fl st))) w) := by
  have c := fun W (hW : Below w.heap.size w W) => tk_Timeout W fl st (h.below hW)
  have C := hide c
  clear c h
  generalize timeV fl st = x at *
  have bb : Below w.heap.size w w := Below.refl _ _
  go_enter Tryz.func153, Tryz.ntmps153
  go_wp2_with ((go_at_call 85; (with_reducible refine (C.out _ (by assumption)).mono ?_); rintro e2 w2 ⟨rfl, b2⟩; have b2' := bstep (by assumption : Below w.heap.size w _) b2; clear b2))
  go_ret
  exact ⟨rfl, by assumption⟩
/-- the kind of flow of a protocol -/
def flowV (p : Int) : Int := if p = 1 then 2 else if p = 6 then 3 else if p = 17 then 1 else 0
theorem tk_Flow (w : World) (p : Int) : Calls Tryz.prog 83 #[.int .u8 p] w (Ret (.int .i64 (flowV p)) w) := by
  unfold flowV
  have bb : Below w.heap.size w w := Below.refl _ _
  by_cases h1 : p = 1
  · subst h1
    go_enter Tryz.func83, Tryz.ntmps83
    go_wp2_with fail
    go_ret
    exact ⟨rfl, by assumption⟩
  by_cases h6 : p = 6
  · subst h6
    go_enter Tryz.func83, Tryz.ntmps83
    go_wp2_with fail
    go_ret
    exact ⟨rfl, by assumption⟩
  by_cases h17 : p = 17
  · subst h17
    go_enter Tryz.func83, Tryz.ntmps83
    go_wp2_with fail
    go_ret
    exact ⟨rfl, by assumption⟩
  rw [if_neg h1, if_neg h6, if_neg h17]
  have q1 : (p == 1) = false := by simpa using h1
  have q6 : (p == 6) = false := by simpa using h6
  have q17 : (p == 17) = false := by simpa using h17
  clear h1 h6 h17
  go_enter Tryz.func83, Tryz.ntmps83
  go_wp2_with fail
  go_ret
  exact ⟨rfl, by assumption⟩
/-- may a first packet of these flags begin a flow of this kind? -/
def firstV (fl fg : Int) : Bool := decide (0 < timeV fl 1) && !(decide (fl = 3) && !decide (bits .and .u8 fg 23 = 2))
theorem tk_First (w : World) (fl fg : Int) (h : Lasts w) : Calls Tryz.prog 157 #[.int .i64 fl, .int .u8 fg] w (Ret (.tuple #[.int .i64 (if firstV fl fg = true then 1 else 0), .bool (firstV fl fg)]) w) := by
  have c := fun W (hW : Below w.heap.size w W) => tk_May W fl 1 (h.below hW)
  unfold firstV
  have C := hide c
  clear c h
  have bb : Below w.heap.size w w := Below.refl _ _
  by_cases h1 : 0 < timeV fl 1
  · rw [decide_eq_true h1] at C ⊢
    clear h1
    by_cases h3 : fl = 3
    · subst h3
      by_cases h2 : bits .and .u8 fg 23 = 2
      · have q : (bits .and .u8 fg 23 != 2) = false := by simp [h2]
        have e : (if (true && !(decide ((3 : Int) = 3) && !decide (bits .and .u8 fg 23 = 2))) = true then (1 : Int) else 0) = 1 := by simp [h2]
        have e' : (true && !(decide ((3 : Int) = 3) && !decide (bits .and .u8 fg 23 = 2))) = true := by simp [h2]
        rw [e, e']
        clear e e' h2
        go_enter Tryz.func157, Tryz.ntmps157
        go_wp2_with ((go_at_call 153; (with_reducible refine (C.out _ (by assumption)).mono ?_); rintro e2 w2 ⟨rfl, b2⟩; have b2' := bstep (by assumption : Below w.heap.size w _) b2; clear b2))
        go_ret2
        exact ⟨rfl, by assumption⟩
      · have q : (bits .and .u8 fg 23 != 2) = true := by simp [h2]
        have e : (if (true && !(decide ((3 : Int) = 3) && !decide (bits .and .u8 fg 23 = 2))) = true then (1 : Int) else 0) = 0 := by simp [h2]
        have e' : (true && !(decide ((3 : Int) = 3) && !decide (bits .and .u8 fg 23 = 2))) = false := by simp [h2]
        rw [e, e']
        clear e e' h2
        go_enter Tryz.func157, Tryz.ntmps157
        go_wp2_with ((go_at_call 153; (with_reducible refine (C.out _ (by assumption)).mono ?_); rintro e2 w2 ⟨rfl, b2⟩; have b2' := bstep (by assumption : Below w.heap.size w _) b2; clear b2))
        go_ret2
        exact ⟨rfl, by assumption⟩
    · have q : (fl == 3) = false := by simp [h3]
      have e : (if (true && !(decide (fl = 3) && !decide (bits .and .u8 fg 23 = 2))) = true then (1 : Int) else 0) = 1 := by simp [h3]
      have e' : (true && !(decide (fl = 3) && !decide (bits .and .u8 fg 23 = 2))) = true := by simp [h3]
      rw [e, e']
      clear e e' h3
      go_enter Tryz.func157, Tryz.ntmps157
      go_wp2_with ((go_at_call 153; (with_reducible refine (C.out _ (by assumption)).mono ?_); rintro e2 w2 ⟨rfl, b2⟩; have b2' := bstep (by assumption : Below w.heap.size w _) b2; clear b2))
      go_ret2
      exact ⟨rfl, by assumption⟩
  · rw [decide_eq_false h1] at C ⊢
    clear h1
    go_enter Tryz.func157, Tryz.ntmps157
    go_wp2_with ((go_at_call 153; (with_reducible refine (C.out _ (by assumption)).mono ?_); rintro e2 w2 ⟨rfl, b2⟩; have b2' := bstep (by assumption : Below w.heap.size w _) b2; clear b2))
    go_ret2
    exact ⟨rfl, by assumption⟩
end Go.Proofs.YtedfdphapcanoaaGreatDoor
end

section
/- tuples.words, as the program lays it: whether a protocol is there; tuples.May. -/
set_option linter.unusedVariables false
set_option linter.unusedSimpArgs false
namespace Go.Proofs.YtedfdphapcanoaaGreatDoor
open Go.RowKit Go.Maps
attribute [local go_sem] Oper.semAt_some

/-- the protocols' words, as they lie -/
def Wds (w : World) : Prop :=
  ∃ b n, w.cell? ⟨1, 0, none⟩ = some (.map (some b)) ∧ w.ownsMap (H := Unit) Tryz.prog 5 (plainElem Tryz.prog 9) b n Rows.laid_porter_tuples_words
theorem Wds.below {w w' : World} (h : Wds w) (k : Below w.heap.size w w') : Wds w' := by
  obtain ⟨b, n, hc, es, clock, hb, hF⟩ := h
  exact ⟨b, n, cellAt k hc, es, clock, (k.block b (Array.getElem?_eq_some_iff.1 hb).1).trans hb, hF⟩
/-- one of the three -/
def isProto (p : Int) : Bool := p == 1 || (p == 6 || p == 17)
def wordB (t : Nat) : Bool := Maps.has (Rows.laid_porter_tuples_words (H := Unit)) (.int .u8 (t : Int)) == isProto t
theorem words_b : (List.range 256).all wordB = true := by kernel_rfl
/-- what a look into the words gives, in the world at hand and in all that follow -/
theorem Wds.look {w : World} (h : Wds w) : ∃ b, ∀ W, Below w.heap.size w W → W.cell? ⟨1, 0, none⟩ = some (.map (some b)) ∧
    ∀ t : Int, 0 ≤ t ∧ t ≤ 255 → ∃ v, (Instr.lookup 346 (.map (some b)) (.int .u8 t) true).run Tryz.prog W = .ok (.tuple #[v, .bool (isProto t)]) W := by
  obtain ⟨b, n, hc, es, clock, hb, hF⟩ := h
  refine ⟨b, fun W k => ⟨cellAt k hc, fun t ht => ?_⟩⟩
  have hown : W.ownsMap (H := Unit) Tryz.prog 5 (plainElem Tryz.prog 9) b n Rows.laid_porter_tuples_words := ⟨es, clock, (k.block b (Array.getElem?_eq_some_iff.1 hb).1).trans hb, hF⟩
  obtain ⟨v, ps, hrun, _⟩ := hown.look_ok (t := 346) (e := 9) (int_keyed Tryz.underlying5) Tryz.underlying346 (z := .string { data := #[] }) (by kernel_rfl) (zd := .lit (.string [])) (zp := []) (by kernel_rfl) (key := .int .u8 t) (keyOf_int_mk Tryz.underlying5 (by go_wf))
  have h1 := List.all_eq_true.1 words_b t.toNat (List.mem_range.2 (by omega))
  unfold wordB at h1
  rw [beq_iff_eq, Int.toNat_of_nonneg ht.1] at h1
  rw [h1] at hrun
  exact ⟨v, hrun⟩
/-- may a tuple be? -/
def tupMay (p b d : Int) : Bool := isProto p && (p != 1 || (b == 0 || d == 0))
set_option maxHeartbeats 2000000 in
set_option maxRecDepth 100000 in
theorem tu_May (w : World) (p a b c d : Int) (hW : Wds w) (hp : 0 ≤ p ∧ p ≤ 255) : Calls Tryz.prog 152 #[.agg #[.int .u8 p, .int .u32 a, .int .u16 b, .int .u32 c, .int .u16 d]] w (Ret (.bool (tupMay p b d)) w) := by
  obtain ⟨bm, hl⟩ := hW.look
  have HL := hide hl
  clear hW hl
  unfold tupMay
  obtain ⟨x1, q1⟩ : ∃ x1, isProto p = x1 := ⟨_, rfl⟩
  obtain ⟨x2, q2⟩ : ∃ x2, (p != 1) = x2 := ⟨_, rfl⟩
  obtain ⟨x3, q3⟩ : ∃ x3, (b == 0) = x3 := ⟨_, rfl⟩
  obtain ⟨x4, q4⟩ : ∃ x4, (d == 0) = x4 := ⟨_, rfl⟩
  rw [q1, q2, q3, q4]
  have Q1 := hide q1; have HP := hide hp
  clear q1 hp
  go_enter Tryz.func152, Tryz.ntmps152
  have d0 := Cells.new w #[.int .u8 p, .int .u32 a, .int .u16 b, .int .u32 c, .int .u16 d] 69
  have l0 : Below w.heap.size w (w.alloc (.cells #[.int .u8 p, .int .u32 a, .int .u16 b, .int .u32 c, .int .u16 d] 69)) := (fresh_below _ _)
  have L0 := hide l0; have D0 := hide d0
  clear l0 d0
  go_upto_region 1 with fail
  have l0 := L0.out; have d0 := D0.out
  clear L0 D0
  generalize (w.alloc (.cells #[.int .u8 p, .int .u32 a, .int .u16 b, .int .u32 c, .int .u16 d] 69)) = w1 at *
  have qd0_0 : ∀ W', Below w1.heap.size w1 W' → World.cell? W' ⟨w.heap.size, 0, none⟩ = some (.int .u8 p) := fun W' h => Cells.at_ (Cells.below h d0) 0
  have qd0_1 : ∀ W', Below w1.heap.size w1 W' → World.cell? W' ⟨w.heap.size, 1, none⟩ = some (.int .u32 a) := fun W' h => Cells.at_ (Cells.below h d0) 1
  have qd0_2 : ∀ W', Below w1.heap.size w1 W' → World.cell? W' ⟨w.heap.size, 2, none⟩ = some (.int .u16 b) := fun W' h => Cells.at_ (Cells.below h d0) 2
  have qd0_3 : ∀ W', Below w1.heap.size w1 W' → World.cell? W' ⟨w.heap.size, 3, none⟩ = some (.int .u32 c) := fun W' h => Cells.at_ (Cells.below h d0) 3
  have qd0_4 : ∀ W', Below w1.heap.size w1 W' → World.cell? W' ⟨w.heap.size, 4, none⟩ = some (.int .u16 d) := fun W' h => Cells.at_ (Cells.below h d0) 4
  have bb : Below w1.heap.size w1 w1 := Below.refl _ _
  have L0 := hide l0; have D0 := hide d0
  clear l0 d0
  obtain ⟨h1, h2⟩ := HL.out w1 L0.out
  obtain ⟨v, h3⟩ := h2 p HP.out
  rw [Q1.out] at h3
  clear h2
  cases x1
  · go_wp2_with fail
    go_ret
    exact ⟨rfl, L0.out⟩
  · cases x2
    · cases x3
      · go_wp2_with fail
        go_ret
        exact ⟨rfl, L0.out⟩
      · go_wp2_with fail
        go_ret
        exact ⟨rfl, L0.out⟩
    · go_wp2_with fail
      go_ret
      exact ⟨rfl, L0.out⟩
end Go.Proofs.YtedfdphapcanoaaGreatDoor
end
