/- track: how long a state lasts, out of the program's table; the state of a first packet. -/
import Derived.Test.YtedfdphapcanoaaGreatDoorProg
import Derived.Test.YtedfdphapcanoaaGreatDoorHeap2
import Derived.Test.YtedfdphapcanoaaGreatDoorRange
import Derived.Test.YtedfdphapcanoaaGreatDoorStr
set_option linter.unusedVariables false
set_option linter.unusedSimpArgs false
namespace Go.Proofs.YtedfdphapcanoaaGreatDoor
open Go.RowKit Go.Lib
attribute [local go_sem] Oper.semAt_some

/-- how many ticks a state lasts -/
def timeV (fl st : Int) : Int :=
  if fl = 1 then (if st = 1 then 120 else if st = 2 then 300 else 0)
  else if fl = 2 then (if st = 1 then 60 else if st = 2 then 60 else 0)
  else if fl = 3 then (if st = 3 then 7440 else if 1 ≤ st ∧ st ≤ 7 then 240 else 0)
  else 0
theorem timeV_bd (fl st : Int) : 0 ≤ timeV fl st ∧ timeV fl st ≤ 7440 := by unfold timeV; repeat' split <;> omega
/-- the table as it lies -/
def Lasts (W : World) : Prop := ∀ i j : Nat, i < 4 → j < 8 → W.cell? ⟨0, i * 8 + j, none⟩ = some (.int .i64 (timeV i j))
theorem Lasts.below {W W' : World} (h : Lasts W) (k : Below W.heap.size W W') : Lasts W' := fun i j hi hj => by
  rw [k.cell (p := ⟨0, _, none⟩) (World.block_lt_of_cell? W _ (h i j hi hj))]
  exact h i j hi hj

set_option maxHeartbeats 2000000 in
theorem tk_Timeout (w : World) (fl st : Int) (h : Lasts w) : Calls Tryz.prog 85 #[.int .i64 fl, .int .i64 st] w (Ret (.int .i64 (timeV fl st)) w) := by
  by_cases h1 : fl < 0
  · have e : timeV fl st = 0 := by unfold timeV; rw [if_neg (by omega), if_neg (by omega), if_neg (by omega)]
    rw [e]
    clear e h
    have bb : Below w.heap.size w w := Below.refl _ _
    go_enter Tryz.func85, Tryz.ntmps85
    go_wp2_with fail
    go_ret
    exact ⟨rfl, by assumption⟩
  by_cases h2 : 4 ≤ fl
  · have e : timeV fl st = 0 := by unfold timeV; rw [if_neg (by omega), if_neg (by omega), if_neg (by omega)]
    rw [e]
    clear e h
    have bb : Below w.heap.size w w := Below.refl _ _
    go_enter Tryz.func85, Tryz.ntmps85
    go_wp2_with fail
    go_ret
    exact ⟨rfl, by assumption⟩
  by_cases h3 : st < 0
  · have e : timeV fl st = 0 := by unfold timeV; repeat' split <;> omega
    rw [e]
    clear e h
    have bb : Below w.heap.size w w := Below.refl _ _
    go_enter Tryz.func85, Tryz.ntmps85
    go_wp2_with fail
    go_ret
    exact ⟨rfl, by assumption⟩
  by_cases h4 : 7 < st
  · have e : timeV fl st = 0 := by unfold timeV; repeat' split <;> omega
    rw [e]
    clear e h
    have bb : Below w.heap.size w w := Below.refl _ _
    go_enter Tryz.func85, Tryz.ntmps85
    go_wp2_with fail
    go_ret
    exact ⟨rfl, by assumption⟩
  obtain ⟨i, rfl⟩ := Int.eq_ofNat_of_zero_le (show 0 ≤ fl by omega)
  obtain ⟨j, rfl⟩ := Int.eq_ofNat_of_zero_le (show 0 ≤ st by omega)
  have hi : i < 4 := by omega
  have hj : j < 8 := by omega
  have hc := h i j hi hj
  generalize timeV (i : Int) (j : Int) = x at *
  clear h
  have bb : Below w.heap.size w w := Below.refl _ _
  go_enter Tryz.func85, Tryz.ntmps85
  go_wp2_with fail
  go_ret
  exact ⟨rfl, by assumption⟩
theorem tk_May (w : World) (fl st : Int) (h : Lasts w) : Calls Tryz.prog 153 #[.int .i64 fl, .int .i64 st] w (Ret (.bool (decide (0 < timeV fl st))) w) := by
  have c := fun W (hW : Below w.heap.size w W) => tk_Timeout W fl st (h.below hW)
  have C := hide c
  clear c h
  generalize timeV fl st = x at *
  have bb : Below w.heap.size w w := Below.refl _ _
  go_enter Tryz.func153, Tryz.ntmps153
  go_wp2_with ((go_at_call 85; (with_reducible refine (C.out _ (by assumption)).mono ?_); rintro e2 w2 ⟨rfl, b2⟩; have b2' := bstep (by assumption : Below w.heap.size w _) b2; clear b2))
  go_ret
  exact ⟨rfl, by assumption⟩
/-- the kind of flow of a protocol -/
def flowV (p : Int) : Int := if p = 1 then 2 else if p = 6 then 3 else if p = 17 then 1 else 0
theorem tk_Flow (w : World) (p : Int) : Calls Tryz.prog 83 #[.int .u8 p] w (Ret (.int .i64 (flowV p)) w) := by
  unfold flowV
  have bb : Below w.heap.size w w := Below.refl _ _
  by_cases h1 : p = 1
  · subst h1
    go_enter Tryz.func83, Tryz.ntmps83
    go_wp2_with fail
    go_ret
    exact ⟨rfl, by assumption⟩
  by_cases h6 : p = 6
  · subst h6
    go_enter Tryz.func83, Tryz.ntmps83
    go_wp2_with fail
    go_ret
    exact ⟨rfl, by assumption⟩
  by_cases h17 : p = 17
  · subst h17
    go_enter Tryz.func83, Tryz.ntmps83
    go_wp2_with fail
    go_ret
    exact ⟨rfl, by assumption⟩
  rw [if_neg h1, if_neg h6, if_neg h17]
  have q1 : (p == 1) = false := by simpa using h1
  have q6 : (p == 6) = false := by simpa using h6
  have q17 : (p == 17) = false := by simpa using h17
  clear h1 h6 h17
  go_enter Tryz.func83, Tryz.ntmps83
  go_wp2_with fail
  go_ret
  exact ⟨rfl, by assumption⟩
/-- may a first packet of these flags begin a flow of this kind? -/
def firstV (fl fg : Int) : Bool := decide (0 < timeV fl 1) && !(decide (fl = 3) && !decide (bits .and .u8 fg 23 = 2))
theorem tk_First (w : World) (fl fg : Int) (h : Lasts w) : Calls Tryz.prog 157 #[.int .i64 fl, .int .u8 fg] w (Ret (.tuple #[.int .i64 (if firstV fl fg = true then 1 else 0), .bool (firstV fl fg)]) w) := by
  have c := fun W (hW : Below w.heap.size w W) => tk_May W fl 1 (h.below hW)
  unfold firstV
  have C := hide c
  clear c h
  have bb : Below w.heap.size w w := Below.refl _ _
  by_cases h1 : 0 < timeV fl 1
  · rw [decide_eq_true h1] at C ⊢
    clear h1
    by_cases h3 : fl = 3
    · subst h3
      by_cases h2 : bits .and .u8 fg 23 = 2
      · have q : (bits .and .u8 fg 23 != 2) = false := by simp [h2]
        have e : (if (true && !(decide ((3 : Int) = 3) && !decide (bits .and .u8 fg 23 = 2))) = true then (1 : Int) else 0) = 1 := by simp [h2]
        have e' : (true && !(decide ((3 : Int) = 3) && !decide (bits .and .u8 fg 23 = 2))) = true := by simp [h2]
        rw [e, e']
        clear e e' h2
        go_enter Tryz.func157, Tryz.ntmps157
        go_wp2_with ((go_at_call 153; (with_reducible refine (C.out _ (by assumption)).mono ?_); rintro e2 w2 ⟨rfl, b2⟩; have b2' := bstep (by assumption : Below w.heap.size w _) b2; clear b2))
        go_ret2
        exact ⟨rfl, by assumption⟩
      · have q : (bits .and .u8 fg 23 != 2) = true := by simp [h2]
        have e : (if (true && !(decide ((3 : Int) = 3) && !decide (bits .and .u8 fg 23 = 2))) = true then (1 : Int) else 0) = 0 := by simp [h2]
        have e' : (true && !(decide ((3 : Int) = 3) && !decide (bits .and .u8 fg 23 = 2))) = false := by simp [h2]
        rw [e, e']
        clear e e' h2
        go_enter Tryz.func157, Tryz.ntmps157
        go_wp2_with ((go_at_call 153; (with_reducible refine (C.out _ (by assumption)).mono ?_); rintro e2 w2 ⟨rfl, b2⟩; have b2' := bstep (by assumption : Below w.heap.size w _) b2; clear b2))
        go_ret2
        exact ⟨rfl, by assumption⟩
    · have q : (fl == 3) = false := by simp [h3]
      have e : (if (true && !(decide (fl = 3) && !decide (bits .and .u8 fg 23 = 2))) = true then (1 : Int) else 0) = 1 := by simp [h3]
      have e' : (true && !(decide (fl = 3) && !decide (bits .and .u8 fg 23 = 2))) = true := by simp [h3]
      rw [e, e']
      clear e e' h3
      go_enter Tryz.func157, Tryz.ntmps157
      go_wp2_with ((go_at_call 153; (with_reducible refine (C.out _ (by assumption)).mono ?_); rintro e2 w2 ⟨rfl, b2⟩; have b2' := bstep (by assumption : Below w.heap.size w _) b2; clear b2))
      go_ret2
      exact ⟨rfl, by assumption⟩
  · rw [decide_eq_false h1] at C ⊢
    clear h1
    go_enter Tryz.func157, Tryz.ntmps157
    go_wp2_with ((go_at_call 153; (with_reducible refine (C.out _ (by assumption)).mono ?_); rintro e2 w2 ⟨rfl, b2⟩; have b2' := bstep (by assumption : Below w.heap.size w _) b2; clear b2))
    go_ret2
    exact ⟨rfl, by assumption⟩
end Go.Proofs.YtedfdphapcanoaaGreatDoor
