/- Several texts of this claim, one behind the other. -/
import Derived.Test.YtilfcikhipadpaaGreatDoorK9b

section
/- rules: Add, by the executor: all its ends. -/
set_option linter.unusedVariables false
set_option linter.unusedSimpArgs false
namespace Go.Proofs.YtilfcikhipadpaaGreatDoor
open Go.RowKit Go.Lib Rx
variable {A : Amb} {rs : List Rule}
theorem find_cases (p : Rule → Bool) : ∀ rs : List Rule, (∃ k, ∃ hk : k < rs.length, (∀ j (hj : j < k), p (rs[j]'(by omega)) = false) ∧ p rs[k] = true ∧ rs.find? p = some rs[k] ∧ rs.any p = true) ∨ ((∀ r ∈ rs, p r = false) ∧ rs.find? p = none ∧ rs.any p = false)
  | [] => .inr ⟨(fun r h => by cases h), rfl, rfl⟩
  | x :: l => by
    cases hx : p x
    · rcases find_cases p l with ⟨k, hk, h1, h2, h3, h4⟩ | ⟨h1, h2, h3⟩
      · refine .inl ⟨k + 1, by simp; omega, fun j hj => ?_, by simpa using h2, by simp [hx, h3], by simp [hx]; simpa using h4⟩
        cases j with
        | zero => simpa using hx
        | succ j => simpa using h1 j (by omega)
      · refine .inr ⟨fun r hr => ?_, by simp [hx]; simpa using h2, by simp [hx]; simpa using h3⟩
        rcases List.mem_cons.1 hr with rfl | hr
        · exact hx
        · exact h1 r hr
    · exact .inl ⟨0, by simp, fun j hj => absurd hj (Nat.not_lt_zero j), by simpa using hx, by simp [hx], by simp [hx]⟩
@[reducible] def taM (o ip b : Int) (rs : List Rule) : List (Nat × Blk) := [(0, taB o ip b (.slice (some ⟨1, 0, some 0⟩) rs.length 0)), (1, ruB rs)]
theorem taM_in (o ip b : Int) (rs : List Rule) : inBlks 2 (taM o ip b rs) = true := by
  simp only [inBlks, List.all_cons, List.all_nil, all_flat (p := inC 2) (f := ruL) (fun _ => rfl)]
  rfl
theorem add_clash (o ip b : Int) (r : Rule) (hip : 0 ≤ ip ∧ ip ≤ 4294967295) (hr : r.Ok) (hc : mayR ip b r = true) (hl : ¬ 32 ≤ rs.length) (hx : (rs.any fun x => clq (whoR o x) (whoR o r)) = true) : CallJ Tryz.prog A 42 [ptr 0, .int .i64 (rs.length : Int), .agg (ruL r).toArray] (taM o ip b rs) 2 (.int .i64 11) (taM o ip b rs) 2 := by
  have h2 : chq ip b r = 0 := by unfold chq; rw [if_pos hc]
  have k := (chk_J (A := A) o ip b (.slice (some ⟨1, 0, some 0⟩) rs.length 0) r hip hr).up (n := 4)
  rw [h2] at k
  rcases find_cases (fun x => clq (whoR o x) (whoR o r)) rs with ⟨j, hj, q1, q2, _, _⟩ | ⟨_, _, q3⟩
  · exact (con (nx' := 4) [calls 5 4 0 k, no 22 (b := bif decide ((rs.length : Int) < 0) then true else decide ((rs.length : Int) > rs.length)) (by simp), no 30 (b := decide ((rs.length : Int) ≥ 32)) (by simp; omega),
      calls 39 4 0 (kx_at (n := 4) (kx_yes (c := 0) (p := fun x => clq (whoR o x) (whoR o r)) (g := 94) (by kernel_rfl) (fun x _ => adc_J o ip b rs.length 0 x r) (by omega) j hj q1 q2) [1, 2, 3, 0]), yes 44 (b := decide ((j : Int) ≥ 0)) (by simp)]).drop (h2 := taM_in o ip b rs) (h4 := taM_in o ip b rs)
  · rw [q3] at hx; cases hx
theorem add_yes (o ip b : Int) (r : Rule) (hip : 0 ≤ ip ∧ ip ≤ 4294967295) (hr : r.Ok) (hc : mayR ip b r = true) (hl : ¬ 32 ≤ rs.length) (hx : (rs.any fun x => clq (whoR o x) (whoR o r)) = false) : CallJ Tryz.prog A 42 [ptr 0, .int .i64 (rs.length : Int), .agg (ruL r).toArray] (taM o ip b rs) 2 (.int .i64 0) [(0, taB o ip b (.slice (some ⟨2, 0, some 0⟩) (rs ++ [r]).length 0)), (2, ruB (rs ++ [r]))] 3 := by
  have h2 : chq ip b r = 0 := by unfold chq; rw [if_pos hc]
  have k := (chk_J (A := A) o ip b (.slice (some ⟨1, 0, some 0⟩) rs.length 0) r hip hr).up (n := 4)
  rw [h2] at k
  rcases find_cases (fun x => clq (whoR o x) (whoR o r)) rs with ⟨j, hj, q1, q2, _, q3⟩ | ⟨q1, _, _⟩
  · rw [q3] at hx; cases hx
  have hL : (rs.flatMap ruL).length = rs.length * 11 := flat_len ruL_len rs
  have h := con (A := A) (P := Tryz.prog) (f := 42) (args := [ptr 0, .int .i64 (rs.length : Int), .agg (ruL r).toArray]) (sn := taM o ip b rs) (nx := 2) (v := .int .i64 0) (out := [(0, taB o ip b (.slice (some ⟨5, 0, some 0⟩) (rs.length + 1) 0)), (5, (rs.flatMap ruL ++ ruL r, 68, true))]) (nx' := 6)
    [calls 5 4 0 k, no 22 (b := bif decide ((rs.length : Int) < 0) then true else decide ((rs.length : Int) > rs.length)) (by simp), no 30 (b := decide ((rs.length : Int) ≥ 32)) (by simp; omega),
      calls 39 4 0 (kx_at (n := 4) (kx_no (c := 0) (p := fun x => clq (whoR o x) (whoR o r)) (g := 94) (by kernel_rfl) (fun x _ => adc_J o ip b rs.length 0 x r) (by omega) q1) [1, 2, 3, 0]), slE 56 5 (T := 115) (ty := 115) (e := 68) (s := 11) (id := 1) (k := rs.length) hL, yes 69 (b := (rs.length : Int) == (rs.length : Int)) (by simp),
      ap 72 5 (sT := 115) (xT := 115) (ty := 115) (e := 68) (e3 := 68) (s := 11) (id := 1) (j := 4) (m := rs.length) (k := 1) (q2 := 1) (c2 := 1) (e2 := 68) (r2 := true) (new := ruL r) hL rfl rfl ⟨by omega, by omega⟩ (by omega)]
  have hn : rs.length + 1 = (rs ++ [r]).length := by simp
  rw [flat_snoc, hn] at h
  have := h.re (d := 4) [5] (h4 := by
    simp only [liveB, List.all_cons, List.all_nil, all_flat (p := in0 (live [5] 2)) (f := ruL) (fun _ => rfl)]
    rfl) (h2 := taM_in o ip b rs)
  refine this.eq rfl ?_
  simp only [List.map_cons, List.map_nil, idB, flat_id (f := ruL) (fun _ => rfl)]
  rfl
/-! ### of a table without rules -/
@[reducible] def naM (o ip b : Int) : List (Nat × Blk) := [(0, taB o ip b (.slice none 0 0))]
theorem add0_no (o ip b : Int) (r : Rule) (hip : 0 ≤ ip ∧ ip ≤ 4294967295) (hr : r.Ok) (hc : ¬ mayR ip b r = true) : CallJ Tryz.prog A 42 [ptr 0, .int .i64 0, .agg (ruL r).toArray] (naM o ip b) 2 (.int .i64 2) (naM o ip b) 2 := by
  have k := (chk_J (A := A) o ip b (.slice none 0 0) r hip hr).up (n := 4)
  rw [show chq ip b r = 2 by unfold chq; rw [if_neg hc]] at k
  exact (con (nx' := 4) [calls 5 4 0 k]).drop
end Go.Proofs.YtilfcikhipadpaaGreatDoor
end

section
/- rules: what a table tells, by the executor. -/
set_option linter.unusedVariables false
set_option linter.unusedSimpArgs false
namespace Go.Proofs.YtilfcikhipadpaaGreatDoor
open Go.RowKit Go.Lib Rx
variable {A : Amb} {rs : List Rule} {M : List (Nat × Blk)} {o ip b : Int}
def zeR : Rule := ⟨0, 0, 0, 0, 0, 0, 0, 0, 0, 0, 0⟩
/-- the first rule that fits -/
def lkR (p : Rule → Bool) (rs : List Rule) : Rule := (rs.find? p).getD zeR
/-- a table in blocks -/
def IsTab (o ip b : Int) (rs : List Rule) (M : List (Nat × Blk)) : Prop := (rs = [] ∧ M = naM o ip b) ∨ M = taM o ip b rs
theorem IsTab.in_ (h : IsTab o ip b rs M) : inBlks 2 M = true := by
  rcases h with ⟨_, rfl⟩ | rfl
  · rfl
  · exact taM_in o ip b rs
theorem lk_yes {p : Rule → Bool} {k : Nat} {hk : k < rs.length} (h : rs.find? p = some rs[k]) : lkR p rs = rs[k] := by unfold lkR; rw [h]; rfl
theorem lk_no {p : Rule → Bool} (h : rs.find? p = none) : lkR p rs = zeR := by unfold lkR; rw [h]; rfl
theorem static_u (h : IsTab o ip b rs M) (hn : rs.length ≤ 1000) (q ei ep : Int) (n : Nat) (h2 : 2 ≤ n := by decide) : CallJ Tryz.prog A 19 [ptr 0, .int .u8 q, .agg #[.int .u32 ei, .int .u16 ep]] M n (.tuple #[.agg (ruL (lkR (fun r => stB r q ei ep) rs)).toArray, .bool (rs.any fun r => stB r q ei ep)]) M n := by
  refine CallJ.up ?_ h2 (h2 := h.in_)
  rcases h with ⟨rfl, rfl⟩ | rfl
  · exact (con (nx' := 6) []).drop
  · rcases find_cases (fun r => stB r q ei ep) rs with ⟨k, hk, q1, q2, q3, q4⟩ | ⟨q1, q3, q4⟩
    · rw [lk_yes q3, q4]
      exact (st_yes (c := 0) q ei ep o ip b hn k hk q1 q2).drop (h2 := taM_in o ip b rs) (h4 := taM_in o ip b rs)
    · rw [lk_no q3, q4]
      exact (st_no (c := 0) q ei ep o ip b hn q1).drop (h2 := taM_in o ip b rs) (h4 := taM_in o ip b rs)
theorem own_u (h : IsTab o ip b rs M) (hn : rs.length ≤ 1000) (q ei ep : Int) (n : Nat) (h2 : 2 ≤ n := by decide) : CallJ Tryz.prog A 152 [ptr 0, .int .u8 q, .agg #[.int .u32 ei, .int .u16 ep]] M n (.tuple #[.agg (ruL (lkR (fun r => owB r q ei ep) rs)).toArray, .bool (rs.any fun r => owB r q ei ep)]) M n := by
  refine CallJ.up ?_ h2 (h2 := h.in_)
  rcases h with ⟨rfl, rfl⟩ | rfl
  · exact (con (nx' := 6) []).drop
  · rcases find_cases (fun r => owB r q ei ep) rs with ⟨k, hk, q1, q2, q3, q4⟩ | ⟨q1, q3, q4⟩
    · rw [lk_yes q3, q4]
      exact (ow_yes (c := 0) q ei ep o ip b hn k hk q1 q2).drop (h2 := taM_in o ip b rs) (h4 := taM_in o ip b rs)
    · rw [lk_no q3, q4]
      exact (ow_no (c := 0) q ei ep o ip b hn q1).drop (h2 := taM_in o ip b rs) (h4 := taM_in o ip b rs)
theorem source_u (h : IsTab o ip b rs M) (hn : rs.length ≤ 1000) (hok : ∀ r ∈ rs, r.Ok) (q si sp di dp : Int) (hs : 0 ≤ si ∧ si ≤ 4294967295) (hd : 0 ≤ di ∧ di ≤ 4294967295) (n : Nat) (h2 : 2 ≤ n := by decide) : CallJ Tryz.prog A 153 [ptr 0, .agg #[.int .u8 q, .int .u32 si, .int .u16 sp, .int .u32 di, .int .u16 dp]] M n (.tuple #[.agg (ruL (woR o (lkR (fun r => soB r q si di) rs))).toArray, .bool (rs.any fun r => soB r q si di)]) M n := by
  refine CallJ.up ?_ h2 (h2 := h.in_)
  rcases h with ⟨rfl, rfl⟩ | rfl
  · exact (con (nx' := 5) []).drop
  · rcases find_cases (fun r => soB r q si di) rs with ⟨k, hk, q1, q2, q3, q4⟩ | ⟨q1, q3, q4⟩
    · rw [lk_yes q3, q4]
      exact (so_yes (c := 0) q si sp di dp o ip b hn hok hs hd k hk q1 q2).drop (h2 := taM_in o ip b rs) (h3 := by unfold woR; cases rs[k].k == 2 <;> rfl) (h4 := taM_in o ip b rs)
    · rw [lk_no q3, q4]
      exact (so_no (c := 0) q si sp di dp o ip b hn hok hs hd q1).drop (h2 := taM_in o ip b rs) (h4 := taM_in o ip b rs)
theorem inner_u (h : IsTab o ip b rs M) (hip : 0 ≤ ip ∧ ip ≤ 4294967295) (a : Int) (ha : 0 ≤ a ∧ a ≤ 4294967295) (n : Nat) (h2 : 2 ≤ n := by decide) : CallJ Tryz.prog A 20 [ptr 0, .int .u32 a] M n (.bool (hasP ip b a)) M n := by
  refine CallJ.up ?_ h2 (h2 := h.in_)
  rcases h with ⟨rfl, rfl⟩ | rfl
  · exact con [hE 21 ip b a hip ha]
  · exact con [hE 21 ip b a hip ha]
theorem oc_J (o ip b : Int) (n c : Nat) (x : Rule) (a : Int) : CallJ Tryz.prog A 61 [.agg (ruL x).toArray, ptr 1, ptr 2] [(1, ([ptr 3], 48, false)), (2, ([.int .u32 a], 28, false)), (3, taB o ip b (.slice (some ⟨0, 0, some 0⟩) n c))] 4 (.bool ((whoR o x).e == a)) [(1, ([ptr 3], 48, false)), (2, ([.int .u32 a], 28, false)), (3, taB o ip b (.slice (some ⟨0, 0, some 0⟩) n c))] 4 := by
  rw [← outer1_val o ip b n c x a]
  exact rx_Outer1 o ip b n c _ _ _ _ _ _ _ _ _ _ _ _
def outB (o : Int) (rs : List Rule) (a : Int) : Bool := (a == o) || rs.any fun r => (whoR o r).e == a
theorem outer_u (h : IsTab o ip b rs M) (hn : rs.length ≤ 1000) (a : Int) (n : Nat) (h2 : 2 ≤ n := by decide) : CallJ Tryz.prog A 21 [ptr 0, .int .u32 a] M n (.bool (outB o rs a)) M n := by
  refine CallJ.up ?_ h2 (h2 := h.in_)
  unfold outB
  rcases h with ⟨rfl, rfl⟩ | rfl
  · cases q : a == o
    · exact (con (nx' := 4) [isF 23 q]).drop
    · exact (con (nx' := 4) [isT 23 q]).drop
  · cases q : a == o
    · rcases find_cases (fun r => (whoR o r).e == a) rs with ⟨k, hk, q1, q2, q3, q4⟩ | ⟨q1, q3, q4⟩
      · rw [q4]
        exact (con (nx' := 4) [isF 23 q, calls 32 4 0 (kx_at (n := 4) (kx_yes (c := 0) (p := fun r => (whoR o r).e == a) (g := 61) (by kernel_rfl) (fun x _ => oc_J o ip b rs.length 0 x a) hn k hk q1 q2) [1, 2, 3, 0]), is 36 (x := .bool (decide ((k : Int) ≥ 0))) (y := .bool true) (by simp)]).drop (h2 := taM_in o ip b rs) (h4 := taM_in o ip b rs)
      · rw [q4]
        exact (con (nx' := 4) [isF 23 q, calls 32 4 0 (kx_at (n := 4) (kx_no (c := 0) (p := fun r => (whoR o r).e == a) (g := 61) (by kernel_rfl) (fun x _ => oc_J o ip b rs.length 0 x a) hn q1) [1, 2, 3, 0])]).drop (h2 := taM_in o ip b rs) (h4 := taM_in o ip b rs)
    · exact (con (nx' := 4) [isT 23 q]).drop (h2 := taM_in o ip b rs) (h4 := taM_in o ip b rs)
end Go.Proofs.YtilfcikhipadpaaGreatDoor
end

section
/- the document's rules: May, Clash: printed (gen/ways.py, gen/rules.spec.py). -/
set_option linter.unusedVariables false
namespace Go.Proofs.YtilfcikhipadpaaGreatDoor
open Go.RowKit Go.Lib Rx
def mD {A : Amb} (n : Nat) (a b : Int) (h : 0 ≤ a ∧ a ≤ 4294967295) : Ev Tryz.prog A := does n (args := [.agg #[.int .u32 a, .int .i64 b]]) fun W _ => ref_May a b W h
def hD {A : Amb} (n : Nat) (a b x : Int) (h : 0 ≤ a ∧ a ≤ 4294967295) (hx : 0 ≤ x ∧ x ≤ 4294967295) : Ev Tryz.prog A := does n (args := [.agg #[.int .u32 a, .int .i64 b], .int .u32 x]) fun W _ => ref_Has a b x W h hx
def rd_May_v (o pi pb : Int) (v : Value) (k p sa sb da db e f t ia ip : Int) : Value := (bif (k == 3) then (bif (p == 6) then (bif (sa == 0 && (sb == 0 && true)) then (bif (da == 0 && (db == 0 && true)) then (bif (hasP pi pb e) then (.bool false) else (bif (f != 0) then (bif (f == t) then (bif (hasP pi pb ia) then (.bool (ip != 0)) else (.bool false)) else (.bool false)) else (.bool false))) else (.bool false)) else (.bool false)) else (bif (p == 17) then (bif (sa == 0 && (sb == 0 && true)) then (bif (da == 0 && (db == 0 && true)) then (bif (hasP pi pb e) then (.bool false) else (bif (f != 0) then (bif (f == t) then (bif (hasP pi pb ia) then (.bool (ip != 0)) else (.bool false)) else (.bool false)) else (.bool false))) else (.bool false)) else (.bool false)) else (.bool false))) else (bif (k != 1) then (bif (k != 2) then (.bool false) else (bif (p != 0) then (bif (p != 1) then (bif (p != 6) then (bif (p != 17) then (.bool false) else (bif (k == 1) then (bif (hasP pi pb e) then (.bool false) else (bif (k == 2) then (bif (e != 0) then (.bool false) else (bif (mayP sa sb) then (bif (mayP da db) then (bif (decide (f ≥ 1)) then (bif (decide (f ≤ t)) then (.bool (ia == 0 && (ip == 0 && true))) else (.bool false)) else (.bool false)) else (.bool false)) else (.bool false))) else (bif (mayP sa sb) then (bif (mayP da db) then (bif (decide (f ≥ 1)) then (bif (decide (f ≤ t)) then (.bool (ia == 0 && (ip == 0 && true))) else (.bool false)) else (.bool false)) else (.bool false)) else (.bool false)))) else (bif (k == 2) then (bif (e != 0) then (.bool false) else (bif (mayP sa sb) then (bif (mayP da db) then (bif (decide (f ≥ 1)) then (bif (decide (f ≤ t)) then (.bool (ia == 0 && (ip == 0 && true))) else (.bool false)) else (.bool false)) else (.bool false)) else (.bool false))) else (bif (mayP sa sb) then (bif (mayP da db) then (bif (decide (f ≥ 1)) then (bif (decide (f ≤ t)) then (.bool (ia == 0 && (ip == 0 && true))) else (.bool false)) else (.bool false)) else (.bool false)) else (.bool false))))) else (bif (k == 1) then (bif (hasP pi pb e) then (.bool false) else (bif (k == 2) then (bif (e != 0) then (.bool false) else (bif (mayP sa sb) then (bif (mayP da db) then (bif (decide (f ≥ 1)) then (bif (decide (f ≤ t)) then (.bool (ia == 0 && (ip == 0 && true))) else (.bool false)) else (.bool false)) else (.bool false)) else (.bool false))) else (bif (mayP sa sb) then (bif (mayP da db) then (bif (decide (f ≥ 1)) then (bif (decide (f ≤ t)) then (.bool (ia == 0 && (ip == 0 && true))) else (.bool false)) else (.bool false)) else (.bool false)) else (.bool false)))) else (bif (k == 2) then (bif (e != 0) then (.bool false) else (bif (mayP sa sb) then (bif (mayP da db) then (bif (decide (f ≥ 1)) then (bif (decide (f ≤ t)) then (.bool (ia == 0 && (ip == 0 && true))) else (.bool false)) else (.bool false)) else (.bool false)) else (.bool false))) else (bif (mayP sa sb) then (bif (mayP da db) then (bif (decide (f ≥ 1)) then (bif (decide (f ≤ t)) then (.bool (ia == 0 && (ip == 0 && true))) else (.bool false)) else (.bool false)) else (.bool false)) else (.bool false))))) else (bif (k == 1) then (bif (hasP pi pb e) then (.bool false) else (bif (k == 2) then (bif (e != 0) then (.bool false) else (bif (mayP sa sb) then (bif (mayP da db) then (bif (decide (f ≥ 1)) then (bif (decide (f ≤ t)) then (.bool (ia == 0 && (ip == 0 && true))) else (.bool false)) else (.bool false)) else (.bool false)) else (.bool false))) else (bif (mayP sa sb) then (bif (mayP da db) then (bif (decide (f ≥ 1)) then (bif (decide (f ≤ t)) then (.bool (ia == 0 && (ip == 0 && true))) else (.bool false)) else (.bool false)) else (.bool false)) else (.bool false)))) else (bif (k == 2) then (bif (e != 0) then (.bool false) else (bif (mayP sa sb) then (bif (mayP da db) then (bif (decide (f ≥ 1)) then (bif (decide (f ≤ t)) then (.bool (ia == 0 && (ip == 0 && true))) else (.bool false)) else (.bool false)) else (.bool false)) else (.bool false))) else (bif (mayP sa sb) then (bif (mayP da db) then (bif (decide (f ≥ 1)) then (bif (decide (f ≤ t)) then (.bool (ia == 0 && (ip == 0 && true))) else (.bool false)) else (.bool false)) else (.bool false)) else (.bool false))))) else (bif (k == 1) then (bif (hasP pi pb e) then (.bool false) else (bif (k == 2) then (bif (e != 0) then (.bool false) else (bif (mayP sa sb) then (bif (mayP da db) then (bif (decide (f ≥ 1)) then (bif (decide (f ≤ t)) then (.bool (ia == 0 && (ip == 0 && true))) else (.bool false)) else (.bool false)) else (.bool false)) else (.bool false))) else (bif (mayP sa sb) then (bif (mayP da db) then (bif (decide (f ≥ 1)) then (bif (decide (f ≤ t)) then (.bool (ia == 0 && (ip == 0 && true))) else (.bool false)) else (.bool false)) else (.bool false)) else (.bool false)))) else (bif (k == 2) then (bif (e != 0) then (.bool false) else (bif (mayP sa sb) then (bif (mayP da db) then (bif (decide (f ≥ 1)) then (bif (decide (f ≤ t)) then (.bool (ia == 0 && (ip == 0 && true))) else (.bool false)) else (.bool false)) else (.bool false)) else (.bool false))) else (bif (mayP sa sb) then (bif (mayP da db) then (bif (decide (f ≥ 1)) then (bif (decide (f ≤ t)) then (.bool (ia == 0 && (ip == 0 && true))) else (.bool false)) else (.bool false)) else (.bool false)) else (.bool false)))))) else (bif (p != 0) then (bif (p != 1) then (bif (p != 6) then (bif (p != 17) then (.bool false) else (bif (k == 1) then (bif (hasP pi pb e) then (.bool false) else (bif (k == 2) then (bif (e != 0) then (.bool false) else (bif (mayP sa sb) then (bif (mayP da db) then (bif (decide (f ≥ 1)) then (bif (decide (f ≤ t)) then (.bool (ia == 0 && (ip == 0 && true))) else (.bool false)) else (.bool false)) else (.bool false)) else (.bool false))) else (bif (mayP sa sb) then (bif (mayP da db) then (bif (decide (f ≥ 1)) then (bif (decide (f ≤ t)) then (.bool (ia == 0 && (ip == 0 && true))) else (.bool false)) else (.bool false)) else (.bool false)) else (.bool false)))) else (bif (k == 2) then (bif (e != 0) then (.bool false) else (bif (mayP sa sb) then (bif (mayP da db) then (bif (decide (f ≥ 1)) then (bif (decide (f ≤ t)) then (.bool (ia == 0 && (ip == 0 && true))) else (.bool false)) else (.bool false)) else (.bool false)) else (.bool false))) else (bif (mayP sa sb) then (bif (mayP da db) then (bif (decide (f ≥ 1)) then (bif (decide (f ≤ t)) then (.bool (ia == 0 && (ip == 0 && true))) else (.bool false)) else (.bool false)) else (.bool false)) else (.bool false))))) else (bif (k == 1) then (bif (hasP pi pb e) then (.bool false) else (bif (k == 2) then (bif (e != 0) then (.bool false) else (bif (mayP sa sb) then (bif (mayP da db) then (bif (decide (f ≥ 1)) then (bif (decide (f ≤ t)) then (.bool (ia == 0 && (ip == 0 && true))) else (.bool false)) else (.bool false)) else (.bool false)) else (.bool false))) else (bif (mayP sa sb) then (bif (mayP da db) then (bif (decide (f ≥ 1)) then (bif (decide (f ≤ t)) then (.bool (ia == 0 && (ip == 0 && true))) else (.bool false)) else (.bool false)) else (.bool false)) else (.bool false)))) else (bif (k == 2) then (bif (e != 0) then (.bool false) else (bif (mayP sa sb) then (bif (mayP da db) then (bif (decide (f ≥ 1)) then (bif (decide (f ≤ t)) then (.bool (ia == 0 && (ip == 0 && true))) else (.bool false)) else (.bool false)) else (.bool false)) else (.bool false))) else (bif (mayP sa sb) then (bif (mayP da db) then (bif (decide (f ≥ 1)) then (bif (decide (f ≤ t)) then (.bool (ia == 0 && (ip == 0 && true))) else (.bool false)) else (.bool false)) else (.bool false)) else (.bool false))))) else (bif (k == 1) then (bif (hasP pi pb e) then (.bool false) else (bif (k == 2) then (bif (e != 0) then (.bool false) else (bif (mayP sa sb) then (bif (mayP da db) then (bif (decide (f ≥ 1)) then (bif (decide (f ≤ t)) then (.bool (ia == 0 && (ip == 0 && true))) else (.bool false)) else (.bool false)) else (.bool false)) else (.bool false))) else (bif (mayP sa sb) then (bif (mayP da db) then (bif (decide (f ≥ 1)) then (bif (decide (f ≤ t)) then (.bool (ia == 0 && (ip == 0 && true))) else (.bool false)) else (.bool false)) else (.bool false)) else (.bool false)))) else (bif (k == 2) then (bif (e != 0) then (.bool false) else (bif (mayP sa sb) then (bif (mayP da db) then (bif (decide (f ≥ 1)) then (bif (decide (f ≤ t)) then (.bool (ia == 0 && (ip == 0 && true))) else (.bool false)) else (.bool false)) else (.bool false)) else (.bool false))) else (bif (mayP sa sb) then (bif (mayP da db) then (bif (decide (f ≥ 1)) then (bif (decide (f ≤ t)) then (.bool (ia == 0 && (ip == 0 && true))) else (.bool false)) else (.bool false)) else (.bool false)) else (.bool false))))) else (bif (k == 1) then (bif (hasP pi pb e) then (.bool false) else (bif (k == 2) then (bif (e != 0) then (.bool false) else (bif (mayP sa sb) then (bif (mayP da db) then (bif (decide (f ≥ 1)) then (bif (decide (f ≤ t)) then (.bool (ia == 0 && (ip == 0 && true))) else (.bool false)) else (.bool false)) else (.bool false)) else (.bool false))) else (bif (mayP sa sb) then (bif (mayP da db) then (bif (decide (f ≥ 1)) then (bif (decide (f ≤ t)) then (.bool (ia == 0 && (ip == 0 && true))) else (.bool false)) else (.bool false)) else (.bool false)) else (.bool false)))) else (bif (k == 2) then (bif (e != 0) then (.bool false) else (bif (mayP sa sb) then (bif (mayP da db) then (bif (decide (f ≥ 1)) then (bif (decide (f ≤ t)) then (.bool (ia == 0 && (ip == 0 && true))) else (.bool false)) else (.bool false)) else (.bool false)) else (.bool false))) else (bif (mayP sa sb) then (bif (mayP da db) then (bif (decide (f ≥ 1)) then (bif (decide (f ≤ t)) then (.bool (ia == 0 && (ip == 0 && true))) else (.bool false)) else (.bool false)) else (.bool false)) else (.bool false)))))))
theorem rd_May {A : Rx.Amb} (o pi pb : Int) (v : Value) (k p sa sb da db e f t ia ip : Int) (hpi : 0 ≤ pi ∧ pi ≤ 4294967295) (hr : (Rule.mk k p sa sb da db e f t ia ip).Ok) (hv : inC 2 v = true) : CallJ Tryz.prog A 97 [.pointer (some ⟨0, 0, some 0⟩), .agg #[.int .i64 k, .int .u8 p, .int .u32 sa, .int .i64 sb, .int .u32 da, .int .i64 db, .int .u32 e, .int .u16 f, .int .u16 t, .int .u32 ia, .int .u16 ip]] [(0, ([.int .u32 o, .int .u32 pi, .int .i64 pb, v], 199, false))] 2 (rd_May_v o pi pb v k p sa sb da db e f t ia ip) [(0, ([.int .u32 o, .int .u32 pi, .int .i64 pb, v], 199, false))] 2 := by
  unfold rd_May_v
  obtain ⟨r1, r2, r3, r4, r5, r6, r7, r8⟩ := hr
  simp only at r1 r2 r3 r4 r5 r6 r7 r8
  have hB : inBlks 2 [(0, ([.int .u32 o, .int .u32 pi, .int .i64 pb, v], 199, false))] = true := by
    simp only [inBlks, List.all_cons, List.all_nil, hv]
    rfl
  cases h1 : (k == 3)
  · let z1 : EvL A := [no 5 h1]
    cases h2 : (k != 1)
    · let z2 : EvL A := z1 ++ [isF 9 h2]
      cases h3 : (p != 0)
      · let z3 : EvL A := z2 ++ [isF 18 h3]
        cases h4 : (k == 1)
        · cases h5 : (k == 2)
          · let z4 : EvL A := z3 ++ [isF 37 h4, isF 47 h5, mD 56 sa sb (by omega)]
            cases h6 : (mayP sa sb)
            · exact cB hB 3 (z4 ++ [isF 57 h6])
            · let z5 : EvL A := z4 ++ [isT 57 h6, mD 60 da db (by omega)]
              cases h7 : (mayP da db)
              · exact cB hB 3 (z5 ++ [isF 62 h7])
              · cases h8 : (decide (f ≥ 1))
                · exact cB hB 3 (z5 ++ [isT 62 h7, isF 67 h8])
                · cases h9 : (decide (f ≤ t))
                  · exact cB hB 3 (z5 ++ [isT 62 h7, isT 67 h8, isF 74 h9])
                  · exact cB hB 3 (z5 ++ [isT 62 h7, isT 67 h8, isT 74 h9])
          · cases h10 : (e != 0)
            · let z6 : EvL A := z3 ++ [isF 37 h4, isT 47 h5, no 53 h10, mD 56 sa sb (by omega)]
              cases h11 : (mayP sa sb)
              · exact cB hB 3 (z6 ++ [isF 57 h11])
              · let z7 : EvL A := z6 ++ [isT 57 h11, mD 60 da db (by omega)]
                cases h12 : (mayP da db)
                · exact cB hB 3 (z7 ++ [isF 62 h12])
                · cases h13 : (decide (f ≥ 1))
                  · exact cB hB 3 (z7 ++ [isT 62 h12, isF 67 h13])
                  · cases h14 : (decide (f ≤ t))
                    · exact cB hB 3 (z7 ++ [isT 62 h12, isT 67 h13, isF 74 h14])
                    · exact cB hB 3 (z7 ++ [isT 62 h12, isT 67 h13, isT 74 h14])
            · exact cB hB 3 (z3 ++ [isF 37 h4, isT 47 h5, yes 53 h10])
        · let z8 : EvL A := z3 ++ [isT 37 h4, hD 47 pi pb e (by omega) (by omega)]
          cases h15 : (hasP pi pb e)
          · let z9 : EvL A := z8 ++ [isF 51 h15]
            cases h16 : (k == 2)
            · let z10 : EvL A := z9 ++ [isF 55 h16, mD 64 sa sb (by omega)]
              cases h17 : (mayP sa sb)
              · exact cB hB 3 (z10 ++ [isF 65 h17])
              · let z11 : EvL A := z10 ++ [isT 65 h17, mD 68 da db (by omega)]
                cases h18 : (mayP da db)
                · exact cB hB 3 (z11 ++ [isF 70 h18])
                · cases h19 : (decide (f ≥ 1))
                  · exact cB hB 3 (z11 ++ [isT 70 h18, isF 75 h19])
                  · cases h20 : (decide (f ≤ t))
                    · exact cB hB 3 (z11 ++ [isT 70 h18, isT 75 h19, isF 82 h20])
                    · exact cB hB 3 (z11 ++ [isT 70 h18, isT 75 h19, isT 82 h20])
            · cases h21 : (e != 0)
              · let z12 : EvL A := z9 ++ [isT 55 h16, no 61 h21, mD 64 sa sb (by omega)]
                cases h22 : (mayP sa sb)
                · exact cB hB 3 (z12 ++ [isF 65 h22])
                · let z13 : EvL A := z12 ++ [isT 65 h22, mD 68 da db (by omega)]
                  cases h23 : (mayP da db)
                  · exact cB hB 3 (z13 ++ [isF 70 h23])
                  · cases h24 : (decide (f ≥ 1))
                    · exact cB hB 3 (z13 ++ [isT 70 h23, isF 75 h24])
                    · cases h25 : (decide (f ≤ t))
                      · exact cB hB 3 (z13 ++ [isT 70 h23, isT 75 h24, isF 82 h25])
                      · exact cB hB 3 (z13 ++ [isT 70 h23, isT 75 h24, isT 82 h25])
              · exact cB hB 3 (z9 ++ [isT 55 h16, yes 61 h21])
          · exact cB hB 3 (z8 ++ [isT 51 h15])
      · let z14 : EvL A := z2 ++ [isT 18 h3]
        cases h26 : (p != 1)
        · let z15 : EvL A := z14 ++ [isF 23 h26]
          cases h27 : (k == 1)
          · let z16 : EvL A := z15 ++ [isF 37 h27]
            cases h28 : (k == 2)
            · let z17 : EvL A := z16 ++ [isF 47 h28, mD 56 sa sb (by omega)]
              cases h29 : (mayP sa sb)
              · exact cB hB 3 (z17 ++ [isF 57 h29])
              · let z18 : EvL A := z17 ++ [isT 57 h29, mD 60 da db (by omega)]
                cases h30 : (mayP da db)
                · exact cB hB 3 (z18 ++ [isF 62 h30])
                · cases h31 : (decide (f ≥ 1))
                  · exact cB hB 3 (z18 ++ [isT 62 h30, isF 67 h31])
                  · cases h32 : (decide (f ≤ t))
                    · exact cB hB 3 (z18 ++ [isT 62 h30, isT 67 h31, isF 74 h32])
                    · exact cB hB 3 (z18 ++ [isT 62 h30, isT 67 h31, isT 74 h32])
            · cases h33 : (e != 0)
              · let z19 : EvL A := z16 ++ [isT 47 h28, no 53 h33, mD 56 sa sb (by omega)]
                cases h34 : (mayP sa sb)
                · exact cB hB 3 (z19 ++ [isF 57 h34])
                · let z20 : EvL A := z19 ++ [isT 57 h34, mD 60 da db (by omega)]
                  cases h35 : (mayP da db)
                  · exact cB hB 3 (z20 ++ [isF 62 h35])
                  · cases h36 : (decide (f ≥ 1))
                    · exact cB hB 3 (z20 ++ [isT 62 h35, isF 67 h36])
                    · cases h37 : (decide (f ≤ t))
                      · exact cB hB 3 (z20 ++ [isT 62 h35, isT 67 h36, isF 74 h37])
                      · exact cB hB 3 (z20 ++ [isT 62 h35, isT 67 h36, isT 74 h37])
              · exact cB hB 3 (z16 ++ [isT 47 h28, yes 53 h33])
          · let z21 : EvL A := z15 ++ [isT 37 h27, hD 47 pi pb e (by omega) (by omega)]
            cases h38 : (hasP pi pb e)
            · let z22 : EvL A := z21 ++ [isF 51 h38]
              cases h39 : (k == 2)
              · let z23 : EvL A := z22 ++ [isF 55 h39, mD 64 sa sb (by omega)]
                cases h40 : (mayP sa sb)
                · exact cB hB 3 (z23 ++ [isF 65 h40])
                · let z24 : EvL A := z23 ++ [isT 65 h40, mD 68 da db (by omega)]
                  cases h41 : (mayP da db)
                  · exact cB hB 3 (z24 ++ [isF 70 h41])
                  · cases h42 : (decide (f ≥ 1))
                    · exact cB hB 3 (z24 ++ [isT 70 h41, isF 75 h42])
                    · cases h43 : (decide (f ≤ t))
                      · exact cB hB 3 (z24 ++ [isT 70 h41, isT 75 h42, isF 82 h43])
                      · exact cB hB 3 (z24 ++ [isT 70 h41, isT 75 h42, isT 82 h43])
              · cases h44 : (e != 0)
                · let z25 : EvL A := z22 ++ [isT 55 h39, no 61 h44, mD 64 sa sb (by omega)]
                  cases h45 : (mayP sa sb)
                  · exact cB hB 3 (z25 ++ [isF 65 h45])
                  · let z26 : EvL A := z25 ++ [isT 65 h45, mD 68 da db (by omega)]
                    cases h46 : (mayP da db)
                    · exact cB hB 3 (z26 ++ [isF 70 h46])
                    · cases h47 : (decide (f ≥ 1))
                      · exact cB hB 3 (z26 ++ [isT 70 h46, isF 75 h47])
                      · cases h48 : (decide (f ≤ t))
                        · exact cB hB 3 (z26 ++ [isT 70 h46, isT 75 h47, isF 82 h48])
                        · exact cB hB 3 (z26 ++ [isT 70 h46, isT 75 h47, isT 82 h48])
                · exact cB hB 3 (z22 ++ [isT 55 h39, yes 61 h44])
            · exact cB hB 3 (z21 ++ [isT 51 h38])
        · let z27 : EvL A := z14 ++ [isT 23 h26]
          cases h49 : (p != 6)
          · let z28 : EvL A := z27 ++ [isF 28 h49]
            cases h50 : (k == 1)
            · let z29 : EvL A := z28 ++ [isF 37 h50]
              cases h51 : (k == 2)
              · let z30 : EvL A := z29 ++ [isF 47 h51, mD 56 sa sb (by omega)]
                cases h52 : (mayP sa sb)
                · exact cB hB 3 (z30 ++ [isF 57 h52])
                · let z31 : EvL A := z30 ++ [isT 57 h52, mD 60 da db (by omega)]
                  cases h53 : (mayP da db)
                  · exact cB hB 3 (z31 ++ [isF 62 h53])
                  · cases h54 : (decide (f ≥ 1))
                    · exact cB hB 3 (z31 ++ [isT 62 h53, isF 67 h54])
                    · cases h55 : (decide (f ≤ t))
                      · exact cB hB 3 (z31 ++ [isT 62 h53, isT 67 h54, isF 74 h55])
                      · exact cB hB 3 (z31 ++ [isT 62 h53, isT 67 h54, isT 74 h55])
              · cases h56 : (e != 0)
                · let z32 : EvL A := z29 ++ [isT 47 h51, no 53 h56, mD 56 sa sb (by omega)]
                  cases h57 : (mayP sa sb)
                  · exact cB hB 3 (z32 ++ [isF 57 h57])
                  · let z33 : EvL A := z32 ++ [isT 57 h57, mD 60 da db (by omega)]
                    cases h58 : (mayP da db)
                    · exact cB hB 3 (z33 ++ [isF 62 h58])
                    · cases h59 : (decide (f ≥ 1))
                      · exact cB hB 3 (z33 ++ [isT 62 h58, isF 67 h59])
                      · cases h60 : (decide (f ≤ t))
                        · exact cB hB 3 (z33 ++ [isT 62 h58, isT 67 h59, isF 74 h60])
                        · exact cB hB 3 (z33 ++ [isT 62 h58, isT 67 h59, isT 74 h60])
                · exact cB hB 3 (z29 ++ [isT 47 h51, yes 53 h56])
            · let z34 : EvL A := z28 ++ [isT 37 h50, hD 47 pi pb e (by omega) (by omega)]
              cases h61 : (hasP pi pb e)
              · let z35 : EvL A := z34 ++ [isF 51 h61]
                cases h62 : (k == 2)
                · let z36 : EvL A := z35 ++ [isF 55 h62, mD 64 sa sb (by omega)]
                  cases h63 : (mayP sa sb)
                  · exact cB hB 3 (z36 ++ [isF 65 h63])
                  · let z37 : EvL A := z36 ++ [isT 65 h63, mD 68 da db (by omega)]
                    cases h64 : (mayP da db)
                    · exact cB hB 3 (z37 ++ [isF 70 h64])
                    · cases h65 : (decide (f ≥ 1))
                      · exact cB hB 3 (z37 ++ [isT 70 h64, isF 75 h65])
                      · cases h66 : (decide (f ≤ t))
                        · exact cB hB 3 (z37 ++ [isT 70 h64, isT 75 h65, isF 82 h66])
                        · exact cB hB 3 (z37 ++ [isT 70 h64, isT 75 h65, isT 82 h66])
                · cases h67 : (e != 0)
                  · let z38 : EvL A := z35 ++ [isT 55 h62, no 61 h67, mD 64 sa sb (by omega)]
                    cases h68 : (mayP sa sb)
                    · exact cB hB 3 (z38 ++ [isF 65 h68])
                    · let z39 : EvL A := z38 ++ [isT 65 h68, mD 68 da db (by omega)]
                      cases h69 : (mayP da db)
                      · exact cB hB 3 (z39 ++ [isF 70 h69])
                      · cases h70 : (decide (f ≥ 1))
                        · exact cB hB 3 (z39 ++ [isT 70 h69, isF 75 h70])
                        · cases h71 : (decide (f ≤ t))
                          · exact cB hB 3 (z39 ++ [isT 70 h69, isT 75 h70, isF 82 h71])
                          · exact cB hB 3 (z39 ++ [isT 70 h69, isT 75 h70, isT 82 h71])
                  · exact cB hB 3 (z35 ++ [isT 55 h62, yes 61 h67])
              · exact cB hB 3 (z34 ++ [isT 51 h61])
          · let z40 : EvL A := z27 ++ [isT 28 h49]
            cases h72 : (p != 17)
            · let z41 : EvL A := z40 ++ [no 33 h72]
              cases h73 : (k == 1)
              · let z42 : EvL A := z41 ++ [isF 37 h73]
                cases h74 : (k == 2)
                · let z43 : EvL A := z42 ++ [isF 47 h74, mD 56 sa sb (by omega)]
                  cases h75 : (mayP sa sb)
                  · exact cB hB 3 (z43 ++ [isF 57 h75])
                  · let z44 : EvL A := z43 ++ [isT 57 h75, mD 60 da db (by omega)]
                    cases h76 : (mayP da db)
                    · exact cB hB 3 (z44 ++ [isF 62 h76])
                    · cases h77 : (decide (f ≥ 1))
                      · exact cB hB 3 (z44 ++ [isT 62 h76, isF 67 h77])
                      · cases h78 : (decide (f ≤ t))
                        · exact cB hB 3 (z44 ++ [isT 62 h76, isT 67 h77, isF 74 h78])
                        · exact cB hB 3 (z44 ++ [isT 62 h76, isT 67 h77, isT 74 h78])
                · cases h79 : (e != 0)
                  · let z45 : EvL A := z42 ++ [isT 47 h74, no 53 h79, mD 56 sa sb (by omega)]
                    cases h80 : (mayP sa sb)
                    · exact cB hB 3 (z45 ++ [isF 57 h80])
                    · let z46 : EvL A := z45 ++ [isT 57 h80, mD 60 da db (by omega)]
                      cases h81 : (mayP da db)
                      · exact cB hB 3 (z46 ++ [isF 62 h81])
                      · cases h82 : (decide (f ≥ 1))
                        · exact cB hB 3 (z46 ++ [isT 62 h81, isF 67 h82])
                        · cases h83 : (decide (f ≤ t))
                          · exact cB hB 3 (z46 ++ [isT 62 h81, isT 67 h82, isF 74 h83])
                          · exact cB hB 3 (z46 ++ [isT 62 h81, isT 67 h82, isT 74 h83])
                  · exact cB hB 3 (z42 ++ [isT 47 h74, yes 53 h79])
              · let z47 : EvL A := z41 ++ [isT 37 h73, hD 47 pi pb e (by omega) (by omega)]
                cases h84 : (hasP pi pb e)
                · let z48 : EvL A := z47 ++ [isF 51 h84]
                  cases h85 : (k == 2)
                  · let z49 : EvL A := z48 ++ [isF 55 h85, mD 64 sa sb (by omega)]
                    cases h86 : (mayP sa sb)
                    · exact cB hB 3 (z49 ++ [isF 65 h86])
                    · let z50 : EvL A := z49 ++ [isT 65 h86, mD 68 da db (by omega)]
                      cases h87 : (mayP da db)
                      · exact cB hB 3 (z50 ++ [isF 70 h87])
                      · cases h88 : (decide (f ≥ 1))
                        · exact cB hB 3 (z50 ++ [isT 70 h87, isF 75 h88])
                        · cases h89 : (decide (f ≤ t))
                          · exact cB hB 3 (z50 ++ [isT 70 h87, isT 75 h88, isF 82 h89])
                          · exact cB hB 3 (z50 ++ [isT 70 h87, isT 75 h88, isT 82 h89])
                  · cases h90 : (e != 0)
                    · let z51 : EvL A := z48 ++ [isT 55 h85, no 61 h90, mD 64 sa sb (by omega)]
                      cases h91 : (mayP sa sb)
                      · exact cB hB 3 (z51 ++ [isF 65 h91])
                      · let z52 : EvL A := z51 ++ [isT 65 h91, mD 68 da db (by omega)]
                        cases h92 : (mayP da db)
                        · exact cB hB 3 (z52 ++ [isF 70 h92])
                        · cases h93 : (decide (f ≥ 1))
                          · exact cB hB 3 (z52 ++ [isT 70 h92, isF 75 h93])
                          · cases h94 : (decide (f ≤ t))
                            · exact cB hB 3 (z52 ++ [isT 70 h92, isT 75 h93, isF 82 h94])
                            · exact cB hB 3 (z52 ++ [isT 70 h92, isT 75 h93, isT 82 h94])
                    · exact cB hB 3 (z48 ++ [isT 55 h85, yes 61 h90])
                · exact cB hB 3 (z47 ++ [isT 51 h84])
            · exact cB hB 3 (z40 ++ [yes 33 h72])
    · let z53 : EvL A := z1 ++ [isT 9 h2]
      cases h95 : (k != 2)
      · let z54 : EvL A := z53 ++ [no 14 h95]
        cases h96 : (p != 0)
        · let z55 : EvL A := z54 ++ [isF 18 h96]
          cases h97 : (k == 1)
          · let z56 : EvL A := z55 ++ [isF 37 h97]
            cases h98 : (k == 2)
            · let z57 : EvL A := z56 ++ [isF 47 h98, mD 56 sa sb (by omega)]
              cases h99 : (mayP sa sb)
              · exact cB hB 3 (z57 ++ [isF 57 h99])
              · let z58 : EvL A := z57 ++ [isT 57 h99, mD 60 da db (by omega)]
                cases h100 : (mayP da db)
                · exact cB hB 3 (z58 ++ [isF 62 h100])
                · cases h101 : (decide (f ≥ 1))
                  · exact cB hB 3 (z58 ++ [isT 62 h100, isF 67 h101])
                  · cases h102 : (decide (f ≤ t))
                    · exact cB hB 3 (z58 ++ [isT 62 h100, isT 67 h101, isF 74 h102])
                    · exact cB hB 3 (z58 ++ [isT 62 h100, isT 67 h101, isT 74 h102])
            · cases h103 : (e != 0)
              · let z59 : EvL A := z56 ++ [isT 47 h98, no 53 h103, mD 56 sa sb (by omega)]
                cases h104 : (mayP sa sb)
                · exact cB hB 3 (z59 ++ [isF 57 h104])
                · let z60 : EvL A := z59 ++ [isT 57 h104, mD 60 da db (by omega)]
                  cases h105 : (mayP da db)
                  · exact cB hB 3 (z60 ++ [isF 62 h105])
                  · cases h106 : (decide (f ≥ 1))
                    · exact cB hB 3 (z60 ++ [isT 62 h105, isF 67 h106])
                    · cases h107 : (decide (f ≤ t))
                      · exact cB hB 3 (z60 ++ [isT 62 h105, isT 67 h106, isF 74 h107])
                      · exact cB hB 3 (z60 ++ [isT 62 h105, isT 67 h106, isT 74 h107])
              · exact cB hB 3 (z56 ++ [isT 47 h98, yes 53 h103])
          · let z61 : EvL A := z55 ++ [isT 37 h97, hD 47 pi pb e (by omega) (by omega)]
            cases h108 : (hasP pi pb e)
            · let z62 : EvL A := z61 ++ [isF 51 h108]
              cases h109 : (k == 2)
              · let z63 : EvL A := z62 ++ [isF 55 h109, mD 64 sa sb (by omega)]
                cases h110 : (mayP sa sb)
                · exact cB hB 3 (z63 ++ [isF 65 h110])
                · let z64 : EvL A := z63 ++ [isT 65 h110, mD 68 da db (by omega)]
                  cases h111 : (mayP da db)
                  · exact cB hB 3 (z64 ++ [isF 70 h111])
                  · cases h112 : (decide (f ≥ 1))
                    · exact cB hB 3 (z64 ++ [isT 70 h111, isF 75 h112])
                    · cases h113 : (decide (f ≤ t))
                      · exact cB hB 3 (z64 ++ [isT 70 h111, isT 75 h112, isF 82 h113])
                      · exact cB hB 3 (z64 ++ [isT 70 h111, isT 75 h112, isT 82 h113])
              · cases h114 : (e != 0)
                · let z65 : EvL A := z62 ++ [isT 55 h109, no 61 h114, mD 64 sa sb (by omega)]
                  cases h115 : (mayP sa sb)
                  · exact cB hB 3 (z65 ++ [isF 65 h115])
                  · let z66 : EvL A := z65 ++ [isT 65 h115, mD 68 da db (by omega)]
                    cases h116 : (mayP da db)
                    · exact cB hB 3 (z66 ++ [isF 70 h116])
                    · cases h117 : (decide (f ≥ 1))
                      · exact cB hB 3 (z66 ++ [isT 70 h116, isF 75 h117])
                      · cases h118 : (decide (f ≤ t))
                        · exact cB hB 3 (z66 ++ [isT 70 h116, isT 75 h117, isF 82 h118])
                        · exact cB hB 3 (z66 ++ [isT 70 h116, isT 75 h117, isT 82 h118])
                · exact cB hB 3 (z62 ++ [isT 55 h109, yes 61 h114])
            · exact cB hB 3 (z61 ++ [isT 51 h108])
        · let z67 : EvL A := z54 ++ [isT 18 h96]
          cases h119 : (p != 1)
          · let z68 : EvL A := z67 ++ [isF 23 h119]
            cases h120 : (k == 1)
            · let z69 : EvL A := z68 ++ [isF 37 h120]
              cases h121 : (k == 2)
              · let z70 : EvL A := z69 ++ [isF 47 h121, mD 56 sa sb (by omega)]
                cases h122 : (mayP sa sb)
                · exact cB hB 3 (z70 ++ [isF 57 h122])
                · let z71 : EvL A := z70 ++ [isT 57 h122, mD 60 da db (by omega)]
                  cases h123 : (mayP da db)
                  · exact cB hB 3 (z71 ++ [isF 62 h123])
                  · cases h124 : (decide (f ≥ 1))
                    · exact cB hB 3 (z71 ++ [isT 62 h123, isF 67 h124])
                    · cases h125 : (decide (f ≤ t))
                      · exact cB hB 3 (z71 ++ [isT 62 h123, isT 67 h124, isF 74 h125])
                      · exact cB hB 3 (z71 ++ [isT 62 h123, isT 67 h124, isT 74 h125])
              · cases h126 : (e != 0)
                · let z72 : EvL A := z69 ++ [isT 47 h121, no 53 h126, mD 56 sa sb (by omega)]
                  cases h127 : (mayP sa sb)
                  · exact cB hB 3 (z72 ++ [isF 57 h127])
                  · let z73 : EvL A := z72 ++ [isT 57 h127, mD 60 da db (by omega)]
                    cases h128 : (mayP da db)
                    · exact cB hB 3 (z73 ++ [isF 62 h128])
                    · cases h129 : (decide (f ≥ 1))
                      · exact cB hB 3 (z73 ++ [isT 62 h128, isF 67 h129])
                      · cases h130 : (decide (f ≤ t))
                        · exact cB hB 3 (z73 ++ [isT 62 h128, isT 67 h129, isF 74 h130])
                        · exact cB hB 3 (z73 ++ [isT 62 h128, isT 67 h129, isT 74 h130])
                · exact cB hB 3 (z69 ++ [isT 47 h121, yes 53 h126])
            · let z74 : EvL A := z68 ++ [isT 37 h120, hD 47 pi pb e (by omega) (by omega)]
              cases h131 : (hasP pi pb e)
              · let z75 : EvL A := z74 ++ [isF 51 h131]
                cases h132 : (k == 2)
                · let z76 : EvL A := z75 ++ [isF 55 h132, mD 64 sa sb (by omega)]
                  cases h133 : (mayP sa sb)
                  · exact cB hB 3 (z76 ++ [isF 65 h133])
                  · let z77 : EvL A := z76 ++ [isT 65 h133, mD 68 da db (by omega)]
                    cases h134 : (mayP da db)
                    · exact cB hB 3 (z77 ++ [isF 70 h134])
                    · cases h135 : (decide (f ≥ 1))
                      · exact cB hB 3 (z77 ++ [isT 70 h134, isF 75 h135])
                      · cases h136 : (decide (f ≤ t))
                        · exact cB hB 3 (z77 ++ [isT 70 h134, isT 75 h135, isF 82 h136])
                        · exact cB hB 3 (z77 ++ [isT 70 h134, isT 75 h135, isT 82 h136])
                · cases h137 : (e != 0)
                  · let z78 : EvL A := z75 ++ [isT 55 h132, no 61 h137, mD 64 sa sb (by omega)]
                    cases h138 : (mayP sa sb)
                    · exact cB hB 3 (z78 ++ [isF 65 h138])
                    · let z79 : EvL A := z78 ++ [isT 65 h138, mD 68 da db (by omega)]
                      cases h139 : (mayP da db)
                      · exact cB hB 3 (z79 ++ [isF 70 h139])
                      · cases h140 : (decide (f ≥ 1))
                        · exact cB hB 3 (z79 ++ [isT 70 h139, isF 75 h140])
                        · cases h141 : (decide (f ≤ t))
                          · exact cB hB 3 (z79 ++ [isT 70 h139, isT 75 h140, isF 82 h141])
                          · exact cB hB 3 (z79 ++ [isT 70 h139, isT 75 h140, isT 82 h141])
                  · exact cB hB 3 (z75 ++ [isT 55 h132, yes 61 h137])
              · exact cB hB 3 (z74 ++ [isT 51 h131])
          · let z80 : EvL A := z67 ++ [isT 23 h119]
            cases h142 : (p != 6)
            · let z81 : EvL A := z80 ++ [isF 28 h142]
              cases h143 : (k == 1)
              · let z82 : EvL A := z81 ++ [isF 37 h143]
                cases h144 : (k == 2)
                · let z83 : EvL A := z82 ++ [isF 47 h144, mD 56 sa sb (by omega)]
                  cases h145 : (mayP sa sb)
                  · exact cB hB 3 (z83 ++ [isF 57 h145])
                  · let z84 : EvL A := z83 ++ [isT 57 h145, mD 60 da db (by omega)]
                    cases h146 : (mayP da db)
                    · exact cB hB 3 (z84 ++ [isF 62 h146])
                    · cases h147 : (decide (f ≥ 1))
                      · exact cB hB 3 (z84 ++ [isT 62 h146, isF 67 h147])
                      · cases h148 : (decide (f ≤ t))
                        · exact cB hB 3 (z84 ++ [isT 62 h146, isT 67 h147, isF 74 h148])
                        · exact cB hB 3 (z84 ++ [isT 62 h146, isT 67 h147, isT 74 h148])
                · cases h149 : (e != 0)
                  · let z85 : EvL A := z82 ++ [isT 47 h144, no 53 h149, mD 56 sa sb (by omega)]
                    cases h150 : (mayP sa sb)
                    · exact cB hB 3 (z85 ++ [isF 57 h150])
                    · let z86 : EvL A := z85 ++ [isT 57 h150, mD 60 da db (by omega)]
                      cases h151 : (mayP da db)
                      · exact cB hB 3 (z86 ++ [isF 62 h151])
                      · cases h152 : (decide (f ≥ 1))
                        · exact cB hB 3 (z86 ++ [isT 62 h151, isF 67 h152])
                        · cases h153 : (decide (f ≤ t))
                          · exact cB hB 3 (z86 ++ [isT 62 h151, isT 67 h152, isF 74 h153])
                          · exact cB hB 3 (z86 ++ [isT 62 h151, isT 67 h152, isT 74 h153])
                  · exact cB hB 3 (z82 ++ [isT 47 h144, yes 53 h149])
              · let z87 : EvL A := z81 ++ [isT 37 h143, hD 47 pi pb e (by omega) (by omega)]
                cases h154 : (hasP pi pb e)
                · let z88 : EvL A := z87 ++ [isF 51 h154]
                  cases h155 : (k == 2)
                  · let z89 : EvL A := z88 ++ [isF 55 h155, mD 64 sa sb (by omega)]
                    cases h156 : (mayP sa sb)
                    · exact cB hB 3 (z89 ++ [isF 65 h156])
                    · let z90 : EvL A := z89 ++ [isT 65 h156, mD 68 da db (by omega)]
                      cases h157 : (mayP da db)
                      · exact cB hB 3 (z90 ++ [isF 70 h157])
                      · cases h158 : (decide (f ≥ 1))
                        · exact cB hB 3 (z90 ++ [isT 70 h157, isF 75 h158])
                        · cases h159 : (decide (f ≤ t))
                          · exact cB hB 3 (z90 ++ [isT 70 h157, isT 75 h158, isF 82 h159])
                          · exact cB hB 3 (z90 ++ [isT 70 h157, isT 75 h158, isT 82 h159])
                  · cases h160 : (e != 0)
                    · let z91 : EvL A := z88 ++ [isT 55 h155, no 61 h160, mD 64 sa sb (by omega)]
                      cases h161 : (mayP sa sb)
                      · exact cB hB 3 (z91 ++ [isF 65 h161])
                      · let z92 : EvL A := z91 ++ [isT 65 h161, mD 68 da db (by omega)]
                        cases h162 : (mayP da db)
                        · exact cB hB 3 (z92 ++ [isF 70 h162])
                        · cases h163 : (decide (f ≥ 1))
                          · exact cB hB 3 (z92 ++ [isT 70 h162, isF 75 h163])
                          · cases h164 : (decide (f ≤ t))
                            · exact cB hB 3 (z92 ++ [isT 70 h162, isT 75 h163, isF 82 h164])
                            · exact cB hB 3 (z92 ++ [isT 70 h162, isT 75 h163, isT 82 h164])
                    · exact cB hB 3 (z88 ++ [isT 55 h155, yes 61 h160])
                · exact cB hB 3 (z87 ++ [isT 51 h154])
            · let z93 : EvL A := z80 ++ [isT 28 h142]
              cases h165 : (p != 17)
              · let z94 : EvL A := z93 ++ [no 33 h165]
                cases h166 : (k == 1)
                · let z95 : EvL A := z94 ++ [isF 37 h166]
                  cases h167 : (k == 2)
                  · let z96 : EvL A := z95 ++ [isF 47 h167, mD 56 sa sb (by omega)]
                    cases h168 : (mayP sa sb)
                    · exact cB hB 3 (z96 ++ [isF 57 h168])
                    · let z97 : EvL A := z96 ++ [isT 57 h168, mD 60 da db (by omega)]
                      cases h169 : (mayP da db)
                      · exact cB hB 3 (z97 ++ [isF 62 h169])
                      · cases h170 : (decide (f ≥ 1))
                        · exact cB hB 3 (z97 ++ [isT 62 h169, isF 67 h170])
                        · cases h171 : (decide (f ≤ t))
                          · exact cB hB 3 (z97 ++ [isT 62 h169, isT 67 h170, isF 74 h171])
                          · exact cB hB 3 (z97 ++ [isT 62 h169, isT 67 h170, isT 74 h171])
                  · cases h172 : (e != 0)
                    · let z98 : EvL A := z95 ++ [isT 47 h167, no 53 h172, mD 56 sa sb (by omega)]
                      cases h173 : (mayP sa sb)
                      · exact cB hB 3 (z98 ++ [isF 57 h173])
                      · let z99 : EvL A := z98 ++ [isT 57 h173, mD 60 da db (by omega)]
                        cases h174 : (mayP da db)
                        · exact cB hB 3 (z99 ++ [isF 62 h174])
                        · cases h175 : (decide (f ≥ 1))
                          · exact cB hB 3 (z99 ++ [isT 62 h174, isF 67 h175])
                          · cases h176 : (decide (f ≤ t))
                            · exact cB hB 3 (z99 ++ [isT 62 h174, isT 67 h175, isF 74 h176])
                            · exact cB hB 3 (z99 ++ [isT 62 h174, isT 67 h175, isT 74 h176])
                    · exact cB hB 3 (z95 ++ [isT 47 h167, yes 53 h172])
                · let z100 : EvL A := z94 ++ [isT 37 h166, hD 47 pi pb e (by omega) (by omega)]
                  cases h177 : (hasP pi pb e)
                  · let z101 : EvL A := z100 ++ [isF 51 h177]
                    cases h178 : (k == 2)
                    · let z102 : EvL A := z101 ++ [isF 55 h178, mD 64 sa sb (by omega)]
                      cases h179 : (mayP sa sb)
                      · exact cB hB 3 (z102 ++ [isF 65 h179])
                      · let z103 : EvL A := z102 ++ [isT 65 h179, mD 68 da db (by omega)]
                        cases h180 : (mayP da db)
                        · exact cB hB 3 (z103 ++ [isF 70 h180])
                        · cases h181 : (decide (f ≥ 1))
                          · exact cB hB 3 (z103 ++ [isT 70 h180, isF 75 h181])
                          · cases h182 : (decide (f ≤ t))
                            · exact cB hB 3 (z103 ++ [isT 70 h180, isT 75 h181, isF 82 h182])
                            · exact cB hB 3 (z103 ++ [isT 70 h180, isT 75 h181, isT 82 h182])
                    · cases h183 : (e != 0)
                      · let z104 : EvL A := z101 ++ [isT 55 h178, no 61 h183, mD 64 sa sb (by omega)]
                        cases h184 : (mayP sa sb)
                        · exact cB hB 3 (z104 ++ [isF 65 h184])
                        · let z105 : EvL A := z104 ++ [isT 65 h184, mD 68 da db (by omega)]
                          cases h185 : (mayP da db)
                          · exact cB hB 3 (z105 ++ [isF 70 h185])
                          · cases h186 : (decide (f ≥ 1))
                            · exact cB hB 3 (z105 ++ [isT 70 h185, isF 75 h186])
                            · cases h187 : (decide (f ≤ t))
                              · exact cB hB 3 (z105 ++ [isT 70 h185, isT 75 h186, isF 82 h187])
                              · exact cB hB 3 (z105 ++ [isT 70 h185, isT 75 h186, isT 82 h187])
                      · exact cB hB 3 (z101 ++ [isT 55 h178, yes 61 h183])
                  · exact cB hB 3 (z100 ++ [isT 51 h177])
              · exact cB hB 3 (z93 ++ [yes 33 h165])
      · exact cB hB 3 (z53 ++ [yes 14 h95])
  · let z106 : EvL A := [yes 5 h1]
    cases h188 : (p == 6)
    · cases h189 : (p == 17)
      · exact cB hB 3 (z106 ++ [isF 9 h188, isF 14 h189])
      · let z107 : EvL A := z106 ++ [isF 9 h188, isT 14 h189]
        cases h190 : (sa == 0 && (sb == 0 && true))
        · exact cB hB 3 (z107 ++ [isF 20 h190])
        · cases h191 : (da == 0 && (db == 0 && true))
          · exact cB hB 3 (z107 ++ [isT 20 h190, isF 26 h191])
          · let z108 : EvL A := z107 ++ [isT 20 h190, isT 26 h191, hD 36 pi pb e (by omega) (by omega)]
            cases h192 : (hasP pi pb e)
            · cases h193 : (f != 0)
              · exact cB hB 3 (z108 ++ [nisT 41 h192, isF 46 h193])
              · cases h194 : (f == t)
                · exact cB hB 3 (z108 ++ [nisT 41 h192, isT 46 h193, isF 53 h194])
                · cases h195 : (hasP pi pb ia)
                  · exact cB hB 3 (z108 ++ [nisT 41 h192, isT 46 h193, isT 53 h194, hD 64 pi pb ia (by omega) (by omega), isF 68 h195])
                  · exact cB hB 3 (z108 ++ [nisT 41 h192, isT 46 h193, isT 53 h194, hD 64 pi pb ia (by omega) (by omega), isT 68 h195])
            · exact cB hB 3 (z108 ++ [nisF 41 h192])
    · cases h196 : (sa == 0 && (sb == 0 && true))
      · exact cB hB 3 (z106 ++ [isT 9 h188, isF 20 h196])
      · let z109 : EvL A := z106 ++ [isT 9 h188, isT 20 h196]
        cases h197 : (da == 0 && (db == 0 && true))
        · exact cB hB 3 (z109 ++ [isF 26 h197])
        · let z110 : EvL A := z109 ++ [isT 26 h197, hD 36 pi pb e (by omega) (by omega)]
          cases h198 : (hasP pi pb e)
          · cases h199 : (f != 0)
            · exact cB hB 3 (z110 ++ [nisT 41 h198, isF 46 h199])
            · cases h200 : (f == t)
              · exact cB hB 3 (z110 ++ [nisT 41 h198, isT 46 h199, isF 53 h200])
              · cases h201 : (hasP pi pb ia)
                · exact cB hB 3 (z110 ++ [nisT 41 h198, isT 46 h199, isT 53 h200, hD 64 pi pb ia (by omega) (by omega), isF 68 h201])
                · exact cB hB 3 (z110 ++ [nisT 41 h198, isT 46 h199, isT 53 h200, hD 64 pi pb ia (by omega) (by omega), isT 68 h201])
          · exact cB hB 3 (z110 ++ [nisF 41 h198])
def rd_Clash_v (o pi pb : Int) (v : Value) (k p sa sb da db e f t ia ip k2 p2 sa2 sb2 da2 db2 e2 f2 t2 ia2 ip2 : Int) : Value := (bif (k == 3) then (bif (k2 == 3) then (bif (p == p2) then (bif (e == e2) then (bif (f == f2) then (.bool true) else (.bool (ia == ia2 && (ip == ip2 && true)))) else (.bool (ia == ia2 && (ip == ip2 && true)))) else (.bool false)) else (bif (k != 3) then (.bool false) else (bif (p2 != 0) then (bif (p2 != p) then (.bool false) else (bif (k2 == 2) then (bif (o == e) then (bif (decide (f ≥ f2)) then (.bool (decide (f ≤ t2))) else (.bool false)) else (.bool false)) else (bif (e2 == e) then (bif (decide (f ≥ f2)) then (.bool (decide (f ≤ t2))) else (.bool false)) else (.bool false)))) else (bif (k2 == 2) then (bif (o == e) then (bif (decide (f ≥ f2)) then (.bool (decide (f ≤ t2))) else (.bool false)) else (.bool false)) else (bif (e2 == e) then (bif (decide (f ≥ f2)) then (.bool (decide (f ≤ t2))) else (.bool false)) else (.bool false)))))) else (bif (k2 == 3) then (bif (k2 != 3) then (.bool false) else (bif (p != 0) then (bif (p != p2) then (.bool false) else (bif (k == 2) then (bif (o == e2) then (bif (decide (f2 ≥ f)) then (.bool (decide (f2 ≤ t))) else (.bool false)) else (.bool false)) else (bif (e == e2) then (bif (decide (f2 ≥ f)) then (.bool (decide (f2 ≤ t))) else (.bool false)) else (.bool false)))) else (bif (k == 2) then (bif (o == e2) then (bif (decide (f2 ≥ f)) then (.bool (decide (f2 ≤ t))) else (.bool false)) else (.bool false)) else (bif (e == e2) then (bif (decide (f2 ≥ f)) then (.bool (decide (f2 ≤ t))) else (.bool false)) else (.bool false))))) else (bif (k != 3) then (.bool false) else (bif (p2 != 0) then (bif (p2 != p) then (.bool false) else (bif (k2 == 2) then (bif (o == e) then (bif (decide (f ≥ f2)) then (.bool (decide (f ≤ t2))) else (.bool false)) else (.bool false)) else (bif (e2 == e) then (bif (decide (f ≥ f2)) then (.bool (decide (f ≤ t2))) else (.bool false)) else (.bool false)))) else (bif (k2 == 2) then (bif (o == e) then (bif (decide (f ≥ f2)) then (.bool (decide (f ≤ t2))) else (.bool false)) else (.bool false)) else (bif (e2 == e) then (bif (decide (f ≥ f2)) then (.bool (decide (f ≤ t2))) else (.bool false)) else (.bool false)))))))
theorem rd_Clash {A : Rx.Amb} (o pi pb : Int) (v : Value) (k p sa sb da db e f t ia ip k2 p2 sa2 sb2 da2 db2 e2 f2 t2 ia2 ip2 : Int) (hv : inC 2 v = true) : CallJ Tryz.prog A 98 [.pointer (some ⟨0, 0, some 0⟩), .agg #[.int .i64 k, .int .u8 p, .int .u32 sa, .int .i64 sb, .int .u32 da, .int .i64 db, .int .u32 e, .int .u16 f, .int .u16 t, .int .u32 ia, .int .u16 ip], .agg #[.int .i64 k2, .int .u8 p2, .int .u32 sa2, .int .i64 sb2, .int .u32 da2, .int .i64 db2, .int .u32 e2, .int .u16 f2, .int .u16 t2, .int .u32 ia2, .int .u16 ip2]] [(0, ([.int .u32 o, .int .u32 pi, .int .i64 pb, v], 199, false))] 2 (rd_Clash_v o pi pb v k p sa sb da db e f t ia ip k2 p2 sa2 sb2 da2 db2 e2 f2 t2 ia2 ip2) [(0, ([.int .u32 o, .int .u32 pi, .int .i64 pb, v], 199, false))] 2 := by
  unfold rd_Clash_v
  have hB : inBlks 2 [(0, ([.int .u32 o, .int .u32 pi, .int .i64 pb, v], 199, false))] = true := by
    simp only [inBlks, List.all_cons, List.all_nil, hv]
    rfl
  cases h1 : (k == 3)
  · let z1 : EvL A := [isF 6 h1]
    cases h2 : (k2 == 3)
    · let z2 : EvL A := z1 ++ [no 15 h2]
      cases h3 : (k != 3)
      · let z3 : EvL A := z2 ++ [isF 19 h3]
        cases h4 : (p2 != 0)
        · cases h5 : (k2 == 2)
          · cases h6 : (e2 == e)
            · exact cB hB 5 (z3 ++ [isF 23 h4, no 39 h5, isF 47 h6])
            · cases h7 : (decide (f ≥ f2))
              · exact cB hB 5 (z3 ++ [isF 23 h4, no 39 h5, isT 47 h6, isF 54 h7])
              · exact cB hB 5 (z3 ++ [isF 23 h4, no 39 h5, isT 47 h6, isT 54 h7])
          · cases h8 : (o == e)
            · exact cB hB 5 (z3 ++ [isF 23 h4, yes 39 h5, isF 49 h8])
            · cases h9 : (decide (f ≥ f2))
              · exact cB hB 5 (z3 ++ [isF 23 h4, yes 39 h5, isT 49 h8, isF 56 h9])
              · exact cB hB 5 (z3 ++ [isF 23 h4, yes 39 h5, isT 49 h8, isT 56 h9])
        · cases h10 : (p2 != p)
          · cases h11 : (k2 == 2)
            · cases h12 : (e2 == e)
              · exact cB hB 5 (z3 ++ [isT 23 h4, no 31 h10, no 39 h11, isF 47 h12])
              · cases h13 : (decide (f ≥ f2))
                · exact cB hB 5 (z3 ++ [isT 23 h4, no 31 h10, no 39 h11, isT 47 h12, isF 54 h13])
                · exact cB hB 5 (z3 ++ [isT 23 h4, no 31 h10, no 39 h11, isT 47 h12, isT 54 h13])
            · cases h14 : (o == e)
              · exact cB hB 5 (z3 ++ [isT 23 h4, no 31 h10, yes 39 h11, isF 49 h14])
              · cases h15 : (decide (f ≥ f2))
                · exact cB hB 5 (z3 ++ [isT 23 h4, no 31 h10, yes 39 h11, isT 49 h14, isF 56 h15])
                · exact cB hB 5 (z3 ++ [isT 23 h4, no 31 h10, yes 39 h11, isT 49 h14, isT 56 h15])
          · exact cB hB 4 (z3 ++ [isT 23 h4, yes 31 h10])
      · exact cB hB 4 (z2 ++ [isT 19 h3])
    · let z4 : EvL A := z1 ++ [yes 15 h2]
      cases h16 : (k2 != 3)
      · let z5 : EvL A := z4 ++ [isF 23 h16]
        cases h17 : (p != 0)
        · cases h18 : (k == 2)
          · cases h19 : (e == e2)
            · exact cB hB 5 (z5 ++ [isF 27 h17, no 43 h18, isF 51 h19])
            · cases h20 : (decide (f2 ≥ f))
              · exact cB hB 5 (z5 ++ [isF 27 h17, no 43 h18, isT 51 h19, isF 58 h20])
              · exact cB hB 5 (z5 ++ [isF 27 h17, no 43 h18, isT 51 h19, isT 58 h20])
          · cases h21 : (o == e2)
            · exact cB hB 5 (z5 ++ [isF 27 h17, yes 43 h18, isF 53 h21])
            · cases h22 : (decide (f2 ≥ f))
              · exact cB hB 5 (z5 ++ [isF 27 h17, yes 43 h18, isT 53 h21, isF 60 h22])
              · exact cB hB 5 (z5 ++ [isF 27 h17, yes 43 h18, isT 53 h21, isT 60 h22])
        · cases h23 : (p != p2)
          · let z6 : EvL A := z5 ++ [isT 27 h17, no 35 h23]
            cases h24 : (k == 2)
            · cases h25 : (e == e2)
              · exact cB hB 5 (z6 ++ [no 43 h24, isF 51 h25])
              · cases h26 : (decide (f2 ≥ f))
                · exact cB hB 5 (z6 ++ [no 43 h24, isT 51 h25, isF 58 h26])
                · exact cB hB 5 (z6 ++ [no 43 h24, isT 51 h25, isT 58 h26])
            · cases h27 : (o == e2)
              · exact cB hB 5 (z6 ++ [yes 43 h24, isF 53 h27])
              · cases h28 : (decide (f2 ≥ f))
                · exact cB hB 5 (z6 ++ [yes 43 h24, isT 53 h27, isF 60 h28])
                · exact cB hB 5 (z6 ++ [yes 43 h24, isT 53 h27, isT 60 h28])
          · exact cB hB 4 (z5 ++ [isT 27 h17, yes 35 h23])
      · exact cB hB 4 (z4 ++ [isT 23 h16])
  · let z7 : EvL A := [isT 6 h1]
    cases h29 : (k2 == 3)
    · let z8 : EvL A := z7 ++ [no 11 h29, no 15 h29]
      cases h30 : (k != 3)
      · let z9 : EvL A := z8 ++ [isF 19 h30]
        cases h31 : (p2 != 0)
        · cases h32 : (k2 == 2)
          · cases h33 : (e2 == e)
            · exact cB hB 5 (z9 ++ [isF 23 h31, no 39 h32, isF 47 h33])
            · cases h34 : (decide (f ≥ f2))
              · exact cB hB 5 (z9 ++ [isF 23 h31, no 39 h32, isT 47 h33, isF 54 h34])
              · exact cB hB 5 (z9 ++ [isF 23 h31, no 39 h32, isT 47 h33, isT 54 h34])
          · cases h35 : (o == e)
            · exact cB hB 5 (z9 ++ [isF 23 h31, yes 39 h32, isF 49 h35])
            · cases h36 : (decide (f ≥ f2))
              · exact cB hB 5 (z9 ++ [isF 23 h31, yes 39 h32, isT 49 h35, isF 56 h36])
              · exact cB hB 5 (z9 ++ [isF 23 h31, yes 39 h32, isT 49 h35, isT 56 h36])
        · cases h37 : (p2 != p)
          · let z10 : EvL A := z9 ++ [isT 23 h31, no 31 h37]
            cases h38 : (k2 == 2)
            · cases h39 : (e2 == e)
              · exact cB hB 5 (z10 ++ [no 39 h38, isF 47 h39])
              · cases h40 : (decide (f ≥ f2))
                · exact cB hB 5 (z10 ++ [no 39 h38, isT 47 h39, isF 54 h40])
                · exact cB hB 5 (z10 ++ [no 39 h38, isT 47 h39, isT 54 h40])
            · cases h41 : (o == e)
              · exact cB hB 5 (z10 ++ [yes 39 h38, isF 49 h41])
              · cases h42 : (decide (f ≥ f2))
                · exact cB hB 5 (z10 ++ [yes 39 h38, isT 49 h41, isF 56 h42])
                · exact cB hB 5 (z10 ++ [yes 39 h38, isT 49 h41, isT 56 h42])
          · exact cB hB 4 (z9 ++ [isT 23 h31, yes 31 h37])
      · exact cB hB 4 (z8 ++ [isT 19 h30])
    · cases h43 : (p == p2)
      · exact cB hB 4 (z7 ++ [yes 11 h29, isF 17 h43])
      · cases h44 : (e == e2)
        · exact cB hB 4 (z7 ++ [yes 11 h29, isT 17 h43, isF 23 h44])
        · cases h45 : (f == f2)
          · exact cB hB 4 (z7 ++ [yes 11 h29, isT 17 h43, isT 23 h44, isF 30 h45])
          · exact cB hB 4 (z7 ++ [yes 11 h29, isT 17 h43, isT 23 h44, isT 30 h45])
end Go.Proofs.YtilfcikhipadpaaGreatDoor
end

section
/- the document's rules: what May and Clash tell (plain). -/
set_option linter.unusedVariables false
set_option linter.unusedSimpArgs false
namespace Go.Proofs.YtilfcikhipadpaaGreatDoor
open Go.RowKit Go.Lib Rx
def dcq3 (o : Int) (a b : Rule) : Bool := !(decide (b.p ≠ 0) && decide (b.p ≠ a.p)) && (decide ((whoR o b).e = a.e) && decide (b.f ≤ a.f) && decide (a.f ≤ b.t))
def dcq33 (a b : Rule) : Bool := decide (a.p = b.p) && ((decide (a.e = b.e) && decide (a.f = b.f)) || (decide (a.ia = b.ia) && decide (a.ip = b.ip)))
def dcq (o : Int) (a b : Rule) : Bool := if a.k = 3 then (if b.k = 3 then dcq33 a b else dcq3 o a b) else if b.k = 3 then dcq3 o b a else false
set_option maxHeartbeats 8000000 in
theorem dmay_val (o pi pb : Int) (v : Value) (r : Rule) (hr : r.Ok) : rd_May_v o pi pb v r.k r.p r.sa r.sb r.da r.db r.e r.f r.t r.ia r.ip = .bool (mayR pi pb r) := by
  obtain ⟨r1, r2, r3, r4, r5, r6, r7, r8⟩ := hr
  unfold rd_May_v mayR srOk stOk
  simp only [bool_ite, Value.bool.injEq]
  simp only [Bool.cond_eq_ite, bne_iff_ne, beq_iff_eq, Bool.and_true, decide_eq_true_eq, Bool.and_eq_true]
  obtain ⟨k, p, sa, sb, da, db, e, f, t, ia, ipp⟩ := r
  simp only at *
  have hk : k = 1 ∨ k = 2 ∨ k = 3 ∨ (k ≠ 1 ∧ k ≠ 2 ∧ k ≠ 3) := by omega
  have hp : p = 0 ∨ p = 1 ∨ p = 6 ∨ p = 17 ∨ (p ≠ 0 ∧ p ≠ 1 ∧ p ≠ 6 ∧ p ≠ 17) := by omega
  generalize mayP sa sb = m1
  generalize mayP da db = m2
  generalize hasP pi pb e = m3
  generalize hasP pi pb ia = m4
  rcases hk with rfl | rfl | rfl | ⟨a1, a2, a3⟩ <;> rcases hp with rfl | rfl | rfl | rfl | ⟨a4, a5, a6, a7⟩ <;> simp_all <;> grind (splits := 40)
set_option maxHeartbeats 8000000 in
theorem dclash_val (o pi pb : Int) (v : Value) (a b : Rule) : rd_Clash_v o pi pb v a.k a.p a.sa a.sb a.da a.db a.e a.f a.t a.ia a.ip b.k b.p b.sa b.sb b.da b.db b.e b.f b.t b.ia b.ip = .bool (dcq o a b) := by
  unfold rd_Clash_v dcq dcq33 dcq3 whoR
  simp only [bool_ite, Value.bool.injEq]
  simp only [Bool.cond_eq_ite, bne_iff_ne, beq_iff_eq, Bool.and_true, decide_eq_true_eq, Bool.and_eq_true]
  grind (splits := 40)
theorem dclash_is {ip b : Int} (o : Int) (a r : Rule) (ha : mayR ip b a = true) (hr : mayR ip b r = true) : dcq o a r = clq (whoR o a) (whoR o r) := by
  have t3 : ∀ x : Rule, mayR ip b x = true → x.k = 3 → x.t = x.f := fun x h hk => by
    unfold mayR stOk at h
    grind
  have ta := t3 a ha; have tr := t3 r hr
  clear t3 ha hr
  have wk : ∀ x : Rule, (whoR o x).k = x.k := fun x => by unfold whoR; split <;> rfl
  have wp : ∀ x : Rule, (whoR o x).p = x.p := fun x => by unfold whoR; split <;> rfl
  have wf : ∀ x : Rule, (whoR o x).f = x.f := fun x => by unfold whoR; split <;> rfl
  have wt : ∀ x : Rule, (whoR o x).t = x.t := fun x => by unfold whoR; split <;> rfl
  have w3 : ∀ x : Rule, x.k = 3 → whoR o x = x := fun x hx => by unfold whoR; rw [if_neg (by omega)]
  unfold dcq dcq33 dcq3 clq clq0
  by_cases h1 : a.k = 3 <;> by_cases h2 : r.k = 3
  · rw [w3 a h1, w3 r h2, if_pos h1, if_pos h2, if_pos h1]
    have t1 := ta h1; have t2 := tr h2
    rw [Bool.eq_iff_iff]
    simp only [h1, h2, decide_true, Bool.true_and, Bool.and_true, Bool.or_true, Bool.and_eq_true, Bool.or_eq_true, decide_eq_true_eq, Bool.not_eq_true', decide_eq_false_iff_not]
    omega
  · rw [w3 a h1, wk, wp, wf, wt]; grind
  · rw [w3 r h2, wk, wp, wf, wt]; grind
  · rw [wk, wk]; grind
end Go.Proofs.YtilfcikhipadpaaGreatDoor
end
