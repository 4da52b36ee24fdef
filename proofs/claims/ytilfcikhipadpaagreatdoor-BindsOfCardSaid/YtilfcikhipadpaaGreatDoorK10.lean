/- Several texts of this claim, one behind the other. -/
import Derived.Test.YtilfcikhipadpaaGreatDoorK9

section
/- rules: Add, by the executor: all its ends. -/
set_option linter.unusedVariables false
set_option linter.unusedSimpArgs false
namespace Go.Proofs.YtilfcikhipadpaaGreatDoor
open Go.RowKit Go.Lib Rx
variable {A : Amb} {rs : List Rule}
theorem find_cases (p : Rule → Bool) : ∀ rs : List Rule, (∃ k, ∃ hk : k < rs.length, (∀ j (hj : j < k), p (rs[j]'(by omega)) = false) ∧ p rs[k] = true ∧ rs.find? p = some rs[k] ∧ rs.any p = true) ∨ ((∀ r ∈ rs, p r = false) ∧ rs.find? p = none ∧ rs.any p = false)
  | [] => .inr ⟨(fun r h => by cases h), rfl, rfl⟩
  | x :: l => by
    cases hx : p x
    · rcases find_cases p l with ⟨k, hk, h1, h2, h3, h4⟩ | ⟨h1, h2, h3⟩
      · refine .inl ⟨k + 1, by simp; omega, fun j hj => ?_, by simpa using h2, by simp [hx, h3], by simp [hx]; simpa using h4⟩
        cases j with
        | zero => simpa using hx
        | succ j => simpa using h1 j (by omega)
      · refine .inr ⟨fun r hr => ?_, by simp [hx]; simpa using h2, by simp [hx]; simpa using h3⟩
        rcases List.mem_cons.1 hr with rfl | hr
        · exact hx
        · exact h1 r hr
    · exact .inl ⟨0, by simp, fun j hj => absurd hj (Nat.not_lt_zero j), by simpa using hx, by simp [hx], by simp [hx]⟩
@[reducible] def taM (o ip b : Int) (rs : List Rule) : List (Nat × Blk) := [(0, taB o ip b (.slice (some ⟨1, 0, some 0⟩) rs.length 0)), (1, ruB rs)]
theorem taM_in (o ip b : Int) (rs : List Rule) : inBlks 2 (taM o ip b rs) = true := by
  simp only [inBlks, List.all_cons, List.all_nil, all_flat (p := inC 2) (f := ruL) (fun _ => rfl)]
  rfl
theorem add_clash (o ip b : Int) (r : Rule) (hip : 0 ≤ ip ∧ ip ≤ 4294967295) (hr : r.Ok) (hc : mayR ip b r = true) (hl : ¬ 32 ≤ rs.length) (hx : (rs.any fun x => clq (whoR o x) (whoR o r)) = true) : CallJ Tryz.prog A 42 [ptr 0, .int .i64 (rs.length : Int), .agg (ruL r).toArray] (taM o ip b rs) 2 (.int .i64 11) (taM o ip b rs) 2 := by
  have h2 : chq ip b r = 0 := by unfold chq; rw [if_pos hc]
  have k := (chk_J (A := A) o ip b (.slice (some ⟨1, 0, some 0⟩) rs.length 0) r hip hr).up (n := 4)
  rw [h2] at k
  rcases find_cases (fun x => clq (whoR o x) (whoR o r)) rs with ⟨j, hj, q1, q2, _, _⟩ | ⟨_, _, q3⟩
  · exact (con (nx' := 4) [calls 5 4 0 k, no 22 (b := bif decide ((rs.length : Int) < 0) then true else decide ((rs.length : Int) > rs.length)) (by simp), no 30 (b := decide ((rs.length : Int) ≥ 32)) (by simp; omega),
      calls 39 4 0 (kx_at (n := 4) (kx_yes (c := 0) (p := fun x => clq (whoR o x) (whoR o r)) (g := 94) (by kernel_rfl) (fun x _ => adc_J o ip b rs.length 0 x r) (by omega) j hj q1 q2) [1, 2, 3, 0]), yes 44 (b := decide ((j : Int) ≥ 0)) (by simp)]).drop (h2 := taM_in o ip b rs) (h4 := taM_in o ip b rs)
  · rw [q3] at hx; cases hx
theorem add_yes (o ip b : Int) (r : Rule) (hip : 0 ≤ ip ∧ ip ≤ 4294967295) (hr : r.Ok) (hc : mayR ip b r = true) (hl : ¬ 32 ≤ rs.length) (hx : (rs.any fun x => clq (whoR o x) (whoR o r)) = false) : CallJ Tryz.prog A 42 [ptr 0, .int .i64 (rs.length : Int), .agg (ruL r).toArray] (taM o ip b rs) 2 (.int .i64 0) [(0, taB o ip b (.slice (some ⟨2, 0, some 0⟩) (rs ++ [r]).length 0)), (2, ruB (rs ++ [r]))] 3 := by
  have h2 : chq ip b r = 0 := by unfold chq; rw [if_pos hc]
  have k := (chk_J (A := A) o ip b (.slice (some ⟨1, 0, some 0⟩) rs.length 0) r hip hr).up (n := 4)
  rw [h2] at k
  rcases find_cases (fun x => clq (whoR o x) (whoR o r)) rs with ⟨j, hj, q1, q2, _, q3⟩ | ⟨q1, _, _⟩
  · rw [q3] at hx; cases hx
  have hL : (rs.flatMap ruL).length = rs.length * 11 := flat_len ruL_len rs
  have h := con (A := A) (P := Tryz.prog) (f := 42) (args := [ptr 0, .int .i64 (rs.length : Int), .agg (ruL r).toArray]) (sn := taM o ip b rs) (nx := 2) (v := .int .i64 0) (out := [(0, taB o ip b (.slice (some ⟨5, 0, some 0⟩) (rs.length + 1) 0)), (5, (rs.flatMap ruL ++ ruL r, 68, true))]) (nx' := 6)
    [calls 5 4 0 k, no 22 (b := bif decide ((rs.length : Int) < 0) then true else decide ((rs.length : Int) > rs.length)) (by simp), no 30 (b := decide ((rs.length : Int) ≥ 32)) (by simp; omega),
      calls 39 4 0 (kx_at (n := 4) (kx_no (c := 0) (p := fun x => clq (whoR o x) (whoR o r)) (g := 94) (by kernel_rfl) (fun x _ => adc_J o ip b rs.length 0 x r) (by omega) q1) [1, 2, 3, 0]), slE 56 5 (T := 115) (ty := 115) (e := 68) (s := 11) (id := 1) (k := rs.length) hL, yes 69 (b := (rs.length : Int) == (rs.length : Int)) (by simp),
      ap 72 5 (sT := 115) (xT := 115) (ty := 115) (e := 68) (e3 := 68) (s := 11) (id := 1) (j := 4) (m := rs.length) (k := 1) (q2 := 1) (c2 := 1) (e2 := 68) (r2 := true) (new := ruL r) hL rfl rfl ⟨by omega, by omega⟩ (by omega)]
  have hn : rs.length + 1 = (rs ++ [r]).length := by simp
  rw [flat_snoc, hn] at h
  have := h.re (d := 4) [5] (h4 := by
    simp only [liveB, List.all_cons, List.all_nil, all_flat (p := in0 (live [5] 2)) (f := ruL) (fun _ => rfl)]
    rfl) (h2 := taM_in o ip b rs)
  refine this.eq rfl ?_
  simp only [List.map_cons, List.map_nil, idB, flat_id (f := ruL) (fun _ => rfl)]
  rfl
/-! ### of a table without rules -/
@[reducible] def naM (o ip b : Int) : List (Nat × Blk) := [(0, taB o ip b (.slice none 0 0))]
theorem add0_no (o ip b : Int) (r : Rule) (hip : 0 ≤ ip ∧ ip ≤ 4294967295) (hr : r.Ok) (hc : ¬ mayR ip b r = true) : CallJ Tryz.prog A 42 [ptr 0, .int .i64 0, .agg (ruL r).toArray] (naM o ip b) 2 (.int .i64 2) (naM o ip b) 2 := by
  have k := (chk_J (A := A) o ip b (.slice none 0 0) r hip hr).up (n := 4)
  rw [show chq ip b r = 2 by unfold chq; rw [if_neg hc]] at k
  exact (con (nx' := 4) [calls 5 4 0 k]).drop
end Go.Proofs.YtilfcikhipadpaaGreatDoor
end

section
/- rules: what a table tells, by the executor. -/
set_option linter.unusedVariables false
set_option linter.unusedSimpArgs false
namespace Go.Proofs.YtilfcikhipadpaaGreatDoor
open Go.RowKit Go.Lib Rx
variable {A : Amb} {rs : List Rule} {M : List (Nat × Blk)} {o ip b : Int}
def zeR : Rule := ⟨0, 0, 0, 0, 0, 0, 0, 0, 0, 0, 0⟩
/-- the first rule that fits -/
def lkR (p : Rule → Bool) (rs : List Rule) : Rule := (rs.find? p).getD zeR
/-- a table in blocks -/
def IsTab (o ip b : Int) (rs : List Rule) (M : List (Nat × Blk)) : Prop := (rs = [] ∧ M = naM o ip b) ∨ M = taM o ip b rs
theorem IsTab.in_ (h : IsTab o ip b rs M) : inBlks 2 M = true := by
  rcases h with ⟨_, rfl⟩ | rfl
  · rfl
  · exact taM_in o ip b rs
theorem lk_yes {p : Rule → Bool} {k : Nat} {hk : k < rs.length} (h : rs.find? p = some rs[k]) : lkR p rs = rs[k] := by unfold lkR; rw [h]; rfl
theorem lk_no {p : Rule → Bool} (h : rs.find? p = none) : lkR p rs = zeR := by unfold lkR; rw [h]; rfl
theorem static_u (h : IsTab o ip b rs M) (hn : rs.length ≤ 1000) (q ei ep : Int) (n : Nat) (h2 : 2 ≤ n := by decide) : CallJ Tryz.prog A 19 [ptr 0, .int .u8 q, .agg #[.int .u32 ei, .int .u16 ep]] M n (.tuple #[.agg (ruL (lkR (fun r => stB r q ei ep) rs)).toArray, .bool (rs.any fun r => stB r q ei ep)]) M n := by
  refine CallJ.up ?_ h2 (h2 := h.in_)
  rcases h with ⟨rfl, rfl⟩ | rfl
  · exact (con (nx' := 6) []).drop
  · rcases find_cases (fun r => stB r q ei ep) rs with ⟨k, hk, q1, q2, q3, q4⟩ | ⟨q1, q3, q4⟩
    · rw [lk_yes q3, q4]
      exact (st_yes (c := 0) q ei ep o ip b hn k hk q1 q2).drop (h2 := taM_in o ip b rs) (h4 := taM_in o ip b rs)
    · rw [lk_no q3, q4]
      exact (st_no (c := 0) q ei ep o ip b hn q1).drop (h2 := taM_in o ip b rs) (h4 := taM_in o ip b rs)
theorem own_u (h : IsTab o ip b rs M) (hn : rs.length ≤ 1000) (q ei ep : Int) (n : Nat) (h2 : 2 ≤ n := by decide) : CallJ Tryz.prog A 152 [ptr 0, .int .u8 q, .agg #[.int .u32 ei, .int .u16 ep]] M n (.tuple #[.agg (ruL (lkR (fun r => owB r q ei ep) rs)).toArray, .bool (rs.any fun r => owB r q ei ep)]) M n := by
  refine CallJ.up ?_ h2 (h2 := h.in_)
  rcases h with ⟨rfl, rfl⟩ | rfl
  · exact (con (nx' := 6) []).drop
  · rcases find_cases (fun r => owB r q ei ep) rs with ⟨k, hk, q1, q2, q3, q4⟩ | ⟨q1, q3, q4⟩
    · rw [lk_yes q3, q4]
      exact (ow_yes (c := 0) q ei ep o ip b hn k hk q1 q2).drop (h2 := taM_in o ip b rs) (h4 := taM_in o ip b rs)
    · rw [lk_no q3, q4]
      exact (ow_no (c := 0) q ei ep o ip b hn q1).drop (h2 := taM_in o ip b rs) (h4 := taM_in o ip b rs)
theorem source_u (h : IsTab o ip b rs M) (hn : rs.length ≤ 1000) (hok : ∀ r ∈ rs, r.Ok) (q si sp di dp : Int) (hs : 0 ≤ si ∧ si ≤ 4294967295) (hd : 0 ≤ di ∧ di ≤ 4294967295) (n : Nat) (h2 : 2 ≤ n := by decide) : CallJ Tryz.prog A 153 [ptr 0, .agg #[.int .u8 q, .int .u32 si, .int .u16 sp, .int .u32 di, .int .u16 dp]] M n (.tuple #[.agg (ruL (woR o (lkR (fun r => soB r q si di) rs))).toArray, .bool (rs.any fun r => soB r q si di)]) M n := by
  refine CallJ.up ?_ h2 (h2 := h.in_)
  rcases h with ⟨rfl, rfl⟩ | rfl
  · exact (con (nx' := 5) []).drop
  · rcases find_cases (fun r => soB r q si di) rs with ⟨k, hk, q1, q2, q3, q4⟩ | ⟨q1, q3, q4⟩
    · rw [lk_yes q3, q4]
      exact (so_yes (c := 0) q si sp di dp o ip b hn hok hs hd k hk q1 q2).drop (h2 := taM_in o ip b rs) (h3 := by unfold woR; cases rs[k].k == 2 <;> rfl) (h4 := taM_in o ip b rs)
    · rw [lk_no q3, q4]
      exact (so_no (c := 0) q si sp di dp o ip b hn hok hs hd q1).drop (h2 := taM_in o ip b rs) (h4 := taM_in o ip b rs)
theorem inner_u (h : IsTab o ip b rs M) (hip : 0 ≤ ip ∧ ip ≤ 4294967295) (a : Int) (ha : 0 ≤ a ∧ a ≤ 4294967295) (n : Nat) (h2 : 2 ≤ n := by decide) : CallJ Tryz.prog A 20 [ptr 0, .int .u32 a] M n (.bool (hasP ip b a)) M n := by
  refine CallJ.up ?_ h2 (h2 := h.in_)
  rcases h with ⟨rfl, rfl⟩ | rfl
  · exact con [hE 21 ip b a hip ha]
  · exact con [hE 21 ip b a hip ha]
theorem oc_J (o ip b : Int) (n c : Nat) (x : Rule) (a : Int) : CallJ Tryz.prog A 61 [.agg (ruL x).toArray, ptr 1, ptr 2] [(1, ([ptr 3], 48, false)), (2, ([.int .u32 a], 28, false)), (3, taB o ip b (.slice (some ⟨0, 0, some 0⟩) n c))] 4 (.bool ((whoR o x).e == a)) [(1, ([ptr 3], 48, false)), (2, ([.int .u32 a], 28, false)), (3, taB o ip b (.slice (some ⟨0, 0, some 0⟩) n c))] 4 := by
  rw [← outer1_val o ip b n c x a]
  exact rx_Outer1 o ip b n c _ _ _ _ _ _ _ _ _ _ _ _
def outB (o : Int) (rs : List Rule) (a : Int) : Bool := (a == o) || rs.any fun r => (whoR o r).e == a
theorem outer_u (h : IsTab o ip b rs M) (hn : rs.length ≤ 1000) (a : Int) (n : Nat) (h2 : 2 ≤ n := by decide) : CallJ Tryz.prog A 21 [ptr 0, .int .u32 a] M n (.bool (outB o rs a)) M n := by
  refine CallJ.up ?_ h2 (h2 := h.in_)
  unfold outB
  rcases h with ⟨rfl, rfl⟩ | rfl
  · cases q : a == o
    · exact (con (nx' := 4) [isF 23 q]).drop
    · exact (con (nx' := 4) [isT 23 q]).drop
  · cases q : a == o
    · rcases find_cases (fun r => (whoR o r).e == a) rs with ⟨k, hk, q1, q2, q3, q4⟩ | ⟨q1, q3, q4⟩
      · rw [q4]
        exact (con (nx' := 4) [isF 23 q, calls 32 4 0 (kx_at (n := 4) (kx_yes (c := 0) (p := fun r => (whoR o r).e == a) (g := 61) (by kernel_rfl) (fun x _ => oc_J o ip b rs.length 0 x a) hn k hk q1 q2) [1, 2, 3, 0]), is 36 (x := .bool (decide ((k : Int) ≥ 0))) (y := .bool true) (by simp)]).drop (h2 := taM_in o ip b rs) (h4 := taM_in o ip b rs)
      · rw [q4]
        exact (con (nx' := 4) [isF 23 q, calls 32 4 0 (kx_at (n := 4) (kx_no (c := 0) (p := fun r => (whoR o r).e == a) (g := 61) (by kernel_rfl) (fun x _ => oc_J o ip b rs.length 0 x a) hn q1) [1, 2, 3, 0])]).drop (h2 := taM_in o ip b rs) (h4 := taM_in o ip b rs)
    · exact (con (nx' := 4) [isT 23 q]).drop (h2 := taM_in o ip b rs) (h4 := taM_in o ip b rs)
end Go.Proofs.YtilfcikhipadpaaGreatDoor
end

section
/- the document's rules: May, Clash: printed (gen/ways.py, gen/rules.spec.py). -/
set_option linter.unusedVariables false
namespace Go.Proofs.YtilfcikhipadpaaGreatDoor
open Go.RowKit Go.Lib Rx
def mD {A : Amb} (n : Nat) (a b : Int) (h : 0 ≤ a ∧ a ≤ 4294967295) : Ev Tryz.prog A := does n (args := [.agg #[.int .u32 a, .int .i64 b]]) fun W _ => ref_May a b W h
def hD {A : Amb} (n : Nat) (a b x : Int) (h : 0 ≤ a ∧ a ≤ 4294967295) (hx : 0 ≤ x ∧ x ≤ 4294967295) : Ev Tryz.prog A := does n (args := [.agg #[.int .u32 a, .int .i64 b], .int .u32 x]) fun W _ => ref_Has a b x W h hx
def rd_May_v (o pi pb : Int) (v : Value) (k p sa sb da db e f t ia ip : Int) : Value := (bif (k == 3) then (bif (p == 6) then (bif (sa == 0 && (sb == 0 && true)) then (bif (da == 0 && (db == 0 && true)) then (bif (hasP pi pb e) then (.bool false) else (bif (f != 0) then (bif (f == t) then (bif (hasP pi pb ia) then (.bool (ip != 0)) else (.bool false)) else (.bool false)) else (.bool false))) else (.bool false)) else (.bool false)) else (bif (p == 17) then (bif (sa == 0 && (sb == 0 && true)) then (bif (da == 0 && (db == 0 && true)) then (bif (hasP pi pb e) then (.bool false) else (bif (f != 0) then (bif (f == t) then (bif (hasP pi pb ia) then (.bool (ip != 0)) else (.bool false)) else (.bool false)) else (.bool false))) else (.bool false)) else (.bool false)) else (.bool false))) else (bif (k != 1) then (bif (k != 2) then (.bool false) else (bif (p != 0) then (bif (p != 1) then (bif (p != 6) then (bif (p != 17) then (.bool false) else (bif (k == 1) then (bif (hasP pi pb e) then (.bool false) else (bif (k == 2) then (bif (e != 0) then (.bool false) else (bif (mayP sa sb) then (bif (mayP da db) then (bif (decide (f ≥ 1)) then (bif (decide (f ≤ t)) then (.bool (ia == 0 && (ip == 0 && true))) else (.bool false)) else (.bool false)) else (.bool false)) else (.bool false))) else (bif (mayP sa sb) then (bif (mayP da db) then (bif (decide (f ≥ 1)) then (bif (decide (f ≤ t)) then (.bool (ia == 0 && (ip == 0 && true))) else (.bool false)) else (.bool false)) else (.bool false)) else (.bool false)))) else (bif (k == 2) then (bif (e != 0) then (.bool false) else (bif (mayP sa sb) then (bif (mayP da db) then (bif (decide (f ≥ 1)) then (bif (decide (f ≤ t)) then (.bool (ia == 0 && (ip == 0 && true))) else (.bool false)) else (.bool false)) else (.bool false)) else (.bool false))) else (bif (mayP sa sb) then (bif (mayP da db) then (bif (decide (f ≥ 1)) then (bif (decide (f ≤ t)) then (.bool (ia == 0 && (ip == 0 && true))) else (.bool false)) else (.bool false)) else (.bool false)) else (.bool false))))) else (bif (k == 1) then (bif (hasP pi pb e) then (.bool false) else (bif (k == 2) then (bif (e != 0) then (.bool false) else (bif (mayP sa sb) then (bif (mayP da db) then (bif (decide (f ≥ 1)) then (bif (decide (f ≤ t)) then (.bool (ia == 0 && (ip == 0 && true))) else (.bool false)) else (.bool false)) else (.bool false)) else (.bool false))) else (bif (mayP sa sb) then (bif (mayP da db) then (bif (decide (f ≥ 1)) then (bif (decide (f ≤ t)) then (.bool (ia == 0 && (ip == 0 && true))) else (.bool false)) else (.bool false)) else (.bool false)) else (.bool false)))) else (bif (k == 2) then (bif (e != 0) then (.bool false) else (bif (mayP sa sb) then (bif (mayP da db) then (bif (decide (f ≥ 1)) then (bif (decide (f ≤ t)) then (.bool (ia == 0 && (ip == 0 && true))) else (.bool false)) else (.bool false)) else (.bool false)) else (.bool false))) else (bif (mayP sa sb) then (bif (mayP da db) then (bif (decide (f ≥ 1)) then (bif (decide (f ≤ t)) then (.bool (ia == 0 && (ip == 0 && true))) else (.bool false)) else (.bool false)) else (.bool false)) else (.bool false))))) else (bif (k == 1) then (bif (hasP pi pb e) then (.bool false) else (bif (k == 2) then (bif (e != 0) then (.bool false) else (bif (mayP sa sb) then (bif (mayP da db) then (bif (decide (f ≥ 1)) then (bif (decide (f ≤ t)) then (.bool (ia == 0 && (ip == 0 && true))) else (.bool false)) else (.bool false)) else (.bool false)) else (.bool false))) else (bif (mayP sa sb) then (bif (mayP da db) then (bif (decide (f ≥ 1)) then (bif (decide (f ≤ t)) then (.bool (ia == 0 && (ip == 0 && true))) else (.bool false)) else (.bool false)) else (.bool false)) else (.bool false)))) else (bif (k == 2) then (bif (e != 0) then (.bool false) else (bif (mayP sa sb) then (bif (mayP da db) then (bif (decide (f ≥ 1)) then (bif (decide (f ≤ t)) then (.bool (ia == 0 && (ip == 0 && true))) else (.bool false)) else (.bool false)) else (.bool false)) else (.bool false))) else (bif (mayP sa sb) then (bif (mayP da db) then (bif (decide (f ≥ 1)) then (bif (decide (f ≤ t)) then (.bool (ia == 0 && (ip == 0 && true))) else (.bool false)) else (.bool false)) else (.bool false)) else (.bool false))))) else (bif (k == 1) then (bif (hasP pi pb e) then (.bool false) else (bif (k == 2) then (bif (e != 0) then (.bool false) else (bif (mayP sa sb) then (bif (mayP da db) then (bif (decide (f ≥ 1)) then (bif (decide (f ≤ t)) then (.bool (ia == 0 && (ip == 0 && true))) else (.bool false)) else (.bool false)) else (.bool false)) else (.bool false))) else (bif (mayP sa sb) then (bif (mayP da db) then (bif (decide (f ≥ 1)) then (bif (decide (f ≤ t)) then (.bool (ia == 0 && (ip == 0 && true))) else (.bool false)) else (.bool false)) else (.bool false)) else (.bool false)))) else (bif (k == 2) then (bif (e != 0) then (.bool false) else (bif (mayP sa sb) then (bif (mayP da db) then (bif (decide (f ≥ 1)) then (bif (decide (f ≤ t)) then (.bool (ia == 0 && (ip == 0 && true))) else (.bool false)) else (.bool false)) else (.bool false)) else (.bool false))) else (bif (mayP sa sb) then (bif (mayP da db) then (bif (decide (f ≥ 1)) then (bif (decide (f ≤ t)) then (.bool (ia == 0 && (ip == 0 && true))) else (.bool false)) else (.bool false)) else (.bool false)) else (.bool false)))))) else (bif (p != 0) then (bif (p != 1) then (bif (p != 6) then (bif (p != 17) then (.bool false) else (bif (k == 1) then (bif (hasP pi pb e) then (.bool false) else (bif (k == 2) then (bif (e != 0) then (.bool false) else (bif (mayP sa sb) then (bif (mayP da db) then (bif (decide (f ≥ 1)) then (bif (decide (f ≤ t)) then (.bool (ia == 0 && (ip == 0 && true))) else (.bool false)) else (.bool false)) else (.bool false)) else (.bool false))) else (bif (mayP sa sb) then (bif (mayP da db) then (bif (decide (f ≥ 1)) then (bif (decide (f ≤ t)) then (.bool (ia == 0 && (ip == 0 && true))) else (.bool false)) else (.bool false)) else (.bool false)) else (.bool false)))) else (bif (k == 2) then (bif (e != 0) then (.bool false) else (bif (mayP sa sb) then (bif (mayP da db) then (bif (decide (f ≥ 1)) then (bif (decide (f ≤ t)) then (.bool (ia == 0 && (ip == 0 && true))) else (.bool false)) else (.bool false)) else (.bool false)) else (.bool false))) else (bif (mayP sa sb) then (bif (mayP da db) then (bif (decide (f ≥ 1)) then (bif (decide (f ≤ t)) then (.bool (ia == 0 && (ip == 0 && true))) else (.bool false)) else (.bool false)) else (.bool false)) else (.bool false))))) else (bif (k == 1) then (bif (hasP pi pb e) then (.bool false) else (bif (k == 2) then (bif (e != 0) then (.bool false) else (bif (mayP sa sb) then (bif (mayP da db) then (bif (decide (f ≥ 1)) then (bif (decide (f ≤ t)) then (.bool (ia == 0 && (ip == 0 && true))) else (.bool false)) else (.bool false)) else (.bool false)) else (.bool false))) else (bif (mayP sa sb) then (bif (mayP da db) then (bif (decide (f ≥ 1)) then (bif (decide (f ≤ t)) then (.bool (ia == 0 && (ip == 0 && true))) else (.bool false)) else (.bool false)) else (.bool false)) else (.bool false)))) else (bif (k == 2) then (bif (e != 0) then (.bool false) else (bif (mayP sa sb) then (bif (mayP da db) then (bif (decide (f ≥ 1)) then (bif (decide (f ≤ t)) then (.bool (ia == 0 && (ip == 0 && true))) else (.bool false)) else (.bool false)) else (.bool false)) else (.bool false))) else (bif (mayP sa sb) then (bif (mayP da db) then (bif (decide (f ≥ 1)) then (bif (decide (f ≤ t)) then (.bool (ia == 0 && (ip == 0 && true))) else (.bool false)) else (.bool false)) else (.bool false)) else (.bool false))))) else (bif (k == 1) then (bif (hasP pi pb e) then (.bool false) else (bif (k == 2) then (bif (e != 0) then (.bool false) else (bif (mayP sa sb) then (bif (mayP da db) then (bif (decide (f ≥ 1)) then (bif (decide (f ≤ t)) then (.bool (ia == 0 && (ip == 0 && true))) else (.bool false)) else (.bool false)) else (.bool false)) else (.bool false))) else (bif (mayP sa sb) then (bif (mayP da db) then (bif (decide (f ≥ 1)) then (bif (decide (f ≤ t)) then (.bool (ia == 0 && (ip == 0 && true))) else (.bool false)) else (.bool false)) else (.bool false)) else (.bool false)))) else (bif (k == 2) then (bif (e != 0) then (.bool false) else (bif (mayP sa sb) then (bif (mayP da db) then (bif (decide (f ≥ 1)) then (bif (decide (f ≤ t)) then (.bool (ia == 0 && (ip == 0 && true))) else (.bool false)) else (.bool false)) else (.bool false)) else (.bool false))) else (bif (mayP sa sb) then (bif (mayP da db) then (bif (decide (f ≥ 1)) then (bif (decide (f ≤ t)) then (.bool (ia == 0 && (ip == 0 && true))) else (.bool false)) else (.bool false)) else (.bool false)) else (.bool false))))) else (bif (k == 1) then (bif (hasP pi pb e) then (.bool false) else (bif (k == 2) then (bif (e != 0) then (.bool false) else (bif (mayP sa sb) then (bif (mayP da db) then (bif (decide (f ≥ 1)) then (bif (decide (f ≤ t)) then (.bool (ia == 0 && (ip == 0 && true))) else (.bool false)) else (.bool false)) else (.bool false)) else (.bool false))) else (bif (mayP sa sb) then (bif (mayP da db) then (bif (decide (f ≥ 1)) then (bif (decide (f ≤ t)) then (.bool (ia == 0 && (ip == 0 && true))) else (.bool false)) else (.bool false)) else (.bool false)) else (.bool false)))) else (bif (k == 2) then (bif (e != 0) then (.bool false) else (bif (mayP sa sb) then (bif (mayP da db) then (bif (decide (f ≥ 1)) then (bif (decide (f ≤ t)) then (.bool (ia == 0 && (ip == 0 && true))) else (.bool false)) else (.bool false)) else (.bool false)) else (.bool false))) else (bif (mayP sa sb) then (bif (mayP da db) then (bif (decide (f ≥ 1)) then (bif (decide (f ≤ t)) then (.bool (ia == 0 && (ip == 0 && true))) else (.bool false)) else (.bool false)) else (.bool false)) else (.bool false)))))))
theorem rd_May {A : Rx.Amb} (o pi pb : Int) (v : Value) (k p sa sb da db e f t ia ip : Int) (hpi : 0 ≤ pi ∧ pi ≤ 4294967295) (hr : (Rule.mk k p sa sb da db e f t ia ip).Ok) (hv : inC 2 v = true) : CallJ Tryz.prog A 97 [.pointer (some ⟨0, 0, some 0⟩), .agg #[.int .i64 k, .int .u8 p, .int .u32 sa, .int .i64 sb, .int .u32 da, .int .i64 db, .int .u32 e, .int .u16 f, .int .u16 t, .int .u32 ia, .int .u16 ip]] [(0, ([.int .u32 o, .int .u32 pi, .int .i64 pb, v], 199, false))] 2 (rd_May_v o pi pb v k p sa sb da db e f t ia ip) [(0, ([.int .u32 o, .int .u32 pi, .int .i64 pb, v], 199, false))] 2 := by
  unfold rd_May_v
  obtain ⟨r1, r2, r3, r4, r5, r6, r7, r8⟩ := hr
  simp only at r1 r2 r3 r4 r5 r6 r7 r8
  have hB : inBlks 2 [(0, ([.int .u32 o, .int .u32 pi, .int .i64 pb, v], 199, false))] = true := by
    simp only [inBlks, List.all_cons, List.all_nil, hv]
    rfl
  cases h1 : (k == 3)
  · cases h2 : (k != 1)
    · cases h3 : (p != 0)
      · cases h4 : (k == 1)
        · cases h5 : (k == 2)
          · cases h6 : (mayP sa sb)
            · exact (con (nx' := 3) [no 5 h1, isF 9 h2, isF 18 h3, isF 37 h4, isF 47 h5, mD 56 sa sb (by omega), isF 57 h6]).drop (h2 := hB) (h4 := hB)
            · cases h7 : (mayP da db)
              · exact (con (nx' := 3) [no 5 h1, isF 9 h2, isF 18 h3, isF 37 h4, isF 47 h5, mD 56 sa sb (by omega), isT 57 h6, mD 60 da db (by omega), isF 62 h7]).drop (h2 := hB) (h4 := hB)
              · cases h8 : (decide (f ≥ 1))
                · exact (con (nx' := 3) [no 5 h1, isF 9 h2, isF 18 h3, isF 37 h4, isF 47 h5, mD 56 sa sb (by omega), isT 57 h6, mD 60 da db (by omega), isT 62 h7, isF 67 h8]).drop (h2 := hB) (h4 := hB)
                · cases h9 : (decide (f ≤ t))
                  · exact (con (nx' := 3) [no 5 h1, isF 9 h2, isF 18 h3, isF 37 h4, isF 47 h5, mD 56 sa sb (by omega), isT 57 h6, mD 60 da db (by omega), isT 62 h7, isT 67 h8, isF 74 h9]).drop (h2 := hB) (h4 := hB)
                  · exact (con (nx' := 3) [no 5 h1, isF 9 h2, isF 18 h3, isF 37 h4, isF 47 h5, mD 56 sa sb (by omega), isT 57 h6, mD 60 da db (by omega), isT 62 h7, isT 67 h8, isT 74 h9]).drop (h2 := hB) (h4 := hB)
          · cases h10 : (e != 0)
            · cases h11 : (mayP sa sb)
              · exact (con (nx' := 3) [no 5 h1, isF 9 h2, isF 18 h3, isF 37 h4, isT 47 h5, no 53 h10, mD 56 sa sb (by omega), isF 57 h11]).drop (h2 := hB) (h4 := hB)
              · cases h12 : (mayP da db)
                · exact (con (nx' := 3) [no 5 h1, isF 9 h2, isF 18 h3, isF 37 h4, isT 47 h5, no 53 h10, mD 56 sa sb (by omega), isT 57 h11, mD 60 da db (by omega), isF 62 h12]).drop (h2 := hB) (h4 := hB)
                · cases h13 : (decide (f ≥ 1))
                  · exact (con (nx' := 3) [no 5 h1, isF 9 h2, isF 18 h3, isF 37 h4, isT 47 h5, no 53 h10, mD 56 sa sb (by omega), isT 57 h11, mD 60 da db (by omega), isT 62 h12, isF 67 h13]).drop (h2 := hB) (h4 := hB)
                  · cases h14 : (decide (f ≤ t))
                    · exact (con (nx' := 3) [no 5 h1, isF 9 h2, isF 18 h3, isF 37 h4, isT 47 h5, no 53 h10, mD 56 sa sb (by omega), isT 57 h11, mD 60 da db (by omega), isT 62 h12, isT 67 h13, isF 74 h14]).drop (h2 := hB) (h4 := hB)
                    · exact (con (nx' := 3) [no 5 h1, isF 9 h2, isF 18 h3, isF 37 h4, isT 47 h5, no 53 h10, mD 56 sa sb (by omega), isT 57 h11, mD 60 da db (by omega), isT 62 h12, isT 67 h13, isT 74 h14]).drop (h2 := hB) (h4 := hB)
            · exact (con (nx' := 3) [no 5 h1, isF 9 h2, isF 18 h3, isF 37 h4, isT 47 h5, yes 53 h10]).drop (h2 := hB) (h4 := hB)
        · cases h15 : (hasP pi pb e)
          · cases h16 : (k == 2)
            · cases h17 : (mayP sa sb)
              · exact (con (nx' := 3) [no 5 h1, isF 9 h2, isF 18 h3, isT 37 h4, hD 47 pi pb e (by omega) (by omega), isF 51 h15, isF 55 h16, mD 64 sa sb (by omega), isF 65 h17]).drop (h2 := hB) (h4 := hB)
              · cases h18 : (mayP da db)
                · exact (con (nx' := 3) [no 5 h1, isF 9 h2, isF 18 h3, isT 37 h4, hD 47 pi pb e (by omega) (by omega), isF 51 h15, isF 55 h16, mD 64 sa sb (by omega), isT 65 h17, mD 68 da db (by omega), isF 70 h18]).drop (h2 := hB) (h4 := hB)
                · cases h19 : (decide (f ≥ 1))
                  · exact (con (nx' := 3) [no 5 h1, isF 9 h2, isF 18 h3, isT 37 h4, hD 47 pi pb e (by omega) (by omega), isF 51 h15, isF 55 h16, mD 64 sa sb (by omega), isT 65 h17, mD 68 da db (by omega), isT 70 h18, isF 75 h19]).drop (h2 := hB) (h4 := hB)
                  · cases h20 : (decide (f ≤ t))
                    · exact (con (nx' := 3) [no 5 h1, isF 9 h2, isF 18 h3, isT 37 h4, hD 47 pi pb e (by omega) (by omega), isF 51 h15, isF 55 h16, mD 64 sa sb (by omega), isT 65 h17, mD 68 da db (by omega), isT 70 h18, isT 75 h19, isF 82 h20]).drop (h2 := hB) (h4 := hB)
                    · exact (con (nx' := 3) [no 5 h1, isF 9 h2, isF 18 h3, isT 37 h4, hD 47 pi pb e (by omega) (by omega), isF 51 h15, isF 55 h16, mD 64 sa sb (by omega), isT 65 h17, mD 68 da db (by omega), isT 70 h18, isT 75 h19, isT 82 h20]).drop (h2 := hB) (h4 := hB)
            · cases h21 : (e != 0)
              · cases h22 : (mayP sa sb)
                · exact (con (nx' := 3) [no 5 h1, isF 9 h2, isF 18 h3, isT 37 h4, hD 47 pi pb e (by omega) (by omega), isF 51 h15, isT 55 h16, no 61 h21, mD 64 sa sb (by omega), isF 65 h22]).drop (h2 := hB) (h4 := hB)
                · cases h23 : (mayP da db)
                  · exact (con (nx' := 3) [no 5 h1, isF 9 h2, isF 18 h3, isT 37 h4, hD 47 pi pb e (by omega) (by omega), isF 51 h15, isT 55 h16, no 61 h21, mD 64 sa sb (by omega), isT 65 h22, mD 68 da db (by omega), isF 70 h23]).drop (h2 := hB) (h4 := hB)
                  · cases h24 : (decide (f ≥ 1))
                    · exact (con (nx' := 3) [no 5 h1, isF 9 h2, isF 18 h3, isT 37 h4, hD 47 pi pb e (by omega) (by omega), isF 51 h15, isT 55 h16, no 61 h21, mD 64 sa sb (by omega), isT 65 h22, mD 68 da db (by omega), isT 70 h23, isF 75 h24]).drop (h2 := hB) (h4 := hB)
                    · cases h25 : (decide (f ≤ t))
                      · exact (con (nx' := 3) [no 5 h1, isF 9 h2, isF 18 h3, isT 37 h4, hD 47 pi pb e (by omega) (by omega), isF 51 h15, isT 55 h16, no 61 h21, mD 64 sa sb (by omega), isT 65 h22, mD 68 da db (by omega), isT 70 h23, isT 75 h24, isF 82 h25]).drop (h2 := hB) (h4 := hB)
                      · exact (con (nx' := 3) [no 5 h1, isF 9 h2, isF 18 h3, isT 37 h4, hD 47 pi pb e (by omega) (by omega), isF 51 h15, isT 55 h16, no 61 h21, mD 64 sa sb (by omega), isT 65 h22, mD 68 da db (by omega), isT 70 h23, isT 75 h24, isT 82 h25]).drop (h2 := hB) (h4 := hB)
              · exact (con (nx' := 3) [no 5 h1, isF 9 h2, isF 18 h3, isT 37 h4, hD 47 pi pb e (by omega) (by omega), isF 51 h15, isT 55 h16, yes 61 h21]).drop (h2 := hB) (h4 := hB)
          · exact (con (nx' := 3) [no 5 h1, isF 9 h2, isF 18 h3, isT 37 h4, hD 47 pi pb e (by omega) (by omega), isT 51 h15]).drop (h2 := hB) (h4 := hB)
      · cases h26 : (p != 1)
        · cases h27 : (k == 1)
          · cases h28 : (k == 2)
            · cases h29 : (mayP sa sb)
              · exact (con (nx' := 3) [no 5 h1, isF 9 h2, isT 18 h3, isF 23 h26, isF 37 h27, isF 47 h28, mD 56 sa sb (by omega), isF 57 h29]).drop (h2 := hB) (h4 := hB)
              · cases h30 : (mayP da db)
                · exact (con (nx' := 3) [no 5 h1, isF 9 h2, isT 18 h3, isF 23 h26, isF 37 h27, isF 47 h28, mD 56 sa sb (by omega), isT 57 h29, mD 60 da db (by omega), isF 62 h30]).drop (h2 := hB) (h4 := hB)
                · cases h31 : (decide (f ≥ 1))
                  · exact (con (nx' := 3) [no 5 h1, isF 9 h2, isT 18 h3, isF 23 h26, isF 37 h27, isF 47 h28, mD 56 sa sb (by omega), isT 57 h29, mD 60 da db (by omega), isT 62 h30, isF 67 h31]).drop (h2 := hB) (h4 := hB)
                  · cases h32 : (decide (f ≤ t))
                    · exact (con (nx' := 3) [no 5 h1, isF 9 h2, isT 18 h3, isF 23 h26, isF 37 h27, isF 47 h28, mD 56 sa sb (by omega), isT 57 h29, mD 60 da db (by omega), isT 62 h30, isT 67 h31, isF 74 h32]).drop (h2 := hB) (h4 := hB)
                    · exact (con (nx' := 3) [no 5 h1, isF 9 h2, isT 18 h3, isF 23 h26, isF 37 h27, isF 47 h28, mD 56 sa sb (by omega), isT 57 h29, mD 60 da db (by omega), isT 62 h30, isT 67 h31, isT 74 h32]).drop (h2 := hB) (h4 := hB)
            · cases h33 : (e != 0)
              · cases h34 : (mayP sa sb)
                · exact (con (nx' := 3) [no 5 h1, isF 9 h2, isT 18 h3, isF 23 h26, isF 37 h27, isT 47 h28, no 53 h33, mD 56 sa sb (by omega), isF 57 h34]).drop (h2 := hB) (h4 := hB)
                · cases h35 : (mayP da db)
                  · exact (con (nx' := 3) [no 5 h1, isF 9 h2, isT 18 h3, isF 23 h26, isF 37 h27, isT 47 h28, no 53 h33, mD 56 sa sb (by omega), isT 57 h34, mD 60 da db (by omega), isF 62 h35]).drop (h2 := hB) (h4 := hB)
                  · cases h36 : (decide (f ≥ 1))
                    · exact (con (nx' := 3) [no 5 h1, isF 9 h2, isT 18 h3, isF 23 h26, isF 37 h27, isT 47 h28, no 53 h33, mD 56 sa sb (by omega), isT 57 h34, mD 60 da db (by omega), isT 62 h35, isF 67 h36]).drop (h2 := hB) (h4 := hB)
                    · cases h37 : (decide (f ≤ t))
                      · exact (con (nx' := 3) [no 5 h1, isF 9 h2, isT 18 h3, isF 23 h26, isF 37 h27, isT 47 h28, no 53 h33, mD 56 sa sb (by omega), isT 57 h34, mD 60 da db (by omega), isT 62 h35, isT 67 h36, isF 74 h37]).drop (h2 := hB) (h4 := hB)
                      · exact (con (nx' := 3) [no 5 h1, isF 9 h2, isT 18 h3, isF 23 h26, isF 37 h27, isT 47 h28, no 53 h33, mD 56 sa sb (by omega), isT 57 h34, mD 60 da db (by omega), isT 62 h35, isT 67 h36, isT 74 h37]).drop (h2 := hB) (h4 := hB)
              · exact (con (nx' := 3) [no 5 h1, isF 9 h2, isT 18 h3, isF 23 h26, isF 37 h27, isT 47 h28, yes 53 h33]).drop (h2 := hB) (h4 := hB)
          · cases h38 : (hasP pi pb e)
            · cases h39 : (k == 2)
              · cases h40 : (mayP sa sb)
                · exact (con (nx' := 3) [no 5 h1, isF 9 h2, isT 18 h3, isF 23 h26, isT 37 h27, hD 47 pi pb e (by omega) (by omega), isF 51 h38, isF 55 h39, mD 64 sa sb (by omega), isF 65 h40]).drop (h2 := hB) (h4 := hB)
                · cases h41 : (mayP da db)
                  · exact (con (nx' := 3) [no 5 h1, isF 9 h2, isT 18 h3, isF 23 h26, isT 37 h27, hD 47 pi pb e (by omega) (by omega), isF 51 h38, isF 55 h39, mD 64 sa sb (by omega), isT 65 h40, mD 68 da db (by omega), isF 70 h41]).drop (h2 := hB) (h4 := hB)
                  · cases h42 : (decide (f ≥ 1))
                    · exact (con (nx' := 3) [no 5 h1, isF 9 h2, isT 18 h3, isF 23 h26, isT 37 h27, hD 47 pi pb e (by omega) (by omega), isF 51 h38, isF 55 h39, mD 64 sa sb (by omega), isT 65 h40, mD 68 da db (by omega), isT 70 h41, isF 75 h42]).drop (h2 := hB) (h4 := hB)
                    · cases h43 : (decide (f ≤ t))
                      · exact (con (nx' := 3) [no 5 h1, isF 9 h2, isT 18 h3, isF 23 h26, isT 37 h27, hD 47 pi pb e (by omega) (by omega), isF 51 h38, isF 55 h39, mD 64 sa sb (by omega), isT 65 h40, mD 68 da db (by omega), isT 70 h41, isT 75 h42, isF 82 h43]).drop (h2 := hB) (h4 := hB)
                      · exact (con (nx' := 3) [no 5 h1, isF 9 h2, isT 18 h3, isF 23 h26, isT 37 h27, hD 47 pi pb e (by omega) (by omega), isF 51 h38, isF 55 h39, mD 64 sa sb (by omega), isT 65 h40, mD 68 da db (by omega), isT 70 h41, isT 75 h42, isT 82 h43]).drop (h2 := hB) (h4 := hB)
              · cases h44 : (e != 0)
                · cases h45 : (mayP sa sb)
                  · exact (con (nx' := 3) [no 5 h1, isF 9 h2, isT 18 h3, isF 23 h26, isT 37 h27, hD 47 pi pb e (by omega) (by omega), isF 51 h38, isT 55 h39, no 61 h44, mD 64 sa sb (by omega), isF 65 h45]).drop (h2 := hB) (h4 := hB)
                  · cases h46 : (mayP da db)
                    · exact (con (nx' := 3) [no 5 h1, isF 9 h2, isT 18 h3, isF 23 h26, isT 37 h27, hD 47 pi pb e (by omega) (by omega), isF 51 h38, isT 55 h39, no 61 h44, mD 64 sa sb (by omega), isT 65 h45, mD 68 da db (by omega), isF 70 h46]).drop (h2 := hB) (h4 := hB)
                    · cases h47 : (decide (f ≥ 1))
                      · exact (con (nx' := 3) [no 5 h1, isF 9 h2, isT 18 h3, isF 23 h26, isT 37 h27, hD 47 pi pb e (by omega) (by omega), isF 51 h38, isT 55 h39, no 61 h44, mD 64 sa sb (by omega), isT 65 h45, mD 68 da db (by omega), isT 70 h46, isF 75 h47]).drop (h2 := hB) (h4 := hB)
                      · cases h48 : (decide (f ≤ t))
                        · exact (con (nx' := 3) [no 5 h1, isF 9 h2, isT 18 h3, isF 23 h26, isT 37 h27, hD 47 pi pb e (by omega) (by omega), isF 51 h38, isT 55 h39, no 61 h44, mD 64 sa sb (by omega), isT 65 h45, mD 68 da db (by omega), isT 70 h46, isT 75 h47, isF 82 h48]).drop (h2 := hB) (h4 := hB)
                        · exact (con (nx' := 3) [no 5 h1, isF 9 h2, isT 18 h3, isF 23 h26, isT 37 h27, hD 47 pi pb e (by omega) (by omega), isF 51 h38, isT 55 h39, no 61 h44, mD 64 sa sb (by omega), isT 65 h45, mD 68 da db (by omega), isT 70 h46, isT 75 h47, isT 82 h48]).drop (h2 := hB) (h4 := hB)
                · exact (con (nx' := 3) [no 5 h1, isF 9 h2, isT 18 h3, isF 23 h26, isT 37 h27, hD 47 pi pb e (by omega) (by omega), isF 51 h38, isT 55 h39, yes 61 h44]).drop (h2 := hB) (h4 := hB)
            · exact (con (nx' := 3) [no 5 h1, isF 9 h2, isT 18 h3, isF 23 h26, isT 37 h27, hD 47 pi pb e (by omega) (by omega), isT 51 h38]).drop (h2 := hB) (h4 := hB)
        · cases h49 : (p != 6)
          · cases h50 : (k == 1)
            · cases h51 : (k == 2)
              · cases h52 : (mayP sa sb)
                · exact (con (nx' := 3) [no 5 h1, isF 9 h2, isT 18 h3, isT 23 h26, isF 28 h49, isF 37 h50, isF 47 h51, mD 56 sa sb (by omega), isF 57 h52]).drop (h2 := hB) (h4 := hB)
                · cases h53 : (mayP da db)
                  · exact (con (nx' := 3) [no 5 h1, isF 9 h2, isT 18 h3, isT 23 h26, isF 28 h49, isF 37 h50, isF 47 h51, mD 56 sa sb (by omega), isT 57 h52, mD 60 da db (by omega), isF 62 h53]).drop (h2 := hB) (h4 := hB)
                  · cases h54 : (decide (f ≥ 1))
                    · exact (con (nx' := 3) [no 5 h1, isF 9 h2, isT 18 h3, isT 23 h26, isF 28 h49, isF 37 h50, isF 47 h51, mD 56 sa sb (by omega), isT 57 h52, mD 60 da db (by omega), isT 62 h53, isF 67 h54]).drop (h2 := hB) (h4 := hB)
                    · cases h55 : (decide (f ≤ t))
                      · exact (con (nx' := 3) [no 5 h1, isF 9 h2, isT 18 h3, isT 23 h26, isF 28 h49, isF 37 h50, isF 47 h51, mD 56 sa sb (by omega), isT 57 h52, mD 60 da db (by omega), isT 62 h53, isT 67 h54, isF 74 h55]).drop (h2 := hB) (h4 := hB)
                      · exact (con (nx' := 3) [no 5 h1, isF 9 h2, isT 18 h3, isT 23 h26, isF 28 h49, isF 37 h50, isF 47 h51, mD 56 sa sb (by omega), isT 57 h52, mD 60 da db (by omega), isT 62 h53, isT 67 h54, isT 74 h55]).drop (h2 := hB) (h4 := hB)
              · cases h56 : (e != 0)
                · cases h57 : (mayP sa sb)
                  · exact (con (nx' := 3) [no 5 h1, isF 9 h2, isT 18 h3, isT 23 h26, isF 28 h49, isF 37 h50, isT 47 h51, no 53 h56, mD 56 sa sb (by omega), isF 57 h57]).drop (h2 := hB) (h4 := hB)
                  · cases h58 : (mayP da db)
                    · exact (con (nx' := 3) [no 5 h1, isF 9 h2, isT 18 h3, isT 23 h26, isF 28 h49, isF 37 h50, isT 47 h51, no 53 h56, mD 56 sa sb (by omega), isT 57 h57, mD 60 da db (by omega), isF 62 h58]).drop (h2 := hB) (h4 := hB)
                    · cases h59 : (decide (f ≥ 1))
                      · exact (con (nx' := 3) [no 5 h1, isF 9 h2, isT 18 h3, isT 23 h26, isF 28 h49, isF 37 h50, isT 47 h51, no 53 h56, mD 56 sa sb (by omega), isT 57 h57, mD 60 da db (by omega), isT 62 h58, isF 67 h59]).drop (h2 := hB) (h4 := hB)
                      · cases h60 : (decide (f ≤ t))
                        · exact (con (nx' := 3) [no 5 h1, isF 9 h2, isT 18 h3, isT 23 h26, isF 28 h49, isF 37 h50, isT 47 h51, no 53 h56, mD 56 sa sb (by omega), isT 57 h57, mD 60 da db (by omega), isT 62 h58, isT 67 h59, isF 74 h60]).drop (h2 := hB) (h4 := hB)
                        · exact (con (nx' := 3) [no 5 h1, isF 9 h2, isT 18 h3, isT 23 h26, isF 28 h49, isF 37 h50, isT 47 h51, no 53 h56, mD 56 sa sb (by omega), isT 57 h57, mD 60 da db (by omega), isT 62 h58, isT 67 h59, isT 74 h60]).drop (h2 := hB) (h4 := hB)
                · exact (con (nx' := 3) [no 5 h1, isF 9 h2, isT 18 h3, isT 23 h26, isF 28 h49, isF 37 h50, isT 47 h51, yes 53 h56]).drop (h2 := hB) (h4 := hB)
            · cases h61 : (hasP pi pb e)
              · cases h62 : (k == 2)
                · cases h63 : (mayP sa sb)
                  · exact (con (nx' := 3) [no 5 h1, isF 9 h2, isT 18 h3, isT 23 h26, isF 28 h49, isT 37 h50, hD 47 pi pb e (by omega) (by omega), isF 51 h61, isF 55 h62, mD 64 sa sb (by omega), isF 65 h63]).drop (h2 := hB) (h4 := hB)
                  · cases h64 : (mayP da db)
                    · exact (con (nx' := 3) [no 5 h1, isF 9 h2, isT 18 h3, isT 23 h26, isF 28 h49, isT 37 h50, hD 47 pi pb e (by omega) (by omega), isF 51 h61, isF 55 h62, mD 64 sa sb (by omega), isT 65 h63, mD 68 da db (by omega), isF 70 h64]).drop (h2 := hB) (h4 := hB)
                    · cases h65 : (decide (f ≥ 1))
                      · exact (con (nx' := 3) [no 5 h1, isF 9 h2, isT 18 h3, isT 23 h26, isF 28 h49, isT 37 h50, hD 47 pi pb e (by omega) (by omega), isF 51 h61, isF 55 h62, mD 64 sa sb (by omega), isT 65 h63, mD 68 da db (by omega), isT 70 h64, isF 75 h65]).drop (h2 := hB) (h4 := hB)
                      · cases h66 : (decide (f ≤ t))
                        · exact (con (nx' := 3) [no 5 h1, isF 9 h2, isT 18 h3, isT 23 h26, isF 28 h49, isT 37 h50, hD 47 pi pb e (by omega) (by omega), isF 51 h61, isF 55 h62, mD 64 sa sb (by omega), isT 65 h63, mD 68 da db (by omega), isT 70 h64, isT 75 h65, isF 82 h66]).drop (h2 := hB) (h4 := hB)
                        · exact (con (nx' := 3) [no 5 h1, isF 9 h2, isT 18 h3, isT 23 h26, isF 28 h49, isT 37 h50, hD 47 pi pb e (by omega) (by omega), isF 51 h61, isF 55 h62, mD 64 sa sb (by omega), isT 65 h63, mD 68 da db (by omega), isT 70 h64, isT 75 h65, isT 82 h66]).drop (h2 := hB) (h4 := hB)
                · cases h67 : (e != 0)
                  · cases h68 : (mayP sa sb)
                    · exact (con (nx' := 3) [no 5 h1, isF 9 h2, isT 18 h3, isT 23 h26, isF 28 h49, isT 37 h50, hD 47 pi pb e (by omega) (by omega), isF 51 h61, isT 55 h62, no 61 h67, mD 64 sa sb (by omega), isF 65 h68]).drop (h2 := hB) (h4 := hB)
                    · cases h69 : (mayP da db)
                      · exact (con (nx' := 3) [no 5 h1, isF 9 h2, isT 18 h3, isT 23 h26, isF 28 h49, isT 37 h50, hD 47 pi pb e (by omega) (by omega), isF 51 h61, isT 55 h62, no 61 h67, mD 64 sa sb (by omega), isT 65 h68, mD 68 da db (by omega), isF 70 h69]).drop (h2 := hB) (h4 := hB)
                      · cases h70 : (decide (f ≥ 1))
                        · exact (con (nx' := 3) [no 5 h1, isF 9 h2, isT 18 h3, isT 23 h26, isF 28 h49, isT 37 h50, hD 47 pi pb e (by omega) (by omega), isF 51 h61, isT 55 h62, no 61 h67, mD 64 sa sb (by omega), isT 65 h68, mD 68 da db (by omega), isT 70 h69, isF 75 h70]).drop (h2 := hB) (h4 := hB)
                        · cases h71 : (decide (f ≤ t))
                          · exact (con (nx' := 3) [no 5 h1, isF 9 h2, isT 18 h3, isT 23 h26, isF 28 h49, isT 37 h50, hD 47 pi pb e (by omega) (by omega), isF 51 h61, isT 55 h62, no 61 h67, mD 64 sa sb (by omega), isT 65 h68, mD 68 da db (by omega), isT 70 h69, isT 75 h70, isF 82 h71]).drop (h2 := hB) (h4 := hB)
                          · exact (con (nx' := 3) [no 5 h1, isF 9 h2, isT 18 h3, isT 23 h26, isF 28 h49, isT 37 h50, hD 47 pi pb e (by omega) (by omega), isF 51 h61, isT 55 h62, no 61 h67, mD 64 sa sb (by omega), isT 65 h68, mD 68 da db (by omega), isT 70 h69, isT 75 h70, isT 82 h71]).drop (h2 := hB) (h4 := hB)
                  · exact (con (nx' := 3) [no 5 h1, isF 9 h2, isT 18 h3, isT 23 h26, isF 28 h49, isT 37 h50, hD 47 pi pb e (by omega) (by omega), isF 51 h61, isT 55 h62, yes 61 h67]).drop (h2 := hB) (h4 := hB)
              · exact (con (nx' := 3) [no 5 h1, isF 9 h2, isT 18 h3, isT 23 h26, isF 28 h49, isT 37 h50, hD 47 pi pb e (by omega) (by omega), isT 51 h61]).drop (h2 := hB) (h4 := hB)
          · cases h72 : (p != 17)
            · cases h73 : (k == 1)
              · cases h74 : (k == 2)
                · cases h75 : (mayP sa sb)
                  · exact (con (nx' := 3) [no 5 h1, isF 9 h2, isT 18 h3, isT 23 h26, isT 28 h49, no 33 h72, isF 37 h73, isF 47 h74, mD 56 sa sb (by omega), isF 57 h75]).drop (h2 := hB) (h4 := hB)
                  · cases h76 : (mayP da db)
                    · exact (con (nx' := 3) [no 5 h1, isF 9 h2, isT 18 h3, isT 23 h26, isT 28 h49, no 33 h72, isF 37 h73, isF 47 h74, mD 56 sa sb (by omega), isT 57 h75, mD 60 da db (by omega), isF 62 h76]).drop (h2 := hB) (h4 := hB)
                    · cases h77 : (decide (f ≥ 1))
                      · exact (con (nx' := 3) [no 5 h1, isF 9 h2, isT 18 h3, isT 23 h26, isT 28 h49, no 33 h72, isF 37 h73, isF 47 h74, mD 56 sa sb (by omega), isT 57 h75, mD 60 da db (by omega), isT 62 h76, isF 67 h77]).drop (h2 := hB) (h4 := hB)
                      · cases h78 : (decide (f ≤ t))
                        · exact (con (nx' := 3) [no 5 h1, isF 9 h2, isT 18 h3, isT 23 h26, isT 28 h49, no 33 h72, isF 37 h73, isF 47 h74, mD 56 sa sb (by omega), isT 57 h75, mD 60 da db (by omega), isT 62 h76, isT 67 h77, isF 74 h78]).drop (h2 := hB) (h4 := hB)
                        · exact (con (nx' := 3) [no 5 h1, isF 9 h2, isT 18 h3, isT 23 h26, isT 28 h49, no 33 h72, isF 37 h73, isF 47 h74, mD 56 sa sb (by omega), isT 57 h75, mD 60 da db (by omega), isT 62 h76, isT 67 h77, isT 74 h78]).drop (h2 := hB) (h4 := hB)
                · cases h79 : (e != 0)
                  · cases h80 : (mayP sa sb)
                    · exact (con (nx' := 3) [no 5 h1, isF 9 h2, isT 18 h3, isT 23 h26, isT 28 h49, no 33 h72, isF 37 h73, isT 47 h74, no 53 h79, mD 56 sa sb (by omega), isF 57 h80]).drop (h2 := hB) (h4 := hB)
                    · cases h81 : (mayP da db)
                      · exact (con (nx' := 3) [no 5 h1, isF 9 h2, isT 18 h3, isT 23 h26, isT 28 h49, no 33 h72, isF 37 h73, isT 47 h74, no 53 h79, mD 56 sa sb (by omega), isT 57 h80, mD 60 da db (by omega), isF 62 h81]).drop (h2 := hB) (h4 := hB)
                      · cases h82 : (decide (f ≥ 1))
                        · exact (con (nx' := 3) [no 5 h1, isF 9 h2, isT 18 h3, isT 23 h26, isT 28 h49, no 33 h72, isF 37 h73, isT 47 h74, no 53 h79, mD 56 sa sb (by omega), isT 57 h80, mD 60 da db (by omega), isT 62 h81, isF 67 h82]).drop (h2 := hB) (h4 := hB)
                        · cases h83 : (decide (f ≤ t))
                          · exact (con (nx' := 3) [no 5 h1, isF 9 h2, isT 18 h3, isT 23 h26, isT 28 h49, no 33 h72, isF 37 h73, isT 47 h74, no 53 h79, mD 56 sa sb (by omega), isT 57 h80, mD 60 da db (by omega), isT 62 h81, isT 67 h82, isF 74 h83]).drop (h2 := hB) (h4 := hB)
                          · exact (con (nx' := 3) [no 5 h1, isF 9 h2, isT 18 h3, isT 23 h26, isT 28 h49, no 33 h72, isF 37 h73, isT 47 h74, no 53 h79, mD 56 sa sb (by omega), isT 57 h80, mD 60 da db (by omega), isT 62 h81, isT 67 h82, isT 74 h83]).drop (h2 := hB) (h4 := hB)
                  · exact (con (nx' := 3) [no 5 h1, isF 9 h2, isT 18 h3, isT 23 h26, isT 28 h49, no 33 h72, isF 37 h73, isT 47 h74, yes 53 h79]).drop (h2 := hB) (h4 := hB)
              · cases h84 : (hasP pi pb e)
                · cases h85 : (k == 2)
                  · cases h86 : (mayP sa sb)
                    · exact (con (nx' := 3) [no 5 h1, isF 9 h2, isT 18 h3, isT 23 h26, isT 28 h49, no 33 h72, isT 37 h73, hD 47 pi pb e (by omega) (by omega), isF 51 h84, isF 55 h85, mD 64 sa sb (by omega), isF 65 h86]).drop (h2 := hB) (h4 := hB)
                    · cases h87 : (mayP da db)
                      · exact (con (nx' := 3) [no 5 h1, isF 9 h2, isT 18 h3, isT 23 h26, isT 28 h49, no 33 h72, isT 37 h73, hD 47 pi pb e (by omega) (by omega), isF 51 h84, isF 55 h85, mD 64 sa sb (by omega), isT 65 h86, mD 68 da db (by omega), isF 70 h87]).drop (h2 := hB) (h4 := hB)
                      · cases h88 : (decide (f ≥ 1))
                        · exact (con (nx' := 3) [no 5 h1, isF 9 h2, isT 18 h3, isT 23 h26, isT 28 h49, no 33 h72, isT 37 h73, hD 47 pi pb e (by omega) (by omega), isF 51 h84, isF 55 h85, mD 64 sa sb (by omega), isT 65 h86, mD 68 da db (by omega), isT 70 h87, isF 75 h88]).drop (h2 := hB) (h4 := hB)
                        · cases h89 : (decide (f ≤ t))
                          · exact (con (nx' := 3) [no 5 h1, isF 9 h2, isT 18 h3, isT 23 h26, isT 28 h49, no 33 h72, isT 37 h73, hD 47 pi pb e (by omega) (by omega), isF 51 h84, isF 55 h85, mD 64 sa sb (by omega), isT 65 h86, mD 68 da db (by omega), isT 70 h87, isT 75 h88, isF 82 h89]).drop (h2 := hB) (h4 := hB)
                          · exact (con (nx' := 3) [no 5 h1, isF 9 h2, isT 18 h3, isT 23 h26, isT 28 h49, no 33 h72, isT 37 h73, hD 47 pi pb e (by omega) (by omega), isF 51 h84, isF 55 h85, mD 64 sa sb (by omega), isT 65 h86, mD 68 da db (by omega), isT 70 h87, isT 75 h88, isT 82 h89]).drop (h2 := hB) (h4 := hB)
                  · cases h90 : (e != 0)
                    · cases h91 : (mayP sa sb)
                      · exact (con (nx' := 3) [no 5 h1, isF 9 h2, isT 18 h3, isT 23 h26, isT 28 h49, no 33 h72, isT 37 h73, hD 47 pi pb e (by omega) (by omega), isF 51 h84, isT 55 h85, no 61 h90, mD 64 sa sb (by omega), isF 65 h91]).drop (h2 := hB) (h4 := hB)
                      · cases h92 : (mayP da db)
                        · exact (con (nx' := 3) [no 5 h1, isF 9 h2, isT 18 h3, isT 23 h26, isT 28 h49, no 33 h72, isT 37 h73, hD 47 pi pb e (by omega) (by omega), isF 51 h84, isT 55 h85, no 61 h90, mD 64 sa sb (by omega), isT 65 h91, mD 68 da db (by omega), isF 70 h92]).drop (h2 := hB) (h4 := hB)
                        · cases h93 : (decide (f ≥ 1))
                          · exact (con (nx' := 3) [no 5 h1, isF 9 h2, isT 18 h3, isT 23 h26, isT 28 h49, no 33 h72, isT 37 h73, hD 47 pi pb e (by omega) (by omega), isF 51 h84, isT 55 h85, no 61 h90, mD 64 sa sb (by omega), isT 65 h91, mD 68 da db (by omega), isT 70 h92, isF 75 h93]).drop (h2 := hB) (h4 := hB)
                          · cases h94 : (decide (f ≤ t))
                            · exact (con (nx' := 3) [no 5 h1, isF 9 h2, isT 18 h3, isT 23 h26, isT 28 h49, no 33 h72, isT 37 h73, hD 47 pi pb e (by omega) (by omega), isF 51 h84, isT 55 h85, no 61 h90, mD 64 sa sb (by omega), isT 65 h91, mD 68 da db (by omega), isT 70 h92, isT 75 h93, isF 82 h94]).drop (h2 := hB) (h4 := hB)
                            · exact (con (nx' := 3) [no 5 h1, isF 9 h2, isT 18 h3, isT 23 h26, isT 28 h49, no 33 h72, isT 37 h73, hD 47 pi pb e (by omega) (by omega), isF 51 h84, isT 55 h85, no 61 h90, mD 64 sa sb (by omega), isT 65 h91, mD 68 da db (by omega), isT 70 h92, isT 75 h93, isT 82 h94]).drop (h2 := hB) (h4 := hB)
                    · exact (con (nx' := 3) [no 5 h1, isF 9 h2, isT 18 h3, isT 23 h26, isT 28 h49, no 33 h72, isT 37 h73, hD 47 pi pb e (by omega) (by omega), isF 51 h84, isT 55 h85, yes 61 h90]).drop (h2 := hB) (h4 := hB)
                · exact (con (nx' := 3) [no 5 h1, isF 9 h2, isT 18 h3, isT 23 h26, isT 28 h49, no 33 h72, isT 37 h73, hD 47 pi pb e (by omega) (by omega), isT 51 h84]).drop (h2 := hB) (h4 := hB)
            · exact (con (nx' := 3) [no 5 h1, isF 9 h2, isT 18 h3, isT 23 h26, isT 28 h49, yes 33 h72]).drop (h2 := hB) (h4 := hB)
    · cases h95 : (k != 2)
      · cases h96 : (p != 0)
        · cases h97 : (k == 1)
          · cases h98 : (k == 2)
            · cases h99 : (mayP sa sb)
              · exact (con (nx' := 3) [no 5 h1, isT 9 h2, no 14 h95, isF 18 h96, isF 37 h97, isF 47 h98, mD 56 sa sb (by omega), isF 57 h99]).drop (h2 := hB) (h4 := hB)
              · cases h100 : (mayP da db)
                · exact (con (nx' := 3) [no 5 h1, isT 9 h2, no 14 h95, isF 18 h96, isF 37 h97, isF 47 h98, mD 56 sa sb (by omega), isT 57 h99, mD 60 da db (by omega), isF 62 h100]).drop (h2 := hB) (h4 := hB)
                · cases h101 : (decide (f ≥ 1))
                  · exact (con (nx' := 3) [no 5 h1, isT 9 h2, no 14 h95, isF 18 h96, isF 37 h97, isF 47 h98, mD 56 sa sb (by omega), isT 57 h99, mD 60 da db (by omega), isT 62 h100, isF 67 h101]).drop (h2 := hB) (h4 := hB)
                  · cases h102 : (decide (f ≤ t))
                    · exact (con (nx' := 3) [no 5 h1, isT 9 h2, no 14 h95, isF 18 h96, isF 37 h97, isF 47 h98, mD 56 sa sb (by omega), isT 57 h99, mD 60 da db (by omega), isT 62 h100, isT 67 h101, isF 74 h102]).drop (h2 := hB) (h4 := hB)
                    · exact (con (nx' := 3) [no 5 h1, isT 9 h2, no 14 h95, isF 18 h96, isF 37 h97, isF 47 h98, mD 56 sa sb (by omega), isT 57 h99, mD 60 da db (by omega), isT 62 h100, isT 67 h101, isT 74 h102]).drop (h2 := hB) (h4 := hB)
            · cases h103 : (e != 0)
              · cases h104 : (mayP sa sb)
                · exact (con (nx' := 3) [no 5 h1, isT 9 h2, no 14 h95, isF 18 h96, isF 37 h97, isT 47 h98, no 53 h103, mD 56 sa sb (by omega), isF 57 h104]).drop (h2 := hB) (h4 := hB)
                · cases h105 : (mayP da db)
                  · exact (con (nx' := 3) [no 5 h1, isT 9 h2, no 14 h95, isF 18 h96, isF 37 h97, isT 47 h98, no 53 h103, mD 56 sa sb (by omega), isT 57 h104, mD 60 da db (by omega), isF 62 h105]).drop (h2 := hB) (h4 := hB)
                  · cases h106 : (decide (f ≥ 1))
                    · exact (con (nx' := 3) [no 5 h1, isT 9 h2, no 14 h95, isF 18 h96, isF 37 h97, isT 47 h98, no 53 h103, mD 56 sa sb (by omega), isT 57 h104, mD 60 da db (by omega), isT 62 h105, isF 67 h106]).drop (h2 := hB) (h4 := hB)
                    · cases h107 : (decide (f ≤ t))
                      · exact (con (nx' := 3) [no 5 h1, isT 9 h2, no 14 h95, isF 18 h96, isF 37 h97, isT 47 h98, no 53 h103, mD 56 sa sb (by omega), isT 57 h104, mD 60 da db (by omega), isT 62 h105, isT 67 h106, isF 74 h107]).drop (h2 := hB) (h4 := hB)
                      · exact (con (nx' := 3) [no 5 h1, isT 9 h2, no 14 h95, isF 18 h96, isF 37 h97, isT 47 h98, no 53 h103, mD 56 sa sb (by omega), isT 57 h104, mD 60 da db (by omega), isT 62 h105, isT 67 h106, isT 74 h107]).drop (h2 := hB) (h4 := hB)
              · exact (con (nx' := 3) [no 5 h1, isT 9 h2, no 14 h95, isF 18 h96, isF 37 h97, isT 47 h98, yes 53 h103]).drop (h2 := hB) (h4 := hB)
          · cases h108 : (hasP pi pb e)
            · cases h109 : (k == 2)
              · cases h110 : (mayP sa sb)
                · exact (con (nx' := 3) [no 5 h1, isT 9 h2, no 14 h95, isF 18 h96, isT 37 h97, hD 47 pi pb e (by omega) (by omega), isF 51 h108, isF 55 h109, mD 64 sa sb (by omega), isF 65 h110]).drop (h2 := hB) (h4 := hB)
                · cases h111 : (mayP da db)
                  · exact (con (nx' := 3) [no 5 h1, isT 9 h2, no 14 h95, isF 18 h96, isT 37 h97, hD 47 pi pb e (by omega) (by omega), isF 51 h108, isF 55 h109, mD 64 sa sb (by omega), isT 65 h110, mD 68 da db (by omega), isF 70 h111]).drop (h2 := hB) (h4 := hB)
                  · cases h112 : (decide (f ≥ 1))
                    · exact (con (nx' := 3) [no 5 h1, isT 9 h2, no 14 h95, isF 18 h96, isT 37 h97, hD 47 pi pb e (by omega) (by omega), isF 51 h108, isF 55 h109, mD 64 sa sb (by omega), isT 65 h110, mD 68 da db (by omega), isT 70 h111, isF 75 h112]).drop (h2 := hB) (h4 := hB)
                    · cases h113 : (decide (f ≤ t))
                      · exact (con (nx' := 3) [no 5 h1, isT 9 h2, no 14 h95, isF 18 h96, isT 37 h97, hD 47 pi pb e (by omega) (by omega), isF 51 h108, isF 55 h109, mD 64 sa sb (by omega), isT 65 h110, mD 68 da db (by omega), isT 70 h111, isT 75 h112, isF 82 h113]).drop (h2 := hB) (h4 := hB)
                      · exact (con (nx' := 3) [no 5 h1, isT 9 h2, no 14 h95, isF 18 h96, isT 37 h97, hD 47 pi pb e (by omega) (by omega), isF 51 h108, isF 55 h109, mD 64 sa sb (by omega), isT 65 h110, mD 68 da db (by omega), isT 70 h111, isT 75 h112, isT 82 h113]).drop (h2 := hB) (h4 := hB)
              · cases h114 : (e != 0)
                · cases h115 : (mayP sa sb)
                  · exact (con (nx' := 3) [no 5 h1, isT 9 h2, no 14 h95, isF 18 h96, isT 37 h97, hD 47 pi pb e (by omega) (by omega), isF 51 h108, isT 55 h109, no 61 h114, mD 64 sa sb (by omega), isF 65 h115]).drop (h2 := hB) (h4 := hB)
                  · cases h116 : (mayP da db)
                    · exact (con (nx' := 3) [no 5 h1, isT 9 h2, no 14 h95, isF 18 h96, isT 37 h97, hD 47 pi pb e (by omega) (by omega), isF 51 h108, isT 55 h109, no 61 h114, mD 64 sa sb (by omega), isT 65 h115, mD 68 da db (by omega), isF 70 h116]).drop (h2 := hB) (h4 := hB)
                    · cases h117 : (decide (f ≥ 1))
                      · exact (con (nx' := 3) [no 5 h1, isT 9 h2, no 14 h95, isF 18 h96, isT 37 h97, hD 47 pi pb e (by omega) (by omega), isF 51 h108, isT 55 h109, no 61 h114, mD 64 sa sb (by omega), isT 65 h115, mD 68 da db (by omega), isT 70 h116, isF 75 h117]).drop (h2 := hB) (h4 := hB)
                      · cases h118 : (decide (f ≤ t))
                        · exact (con (nx' := 3) [no 5 h1, isT 9 h2, no 14 h95, isF 18 h96, isT 37 h97, hD 47 pi pb e (by omega) (by omega), isF 51 h108, isT 55 h109, no 61 h114, mD 64 sa sb (by omega), isT 65 h115, mD 68 da db (by omega), isT 70 h116, isT 75 h117, isF 82 h118]).drop (h2 := hB) (h4 := hB)
                        · exact (con (nx' := 3) [no 5 h1, isT 9 h2, no 14 h95, isF 18 h96, isT 37 h97, hD 47 pi pb e (by omega) (by omega), isF 51 h108, isT 55 h109, no 61 h114, mD 64 sa sb (by omega), isT 65 h115, mD 68 da db (by omega), isT 70 h116, isT 75 h117, isT 82 h118]).drop (h2 := hB) (h4 := hB)
                · exact (con (nx' := 3) [no 5 h1, isT 9 h2, no 14 h95, isF 18 h96, isT 37 h97, hD 47 pi pb e (by omega) (by omega), isF 51 h108, isT 55 h109, yes 61 h114]).drop (h2 := hB) (h4 := hB)
            · exact (con (nx' := 3) [no 5 h1, isT 9 h2, no 14 h95, isF 18 h96, isT 37 h97, hD 47 pi pb e (by omega) (by omega), isT 51 h108]).drop (h2 := hB) (h4 := hB)
        · cases h119 : (p != 1)
          · cases h120 : (k == 1)
            · cases h121 : (k == 2)
              · cases h122 : (mayP sa sb)
                · exact (con (nx' := 3) [no 5 h1, isT 9 h2, no 14 h95, isT 18 h96, isF 23 h119, isF 37 h120, isF 47 h121, mD 56 sa sb (by omega), isF 57 h122]).drop (h2 := hB) (h4 := hB)
                · cases h123 : (mayP da db)
                  · exact (con (nx' := 3) [no 5 h1, isT 9 h2, no 14 h95, isT 18 h96, isF 23 h119, isF 37 h120, isF 47 h121, mD 56 sa sb (by omega), isT 57 h122, mD 60 da db (by omega), isF 62 h123]).drop (h2 := hB) (h4 := hB)
                  · cases h124 : (decide (f ≥ 1))
                    · exact (con (nx' := 3) [no 5 h1, isT 9 h2, no 14 h95, isT 18 h96, isF 23 h119, isF 37 h120, isF 47 h121, mD 56 sa sb (by omega), isT 57 h122, mD 60 da db (by omega), isT 62 h123, isF 67 h124]).drop (h2 := hB) (h4 := hB)
                    · cases h125 : (decide (f ≤ t))
                      · exact (con (nx' := 3) [no 5 h1, isT 9 h2, no 14 h95, isT 18 h96, isF 23 h119, isF 37 h120, isF 47 h121, mD 56 sa sb (by omega), isT 57 h122, mD 60 da db (by omega), isT 62 h123, isT 67 h124, isF 74 h125]).drop (h2 := hB) (h4 := hB)
                      · exact (con (nx' := 3) [no 5 h1, isT 9 h2, no 14 h95, isT 18 h96, isF 23 h119, isF 37 h120, isF 47 h121, mD 56 sa sb (by omega), isT 57 h122, mD 60 da db (by omega), isT 62 h123, isT 67 h124, isT 74 h125]).drop (h2 := hB) (h4 := hB)
              · cases h126 : (e != 0)
                · cases h127 : (mayP sa sb)
                  · exact (con (nx' := 3) [no 5 h1, isT 9 h2, no 14 h95, isT 18 h96, isF 23 h119, isF 37 h120, isT 47 h121, no 53 h126, mD 56 sa sb (by omega), isF 57 h127]).drop (h2 := hB) (h4 := hB)
                  · cases h128 : (mayP da db)
                    · exact (con (nx' := 3) [no 5 h1, isT 9 h2, no 14 h95, isT 18 h96, isF 23 h119, isF 37 h120, isT 47 h121, no 53 h126, mD 56 sa sb (by omega), isT 57 h127, mD 60 da db (by omega), isF 62 h128]).drop (h2 := hB) (h4 := hB)
                    · cases h129 : (decide (f ≥ 1))
                      · exact (con (nx' := 3) [no 5 h1, isT 9 h2, no 14 h95, isT 18 h96, isF 23 h119, isF 37 h120, isT 47 h121, no 53 h126, mD 56 sa sb (by omega), isT 57 h127, mD 60 da db (by omega), isT 62 h128, isF 67 h129]).drop (h2 := hB) (h4 := hB)
                      · cases h130 : (decide (f ≤ t))
                        · exact (con (nx' := 3) [no 5 h1, isT 9 h2, no 14 h95, isT 18 h96, isF 23 h119, isF 37 h120, isT 47 h121, no 53 h126, mD 56 sa sb (by omega), isT 57 h127, mD 60 da db (by omega), isT 62 h128, isT 67 h129, isF 74 h130]).drop (h2 := hB) (h4 := hB)
                        · exact (con (nx' := 3) [no 5 h1, isT 9 h2, no 14 h95, isT 18 h96, isF 23 h119, isF 37 h120, isT 47 h121, no 53 h126, mD 56 sa sb (by omega), isT 57 h127, mD 60 da db (by omega), isT 62 h128, isT 67 h129, isT 74 h130]).drop (h2 := hB) (h4 := hB)
                · exact (con (nx' := 3) [no 5 h1, isT 9 h2, no 14 h95, isT 18 h96, isF 23 h119, isF 37 h120, isT 47 h121, yes 53 h126]).drop (h2 := hB) (h4 := hB)
            · cases h131 : (hasP pi pb e)
              · cases h132 : (k == 2)
                · cases h133 : (mayP sa sb)
                  · exact (con (nx' := 3) [no 5 h1, isT 9 h2, no 14 h95, isT 18 h96, isF 23 h119, isT 37 h120, hD 47 pi pb e (by omega) (by omega), isF 51 h131, isF 55 h132, mD 64 sa sb (by omega), isF 65 h133]).drop (h2 := hB) (h4 := hB)
                  · cases h134 : (mayP da db)
                    · exact (con (nx' := 3) [no 5 h1, isT 9 h2, no 14 h95, isT 18 h96, isF 23 h119, isT 37 h120, hD 47 pi pb e (by omega) (by omega), isF 51 h131, isF 55 h132, mD 64 sa sb (by omega), isT 65 h133, mD 68 da db (by omega), isF 70 h134]).drop (h2 := hB) (h4 := hB)
                    · cases h135 : (decide (f ≥ 1))
                      · exact (con (nx' := 3) [no 5 h1, isT 9 h2, no 14 h95, isT 18 h96, isF 23 h119, isT 37 h120, hD 47 pi pb e (by omega) (by omega), isF 51 h131, isF 55 h132, mD 64 sa sb (by omega), isT 65 h133, mD 68 da db (by omega), isT 70 h134, isF 75 h135]).drop (h2 := hB) (h4 := hB)
                      · cases h136 : (decide (f ≤ t))
                        · exact (con (nx' := 3) [no 5 h1, isT 9 h2, no 14 h95, isT 18 h96, isF 23 h119, isT 37 h120, hD 47 pi pb e (by omega) (by omega), isF 51 h131, isF 55 h132, mD 64 sa sb (by omega), isT 65 h133, mD 68 da db (by omega), isT 70 h134, isT 75 h135, isF 82 h136]).drop (h2 := hB) (h4 := hB)
                        · exact (con (nx' := 3) [no 5 h1, isT 9 h2, no 14 h95, isT 18 h96, isF 23 h119, isT 37 h120, hD 47 pi pb e (by omega) (by omega), isF 51 h131, isF 55 h132, mD 64 sa sb (by omega), isT 65 h133, mD 68 da db (by omega), isT 70 h134, isT 75 h135, isT 82 h136]).drop (h2 := hB) (h4 := hB)
                · cases h137 : (e != 0)
                  · cases h138 : (mayP sa sb)
                    · exact (con (nx' := 3) [no 5 h1, isT 9 h2, no 14 h95, isT 18 h96, isF 23 h119, isT 37 h120, hD 47 pi pb e (by omega) (by omega), isF 51 h131, isT 55 h132, no 61 h137, mD 64 sa sb (by omega), isF 65 h138]).drop (h2 := hB) (h4 := hB)
                    · cases h139 : (mayP da db)
                      · exact (con (nx' := 3) [no 5 h1, isT 9 h2, no 14 h95, isT 18 h96, isF 23 h119, isT 37 h120, hD 47 pi pb e (by omega) (by omega), isF 51 h131, isT 55 h132, no 61 h137, mD 64 sa sb (by omega), isT 65 h138, mD 68 da db (by omega), isF 70 h139]).drop (h2 := hB) (h4 := hB)
                      · cases h140 : (decide (f ≥ 1))
                        · exact (con (nx' := 3) [no 5 h1, isT 9 h2, no 14 h95, isT 18 h96, isF 23 h119, isT 37 h120, hD 47 pi pb e (by omega) (by omega), isF 51 h131, isT 55 h132, no 61 h137, mD 64 sa sb (by omega), isT 65 h138, mD 68 da db (by omega), isT 70 h139, isF 75 h140]).drop (h2 := hB) (h4 := hB)
                        · cases h141 : (decide (f ≤ t))
                          · exact (con (nx' := 3) [no 5 h1, isT 9 h2, no 14 h95, isT 18 h96, isF 23 h119, isT 37 h120, hD 47 pi pb e (by omega) (by omega), isF 51 h131, isT 55 h132, no 61 h137, mD 64 sa sb (by omega), isT 65 h138, mD 68 da db (by omega), isT 70 h139, isT 75 h140, isF 82 h141]).drop (h2 := hB) (h4 := hB)
                          · exact (con (nx' := 3) [no 5 h1, isT 9 h2, no 14 h95, isT 18 h96, isF 23 h119, isT 37 h120, hD 47 pi pb e (by omega) (by omega), isF 51 h131, isT 55 h132, no 61 h137, mD 64 sa sb (by omega), isT 65 h138, mD 68 da db (by omega), isT 70 h139, isT 75 h140, isT 82 h141]).drop (h2 := hB) (h4 := hB)
                  · exact (con (nx' := 3) [no 5 h1, isT 9 h2, no 14 h95, isT 18 h96, isF 23 h119, isT 37 h120, hD 47 pi pb e (by omega) (by omega), isF 51 h131, isT 55 h132, yes 61 h137]).drop (h2 := hB) (h4 := hB)
              · exact (con (nx' := 3) [no 5 h1, isT 9 h2, no 14 h95, isT 18 h96, isF 23 h119, isT 37 h120, hD 47 pi pb e (by omega) (by omega), isT 51 h131]).drop (h2 := hB) (h4 := hB)
          · cases h142 : (p != 6)
            · cases h143 : (k == 1)
              · cases h144 : (k == 2)
                · cases h145 : (mayP sa sb)
                  · exact (con (nx' := 3) [no 5 h1, isT 9 h2, no 14 h95, isT 18 h96, isT 23 h119, isF 28 h142, isF 37 h143, isF 47 h144, mD 56 sa sb (by omega), isF 57 h145]).drop (h2 := hB) (h4 := hB)
                  · cases h146 : (mayP da db)
                    · exact (con (nx' := 3) [no 5 h1, isT 9 h2, no 14 h95, isT 18 h96, isT 23 h119, isF 28 h142, isF 37 h143, isF 47 h144, mD 56 sa sb (by omega), isT 57 h145, mD 60 da db (by omega), isF 62 h146]).drop (h2 := hB) (h4 := hB)
                    · cases h147 : (decide (f ≥ 1))
                      · exact (con (nx' := 3) [no 5 h1, isT 9 h2, no 14 h95, isT 18 h96, isT 23 h119, isF 28 h142, isF 37 h143, isF 47 h144, mD 56 sa sb (by omega), isT 57 h145, mD 60 da db (by omega), isT 62 h146, isF 67 h147]).drop (h2 := hB) (h4 := hB)
                      · cases h148 : (decide (f ≤ t))
                        · exact (con (nx' := 3) [no 5 h1, isT 9 h2, no 14 h95, isT 18 h96, isT 23 h119, isF 28 h142, isF 37 h143, isF 47 h144, mD 56 sa sb (by omega), isT 57 h145, mD 60 da db (by omega), isT 62 h146, isT 67 h147, isF 74 h148]).drop (h2 := hB) (h4 := hB)
                        · exact (con (nx' := 3) [no 5 h1, isT 9 h2, no 14 h95, isT 18 h96, isT 23 h119, isF 28 h142, isF 37 h143, isF 47 h144, mD 56 sa sb (by omega), isT 57 h145, mD 60 da db (by omega), isT 62 h146, isT 67 h147, isT 74 h148]).drop (h2 := hB) (h4 := hB)
                · cases h149 : (e != 0)
                  · cases h150 : (mayP sa sb)
                    · exact (con (nx' := 3) [no 5 h1, isT 9 h2, no 14 h95, isT 18 h96, isT 23 h119, isF 28 h142, isF 37 h143, isT 47 h144, no 53 h149, mD 56 sa sb (by omega), isF 57 h150]).drop (h2 := hB) (h4 := hB)
                    · cases h151 : (mayP da db)
                      · exact (con (nx' := 3) [no 5 h1, isT 9 h2, no 14 h95, isT 18 h96, isT 23 h119, isF 28 h142, isF 37 h143, isT 47 h144, no 53 h149, mD 56 sa sb (by omega), isT 57 h150, mD 60 da db (by omega), isF 62 h151]).drop (h2 := hB) (h4 := hB)
                      · cases h152 : (decide (f ≥ 1))
                        · exact (con (nx' := 3) [no 5 h1, isT 9 h2, no 14 h95, isT 18 h96, isT 23 h119, isF 28 h142, isF 37 h143, isT 47 h144, no 53 h149, mD 56 sa sb (by omega), isT 57 h150, mD 60 da db (by omega), isT 62 h151, isF 67 h152]).drop (h2 := hB) (h4 := hB)
                        · cases h153 : (decide (f ≤ t))
                          · exact (con (nx' := 3) [no 5 h1, isT 9 h2, no 14 h95, isT 18 h96, isT 23 h119, isF 28 h142, isF 37 h143, isT 47 h144, no 53 h149, mD 56 sa sb (by omega), isT 57 h150, mD 60 da db (by omega), isT 62 h151, isT 67 h152, isF 74 h153]).drop (h2 := hB) (h4 := hB)
                          · exact (con (nx' := 3) [no 5 h1, isT 9 h2, no 14 h95, isT 18 h96, isT 23 h119, isF 28 h142, isF 37 h143, isT 47 h144, no 53 h149, mD 56 sa sb (by omega), isT 57 h150, mD 60 da db (by omega), isT 62 h151, isT 67 h152, isT 74 h153]).drop (h2 := hB) (h4 := hB)
                  · exact (con (nx' := 3) [no 5 h1, isT 9 h2, no 14 h95, isT 18 h96, isT 23 h119, isF 28 h142, isF 37 h143, isT 47 h144, yes 53 h149]).drop (h2 := hB) (h4 := hB)
              · cases h154 : (hasP pi pb e)
                · cases h155 : (k == 2)
                  · cases h156 : (mayP sa sb)
                    · exact (con (nx' := 3) [no 5 h1, isT 9 h2, no 14 h95, isT 18 h96, isT 23 h119, isF 28 h142, isT 37 h143, hD 47 pi pb e (by omega) (by omega), isF 51 h154, isF 55 h155, mD 64 sa sb (by omega), isF 65 h156]).drop (h2 := hB) (h4 := hB)
                    · cases h157 : (mayP da db)
                      · exact (con (nx' := 3) [no 5 h1, isT 9 h2, no 14 h95, isT 18 h96, isT 23 h119, isF 28 h142, isT 37 h143, hD 47 pi pb e (by omega) (by omega), isF 51 h154, isF 55 h155, mD 64 sa sb (by omega), isT 65 h156, mD 68 da db (by omega), isF 70 h157]).drop (h2 := hB) (h4 := hB)
                      · cases h158 : (decide (f ≥ 1))
                        · exact (con (nx' := 3) [no 5 h1, isT 9 h2, no 14 h95, isT 18 h96, isT 23 h119, isF 28 h142, isT 37 h143, hD 47 pi pb e (by omega) (by omega), isF 51 h154, isF 55 h155, mD 64 sa sb (by omega), isT 65 h156, mD 68 da db (by omega), isT 70 h157, isF 75 h158]).drop (h2 := hB) (h4 := hB)
                        · cases h159 : (decide (f ≤ t))
                          · exact (con (nx' := 3) [no 5 h1, isT 9 h2, no 14 h95, isT 18 h96, isT 23 h119, isF 28 h142, isT 37 h143, hD 47 pi pb e (by omega) (by omega), isF 51 h154, isF 55 h155, mD 64 sa sb (by omega), isT 65 h156, mD 68 da db (by omega), isT 70 h157, isT 75 h158, isF 82 h159]).drop (h2 := hB) (h4 := hB)
                          · exact (con (nx' := 3) [no 5 h1, isT 9 h2, no 14 h95, isT 18 h96, isT 23 h119, isF 28 h142, isT 37 h143, hD 47 pi pb e (by omega) (by omega), isF 51 h154, isF 55 h155, mD 64 sa sb (by omega), isT 65 h156, mD 68 da db (by omega), isT 70 h157, isT 75 h158, isT 82 h159]).drop (h2 := hB) (h4 := hB)
                  · cases h160 : (e != 0)
                    · cases h161 : (mayP sa sb)
                      · exact (con (nx' := 3) [no 5 h1, isT 9 h2, no 14 h95, isT 18 h96, isT 23 h119, isF 28 h142, isT 37 h143, hD 47 pi pb e (by omega) (by omega), isF 51 h154, isT 55 h155, no 61 h160, mD 64 sa sb (by omega), isF 65 h161]).drop (h2 := hB) (h4 := hB)
                      · cases h162 : (mayP da db)
                        · exact (con (nx' := 3) [no 5 h1, isT 9 h2, no 14 h95, isT 18 h96, isT 23 h119, isF 28 h142, isT 37 h143, hD 47 pi pb e (by omega) (by omega), isF 51 h154, isT 55 h155, no 61 h160, mD 64 sa sb (by omega), isT 65 h161, mD 68 da db (by omega), isF 70 h162]).drop (h2 := hB) (h4 := hB)
                        · cases h163 : (decide (f ≥ 1))
                          · exact (con (nx' := 3) [no 5 h1, isT 9 h2, no 14 h95, isT 18 h96, isT 23 h119, isF 28 h142, isT 37 h143, hD 47 pi pb e (by omega) (by omega), isF 51 h154, isT 55 h155, no 61 h160, mD 64 sa sb (by omega), isT 65 h161, mD 68 da db (by omega), isT 70 h162, isF 75 h163]).drop (h2 := hB) (h4 := hB)
                          · cases h164 : (decide (f ≤ t))
                            · exact (con (nx' := 3) [no 5 h1, isT 9 h2, no 14 h95, isT 18 h96, isT 23 h119, isF 28 h142, isT 37 h143, hD 47 pi pb e (by omega) (by omega), isF 51 h154, isT 55 h155, no 61 h160, mD 64 sa sb (by omega), isT 65 h161, mD 68 da db (by omega), isT 70 h162, isT 75 h163, isF 82 h164]).drop (h2 := hB) (h4 := hB)
                            · exact (con (nx' := 3) [no 5 h1, isT 9 h2, no 14 h95, isT 18 h96, isT 23 h119, isF 28 h142, isT 37 h143, hD 47 pi pb e (by omega) (by omega), isF 51 h154, isT 55 h155, no 61 h160, mD 64 sa sb (by omega), isT 65 h161, mD 68 da db (by omega), isT 70 h162, isT 75 h163, isT 82 h164]).drop (h2 := hB) (h4 := hB)
                    · exact (con (nx' := 3) [no 5 h1, isT 9 h2, no 14 h95, isT 18 h96, isT 23 h119, isF 28 h142, isT 37 h143, hD 47 pi pb e (by omega) (by omega), isF 51 h154, isT 55 h155, yes 61 h160]).drop (h2 := hB) (h4 := hB)
                · exact (con (nx' := 3) [no 5 h1, isT 9 h2, no 14 h95, isT 18 h96, isT 23 h119, isF 28 h142, isT 37 h143, hD 47 pi pb e (by omega) (by omega), isT 51 h154]).drop (h2 := hB) (h4 := hB)
            · cases h165 : (p != 17)
              · cases h166 : (k == 1)
                · cases h167 : (k == 2)
                  · cases h168 : (mayP sa sb)
                    · exact (con (nx' := 3) [no 5 h1, isT 9 h2, no 14 h95, isT 18 h96, isT 23 h119, isT 28 h142, no 33 h165, isF 37 h166, isF 47 h167, mD 56 sa sb (by omega), isF 57 h168]).drop (h2 := hB) (h4 := hB)
                    · cases h169 : (mayP da db)
                      · exact (con (nx' := 3) [no 5 h1, isT 9 h2, no 14 h95, isT 18 h96, isT 23 h119, isT 28 h142, no 33 h165, isF 37 h166, isF 47 h167, mD 56 sa sb (by omega), isT 57 h168, mD 60 da db (by omega), isF 62 h169]).drop (h2 := hB) (h4 := hB)
                      · cases h170 : (decide (f ≥ 1))
                        · exact (con (nx' := 3) [no 5 h1, isT 9 h2, no 14 h95, isT 18 h96, isT 23 h119, isT 28 h142, no 33 h165, isF 37 h166, isF 47 h167, mD 56 sa sb (by omega), isT 57 h168, mD 60 da db (by omega), isT 62 h169, isF 67 h170]).drop (h2 := hB) (h4 := hB)
                        · cases h171 : (decide (f ≤ t))
                          · exact (con (nx' := 3) [no 5 h1, isT 9 h2, no 14 h95, isT 18 h96, isT 23 h119, isT 28 h142, no 33 h165, isF 37 h166, isF 47 h167, mD 56 sa sb (by omega), isT 57 h168, mD 60 da db (by omega), isT 62 h169, isT 67 h170, isF 74 h171]).drop (h2 := hB) (h4 := hB)
                          · exact (con (nx' := 3) [no 5 h1, isT 9 h2, no 14 h95, isT 18 h96, isT 23 h119, isT 28 h142, no 33 h165, isF 37 h166, isF 47 h167, mD 56 sa sb (by omega), isT 57 h168, mD 60 da db (by omega), isT 62 h169, isT 67 h170, isT 74 h171]).drop (h2 := hB) (h4 := hB)
                  · cases h172 : (e != 0)
                    · cases h173 : (mayP sa sb)
                      · exact (con (nx' := 3) [no 5 h1, isT 9 h2, no 14 h95, isT 18 h96, isT 23 h119, isT 28 h142, no 33 h165, isF 37 h166, isT 47 h167, no 53 h172, mD 56 sa sb (by omega), isF 57 h173]).drop (h2 := hB) (h4 := hB)
                      · cases h174 : (mayP da db)
                        · exact (con (nx' := 3) [no 5 h1, isT 9 h2, no 14 h95, isT 18 h96, isT 23 h119, isT 28 h142, no 33 h165, isF 37 h166, isT 47 h167, no 53 h172, mD 56 sa sb (by omega), isT 57 h173, mD 60 da db (by omega), isF 62 h174]).drop (h2 := hB) (h4 := hB)
                        · cases h175 : (decide (f ≥ 1))
                          · exact (con (nx' := 3) [no 5 h1, isT 9 h2, no 14 h95, isT 18 h96, isT 23 h119, isT 28 h142, no 33 h165, isF 37 h166, isT 47 h167, no 53 h172, mD 56 sa sb (by omega), isT 57 h173, mD 60 da db (by omega), isT 62 h174, isF 67 h175]).drop (h2 := hB) (h4 := hB)
                          · cases h176 : (decide (f ≤ t))
                            · exact (con (nx' := 3) [no 5 h1, isT 9 h2, no 14 h95, isT 18 h96, isT 23 h119, isT 28 h142, no 33 h165, isF 37 h166, isT 47 h167, no 53 h172, mD 56 sa sb (by omega), isT 57 h173, mD 60 da db (by omega), isT 62 h174, isT 67 h175, isF 74 h176]).drop (h2 := hB) (h4 := hB)
                            · exact (con (nx' := 3) [no 5 h1, isT 9 h2, no 14 h95, isT 18 h96, isT 23 h119, isT 28 h142, no 33 h165, isF 37 h166, isT 47 h167, no 53 h172, mD 56 sa sb (by omega), isT 57 h173, mD 60 da db (by omega), isT 62 h174, isT 67 h175, isT 74 h176]).drop (h2 := hB) (h4 := hB)
                    · exact (con (nx' := 3) [no 5 h1, isT 9 h2, no 14 h95, isT 18 h96, isT 23 h119, isT 28 h142, no 33 h165, isF 37 h166, isT 47 h167, yes 53 h172]).drop (h2 := hB) (h4 := hB)
                · cases h177 : (hasP pi pb e)
                  · cases h178 : (k == 2)
                    · cases h179 : (mayP sa sb)
                      · exact (con (nx' := 3) [no 5 h1, isT 9 h2, no 14 h95, isT 18 h96, isT 23 h119, isT 28 h142, no 33 h165, isT 37 h166, hD 47 pi pb e (by omega) (by omega), isF 51 h177, isF 55 h178, mD 64 sa sb (by omega), isF 65 h179]).drop (h2 := hB) (h4 := hB)
                      · cases h180 : (mayP da db)
                        · exact (con (nx' := 3) [no 5 h1, isT 9 h2, no 14 h95, isT 18 h96, isT 23 h119, isT 28 h142, no 33 h165, isT 37 h166, hD 47 pi pb e (by omega) (by omega), isF 51 h177, isF 55 h178, mD 64 sa sb (by omega), isT 65 h179, mD 68 da db (by omega), isF 70 h180]).drop (h2 := hB) (h4 := hB)
                        · cases h181 : (decide (f ≥ 1))
                          · exact (con (nx' := 3) [no 5 h1, isT 9 h2, no 14 h95, isT 18 h96, isT 23 h119, isT 28 h142, no 33 h165, isT 37 h166, hD 47 pi pb e (by omega) (by omega), isF 51 h177, isF 55 h178, mD 64 sa sb (by omega), isT 65 h179, mD 68 da db (by omega), isT 70 h180, isF 75 h181]).drop (h2 := hB) (h4 := hB)
                          · cases h182 : (decide (f ≤ t))
                            · exact (con (nx' := 3) [no 5 h1, isT 9 h2, no 14 h95, isT 18 h96, isT 23 h119, isT 28 h142, no 33 h165, isT 37 h166, hD 47 pi pb e (by omega) (by omega), isF 51 h177, isF 55 h178, mD 64 sa sb (by omega), isT 65 h179, mD 68 da db (by omega), isT 70 h180, isT 75 h181, isF 82 h182]).drop (h2 := hB) (h4 := hB)
                            · exact (con (nx' := 3) [no 5 h1, isT 9 h2, no 14 h95, isT 18 h96, isT 23 h119, isT 28 h142, no 33 h165, isT 37 h166, hD 47 pi pb e (by omega) (by omega), isF 51 h177, isF 55 h178, mD 64 sa sb (by omega), isT 65 h179, mD 68 da db (by omega), isT 70 h180, isT 75 h181, isT 82 h182]).drop (h2 := hB) (h4 := hB)
                    · cases h183 : (e != 0)
                      · cases h184 : (mayP sa sb)
                        · exact (con (nx' := 3) [no 5 h1, isT 9 h2, no 14 h95, isT 18 h96, isT 23 h119, isT 28 h142, no 33 h165, isT 37 h166, hD 47 pi pb e (by omega) (by omega), isF 51 h177, isT 55 h178, no 61 h183, mD 64 sa sb (by omega), isF 65 h184]).drop (h2 := hB) (h4 := hB)
                        · cases h185 : (mayP da db)
                          · exact (con (nx' := 3) [no 5 h1, isT 9 h2, no 14 h95, isT 18 h96, isT 23 h119, isT 28 h142, no 33 h165, isT 37 h166, hD 47 pi pb e (by omega) (by omega), isF 51 h177, isT 55 h178, no 61 h183, mD 64 sa sb (by omega), isT 65 h184, mD 68 da db (by omega), isF 70 h185]).drop (h2 := hB) (h4 := hB)
                          · cases h186 : (decide (f ≥ 1))
                            · exact (con (nx' := 3) [no 5 h1, isT 9 h2, no 14 h95, isT 18 h96, isT 23 h119, isT 28 h142, no 33 h165, isT 37 h166, hD 47 pi pb e (by omega) (by omega), isF 51 h177, isT 55 h178, no 61 h183, mD 64 sa sb (by omega), isT 65 h184, mD 68 da db (by omega), isT 70 h185, isF 75 h186]).drop (h2 := hB) (h4 := hB)
                            · cases h187 : (decide (f ≤ t))
                              · exact (con (nx' := 3) [no 5 h1, isT 9 h2, no 14 h95, isT 18 h96, isT 23 h119, isT 28 h142, no 33 h165, isT 37 h166, hD 47 pi pb e (by omega) (by omega), isF 51 h177, isT 55 h178, no 61 h183, mD 64 sa sb (by omega), isT 65 h184, mD 68 da db (by omega), isT 70 h185, isT 75 h186, isF 82 h187]).drop (h2 := hB) (h4 := hB)
                              · exact (con (nx' := 3) [no 5 h1, isT 9 h2, no 14 h95, isT 18 h96, isT 23 h119, isT 28 h142, no 33 h165, isT 37 h166, hD 47 pi pb e (by omega) (by omega), isF 51 h177, isT 55 h178, no 61 h183, mD 64 sa sb (by omega), isT 65 h184, mD 68 da db (by omega), isT 70 h185, isT 75 h186, isT 82 h187]).drop (h2 := hB) (h4 := hB)
                      · exact (con (nx' := 3) [no 5 h1, isT 9 h2, no 14 h95, isT 18 h96, isT 23 h119, isT 28 h142, no 33 h165, isT 37 h166, hD 47 pi pb e (by omega) (by omega), isF 51 h177, isT 55 h178, yes 61 h183]).drop (h2 := hB) (h4 := hB)
                  · exact (con (nx' := 3) [no 5 h1, isT 9 h2, no 14 h95, isT 18 h96, isT 23 h119, isT 28 h142, no 33 h165, isT 37 h166, hD 47 pi pb e (by omega) (by omega), isT 51 h177]).drop (h2 := hB) (h4 := hB)
              · exact (con (nx' := 3) [no 5 h1, isT 9 h2, no 14 h95, isT 18 h96, isT 23 h119, isT 28 h142, yes 33 h165]).drop (h2 := hB) (h4 := hB)
      · exact (con (nx' := 3) [no 5 h1, isT 9 h2, yes 14 h95]).drop (h2 := hB) (h4 := hB)
  · cases h188 : (p == 6)
    · cases h189 : (p == 17)
      · exact (con (nx' := 3) [yes 5 h1, isF 9 h188, isF 14 h189]).drop (h2 := hB) (h4 := hB)
      · cases h190 : (sa == 0 && (sb == 0 && true))
        · exact (con (nx' := 3) [yes 5 h1, isF 9 h188, isT 14 h189, isF 20 h190]).drop (h2 := hB) (h4 := hB)
        · cases h191 : (da == 0 && (db == 0 && true))
          · exact (con (nx' := 3) [yes 5 h1, isF 9 h188, isT 14 h189, isT 20 h190, isF 26 h191]).drop (h2 := hB) (h4 := hB)
          · cases h192 : (hasP pi pb e)
            · cases h193 : (f != 0)
              · exact (con (nx' := 3) [yes 5 h1, isF 9 h188, isT 14 h189, isT 20 h190, isT 26 h191, hD 36 pi pb e (by omega) (by omega), nisT 41 h192, isF 46 h193]).drop (h2 := hB) (h4 := hB)
              · cases h194 : (f == t)
                · exact (con (nx' := 3) [yes 5 h1, isF 9 h188, isT 14 h189, isT 20 h190, isT 26 h191, hD 36 pi pb e (by omega) (by omega), nisT 41 h192, isT 46 h193, isF 53 h194]).drop (h2 := hB) (h4 := hB)
                · cases h195 : (hasP pi pb ia)
                  · exact (con (nx' := 3) [yes 5 h1, isF 9 h188, isT 14 h189, isT 20 h190, isT 26 h191, hD 36 pi pb e (by omega) (by omega), nisT 41 h192, isT 46 h193, isT 53 h194, hD 64 pi pb ia (by omega) (by omega), isF 68 h195]).drop (h2 := hB) (h4 := hB)
                  · exact (con (nx' := 3) [yes 5 h1, isF 9 h188, isT 14 h189, isT 20 h190, isT 26 h191, hD 36 pi pb e (by omega) (by omega), nisT 41 h192, isT 46 h193, isT 53 h194, hD 64 pi pb ia (by omega) (by omega), isT 68 h195]).drop (h2 := hB) (h4 := hB)
            · exact (con (nx' := 3) [yes 5 h1, isF 9 h188, isT 14 h189, isT 20 h190, isT 26 h191, hD 36 pi pb e (by omega) (by omega), nisF 41 h192]).drop (h2 := hB) (h4 := hB)
    · cases h196 : (sa == 0 && (sb == 0 && true))
      · exact (con (nx' := 3) [yes 5 h1, isT 9 h188, isF 20 h196]).drop (h2 := hB) (h4 := hB)
      · cases h197 : (da == 0 && (db == 0 && true))
        · exact (con (nx' := 3) [yes 5 h1, isT 9 h188, isT 20 h196, isF 26 h197]).drop (h2 := hB) (h4 := hB)
        · cases h198 : (hasP pi pb e)
          · cases h199 : (f != 0)
            · exact (con (nx' := 3) [yes 5 h1, isT 9 h188, isT 20 h196, isT 26 h197, hD 36 pi pb e (by omega) (by omega), nisT 41 h198, isF 46 h199]).drop (h2 := hB) (h4 := hB)
            · cases h200 : (f == t)
              · exact (con (nx' := 3) [yes 5 h1, isT 9 h188, isT 20 h196, isT 26 h197, hD 36 pi pb e (by omega) (by omega), nisT 41 h198, isT 46 h199, isF 53 h200]).drop (h2 := hB) (h4 := hB)
              · cases h201 : (hasP pi pb ia)
                · exact (con (nx' := 3) [yes 5 h1, isT 9 h188, isT 20 h196, isT 26 h197, hD 36 pi pb e (by omega) (by omega), nisT 41 h198, isT 46 h199, isT 53 h200, hD 64 pi pb ia (by omega) (by omega), isF 68 h201]).drop (h2 := hB) (h4 := hB)
                · exact (con (nx' := 3) [yes 5 h1, isT 9 h188, isT 20 h196, isT 26 h197, hD 36 pi pb e (by omega) (by omega), nisT 41 h198, isT 46 h199, isT 53 h200, hD 64 pi pb ia (by omega) (by omega), isT 68 h201]).drop (h2 := hB) (h4 := hB)
          · exact (con (nx' := 3) [yes 5 h1, isT 9 h188, isT 20 h196, isT 26 h197, hD 36 pi pb e (by omega) (by omega), nisF 41 h198]).drop (h2 := hB) (h4 := hB)
def rd_Clash_v (o pi pb : Int) (v : Value) (k p sa sb da db e f t ia ip k2 p2 sa2 sb2 da2 db2 e2 f2 t2 ia2 ip2 : Int) : Value := (bif (k == 3) then (bif (k2 == 3) then (bif (p == p2) then (bif (e == e2) then (bif (f == f2) then (.bool true) else (.bool (ia == ia2 && (ip == ip2 && true)))) else (.bool (ia == ia2 && (ip == ip2 && true)))) else (.bool false)) else (bif (k != 3) then (.bool false) else (bif (p2 != 0) then (bif (p2 != p) then (.bool false) else (bif (k2 == 2) then (bif (o == e) then (bif (decide (f ≥ f2)) then (.bool (decide (f ≤ t2))) else (.bool false)) else (.bool false)) else (bif (e2 == e) then (bif (decide (f ≥ f2)) then (.bool (decide (f ≤ t2))) else (.bool false)) else (.bool false)))) else (bif (k2 == 2) then (bif (o == e) then (bif (decide (f ≥ f2)) then (.bool (decide (f ≤ t2))) else (.bool false)) else (.bool false)) else (bif (e2 == e) then (bif (decide (f ≥ f2)) then (.bool (decide (f ≤ t2))) else (.bool false)) else (.bool false)))))) else (bif (k2 == 3) then (bif (k2 != 3) then (.bool false) else (bif (p != 0) then (bif (p != p2) then (.bool false) else (bif (k == 2) then (bif (o == e2) then (bif (decide (f2 ≥ f)) then (.bool (decide (f2 ≤ t))) else (.bool false)) else (.bool false)) else (bif (e == e2) then (bif (decide (f2 ≥ f)) then (.bool (decide (f2 ≤ t))) else (.bool false)) else (.bool false)))) else (bif (k == 2) then (bif (o == e2) then (bif (decide (f2 ≥ f)) then (.bool (decide (f2 ≤ t))) else (.bool false)) else (.bool false)) else (bif (e == e2) then (bif (decide (f2 ≥ f)) then (.bool (decide (f2 ≤ t))) else (.bool false)) else (.bool false))))) else (bif (k != 3) then (.bool false) else (bif (p2 != 0) then (bif (p2 != p) then (.bool false) else (bif (k2 == 2) then (bif (o == e) then (bif (decide (f ≥ f2)) then (.bool (decide (f ≤ t2))) else (.bool false)) else (.bool false)) else (bif (e2 == e) then (bif (decide (f ≥ f2)) then (.bool (decide (f ≤ t2))) else (.bool false)) else (.bool false)))) else (bif (k2 == 2) then (bif (o == e) then (bif (decide (f ≥ f2)) then (.bool (decide (f ≤ t2))) else (.bool false)) else (.bool false)) else (bif (e2 == e) then (bif (decide (f ≥ f2)) then (.bool (decide (f ≤ t2))) else (.bool false)) else (.bool false)))))))
theorem rd_Clash {A : Rx.Amb} (o pi pb : Int) (v : Value) (k p sa sb da db e f t ia ip k2 p2 sa2 sb2 da2 db2 e2 f2 t2 ia2 ip2 : Int) (hv : inC 2 v = true) : CallJ Tryz.prog A 98 [.pointer (some ⟨0, 0, some 0⟩), .agg #[.int .i64 k, .int .u8 p, .int .u32 sa, .int .i64 sb, .int .u32 da, .int .i64 db, .int .u32 e, .int .u16 f, .int .u16 t, .int .u32 ia, .int .u16 ip], .agg #[.int .i64 k2, .int .u8 p2, .int .u32 sa2, .int .i64 sb2, .int .u32 da2, .int .i64 db2, .int .u32 e2, .int .u16 f2, .int .u16 t2, .int .u32 ia2, .int .u16 ip2]] [(0, ([.int .u32 o, .int .u32 pi, .int .i64 pb, v], 199, false))] 2 (rd_Clash_v o pi pb v k p sa sb da db e f t ia ip k2 p2 sa2 sb2 da2 db2 e2 f2 t2 ia2 ip2) [(0, ([.int .u32 o, .int .u32 pi, .int .i64 pb, v], 199, false))] 2 := by
  unfold rd_Clash_v
  have hB : inBlks 2 [(0, ([.int .u32 o, .int .u32 pi, .int .i64 pb, v], 199, false))] = true := by
    simp only [inBlks, List.all_cons, List.all_nil, hv]
    rfl
  cases h1 : (k == 3)
  · cases h2 : (k2 == 3)
    · cases h3 : (k != 3)
      · cases h4 : (p2 != 0)
        · cases h5 : (k2 == 2)
          · cases h6 : (e2 == e)
            · exact (con (nx' := 5) [isF 6 h1, no 15 h2, isF 19 h3, isF 23 h4, no 39 h5, isF 47 h6]).drop (h2 := hB) (h4 := hB)
            · cases h7 : (decide (f ≥ f2))
              · exact (con (nx' := 5) [isF 6 h1, no 15 h2, isF 19 h3, isF 23 h4, no 39 h5, isT 47 h6, isF 54 h7]).drop (h2 := hB) (h4 := hB)
              · exact (con (nx' := 5) [isF 6 h1, no 15 h2, isF 19 h3, isF 23 h4, no 39 h5, isT 47 h6, isT 54 h7]).drop (h2 := hB) (h4 := hB)
          · cases h8 : (o == e)
            · exact (con (nx' := 5) [isF 6 h1, no 15 h2, isF 19 h3, isF 23 h4, yes 39 h5, isF 49 h8]).drop (h2 := hB) (h4 := hB)
            · cases h9 : (decide (f ≥ f2))
              · exact (con (nx' := 5) [isF 6 h1, no 15 h2, isF 19 h3, isF 23 h4, yes 39 h5, isT 49 h8, isF 56 h9]).drop (h2 := hB) (h4 := hB)
              · exact (con (nx' := 5) [isF 6 h1, no 15 h2, isF 19 h3, isF 23 h4, yes 39 h5, isT 49 h8, isT 56 h9]).drop (h2 := hB) (h4 := hB)
        · cases h10 : (p2 != p)
          · cases h11 : (k2 == 2)
            · cases h12 : (e2 == e)
              · exact (con (nx' := 5) [isF 6 h1, no 15 h2, isF 19 h3, isT 23 h4, no 31 h10, no 39 h11, isF 47 h12]).drop (h2 := hB) (h4 := hB)
              · cases h13 : (decide (f ≥ f2))
                · exact (con (nx' := 5) [isF 6 h1, no 15 h2, isF 19 h3, isT 23 h4, no 31 h10, no 39 h11, isT 47 h12, isF 54 h13]).drop (h2 := hB) (h4 := hB)
                · exact (con (nx' := 5) [isF 6 h1, no 15 h2, isF 19 h3, isT 23 h4, no 31 h10, no 39 h11, isT 47 h12, isT 54 h13]).drop (h2 := hB) (h4 := hB)
            · cases h14 : (o == e)
              · exact (con (nx' := 5) [isF 6 h1, no 15 h2, isF 19 h3, isT 23 h4, no 31 h10, yes 39 h11, isF 49 h14]).drop (h2 := hB) (h4 := hB)
              · cases h15 : (decide (f ≥ f2))
                · exact (con (nx' := 5) [isF 6 h1, no 15 h2, isF 19 h3, isT 23 h4, no 31 h10, yes 39 h11, isT 49 h14, isF 56 h15]).drop (h2 := hB) (h4 := hB)
                · exact (con (nx' := 5) [isF 6 h1, no 15 h2, isF 19 h3, isT 23 h4, no 31 h10, yes 39 h11, isT 49 h14, isT 56 h15]).drop (h2 := hB) (h4 := hB)
          · exact (con (nx' := 4) [isF 6 h1, no 15 h2, isF 19 h3, isT 23 h4, yes 31 h10]).drop (h2 := hB) (h4 := hB)
      · exact (con (nx' := 4) [isF 6 h1, no 15 h2, isT 19 h3]).drop (h2 := hB) (h4 := hB)
    · cases h16 : (k2 != 3)
      · cases h17 : (p != 0)
        · cases h18 : (k == 2)
          · cases h19 : (e == e2)
            · exact (con (nx' := 5) [isF 6 h1, yes 15 h2, isF 23 h16, isF 27 h17, no 43 h18, isF 51 h19]).drop (h2 := hB) (h4 := hB)
            · cases h20 : (decide (f2 ≥ f))
              · exact (con (nx' := 5) [isF 6 h1, yes 15 h2, isF 23 h16, isF 27 h17, no 43 h18, isT 51 h19, isF 58 h20]).drop (h2 := hB) (h4 := hB)
              · exact (con (nx' := 5) [isF 6 h1, yes 15 h2, isF 23 h16, isF 27 h17, no 43 h18, isT 51 h19, isT 58 h20]).drop (h2 := hB) (h4 := hB)
          · cases h21 : (o == e2)
            · exact (con (nx' := 5) [isF 6 h1, yes 15 h2, isF 23 h16, isF 27 h17, yes 43 h18, isF 53 h21]).drop (h2 := hB) (h4 := hB)
            · cases h22 : (decide (f2 ≥ f))
              · exact (con (nx' := 5) [isF 6 h1, yes 15 h2, isF 23 h16, isF 27 h17, yes 43 h18, isT 53 h21, isF 60 h22]).drop (h2 := hB) (h4 := hB)
              · exact (con (nx' := 5) [isF 6 h1, yes 15 h2, isF 23 h16, isF 27 h17, yes 43 h18, isT 53 h21, isT 60 h22]).drop (h2 := hB) (h4 := hB)
        · cases h23 : (p != p2)
          · cases h24 : (k == 2)
            · cases h25 : (e == e2)
              · exact (con (nx' := 5) [isF 6 h1, yes 15 h2, isF 23 h16, isT 27 h17, no 35 h23, no 43 h24, isF 51 h25]).drop (h2 := hB) (h4 := hB)
              · cases h26 : (decide (f2 ≥ f))
                · exact (con (nx' := 5) [isF 6 h1, yes 15 h2, isF 23 h16, isT 27 h17, no 35 h23, no 43 h24, isT 51 h25, isF 58 h26]).drop (h2 := hB) (h4 := hB)
                · exact (con (nx' := 5) [isF 6 h1, yes 15 h2, isF 23 h16, isT 27 h17, no 35 h23, no 43 h24, isT 51 h25, isT 58 h26]).drop (h2 := hB) (h4 := hB)
            · cases h27 : (o == e2)
              · exact (con (nx' := 5) [isF 6 h1, yes 15 h2, isF 23 h16, isT 27 h17, no 35 h23, yes 43 h24, isF 53 h27]).drop (h2 := hB) (h4 := hB)
              · cases h28 : (decide (f2 ≥ f))
                · exact (con (nx' := 5) [isF 6 h1, yes 15 h2, isF 23 h16, isT 27 h17, no 35 h23, yes 43 h24, isT 53 h27, isF 60 h28]).drop (h2 := hB) (h4 := hB)
                · exact (con (nx' := 5) [isF 6 h1, yes 15 h2, isF 23 h16, isT 27 h17, no 35 h23, yes 43 h24, isT 53 h27, isT 60 h28]).drop (h2 := hB) (h4 := hB)
          · exact (con (nx' := 4) [isF 6 h1, yes 15 h2, isF 23 h16, isT 27 h17, yes 35 h23]).drop (h2 := hB) (h4 := hB)
      · exact (con (nx' := 4) [isF 6 h1, yes 15 h2, isT 23 h16]).drop (h2 := hB) (h4 := hB)
  · cases h29 : (k2 == 3)
    · cases h30 : (k != 3)
      · cases h31 : (p2 != 0)
        · cases h32 : (k2 == 2)
          · cases h33 : (e2 == e)
            · exact (con (nx' := 5) [isT 6 h1, no 11 h29, no 15 h29, isF 19 h30, isF 23 h31, no 39 h32, isF 47 h33]).drop (h2 := hB) (h4 := hB)
            · cases h34 : (decide (f ≥ f2))
              · exact (con (nx' := 5) [isT 6 h1, no 11 h29, no 15 h29, isF 19 h30, isF 23 h31, no 39 h32, isT 47 h33, isF 54 h34]).drop (h2 := hB) (h4 := hB)
              · exact (con (nx' := 5) [isT 6 h1, no 11 h29, no 15 h29, isF 19 h30, isF 23 h31, no 39 h32, isT 47 h33, isT 54 h34]).drop (h2 := hB) (h4 := hB)
          · cases h35 : (o == e)
            · exact (con (nx' := 5) [isT 6 h1, no 11 h29, no 15 h29, isF 19 h30, isF 23 h31, yes 39 h32, isF 49 h35]).drop (h2 := hB) (h4 := hB)
            · cases h36 : (decide (f ≥ f2))
              · exact (con (nx' := 5) [isT 6 h1, no 11 h29, no 15 h29, isF 19 h30, isF 23 h31, yes 39 h32, isT 49 h35, isF 56 h36]).drop (h2 := hB) (h4 := hB)
              · exact (con (nx' := 5) [isT 6 h1, no 11 h29, no 15 h29, isF 19 h30, isF 23 h31, yes 39 h32, isT 49 h35, isT 56 h36]).drop (h2 := hB) (h4 := hB)
        · cases h37 : (p2 != p)
          · cases h38 : (k2 == 2)
            · cases h39 : (e2 == e)
              · exact (con (nx' := 5) [isT 6 h1, no 11 h29, no 15 h29, isF 19 h30, isT 23 h31, no 31 h37, no 39 h38, isF 47 h39]).drop (h2 := hB) (h4 := hB)
              · cases h40 : (decide (f ≥ f2))
                · exact (con (nx' := 5) [isT 6 h1, no 11 h29, no 15 h29, isF 19 h30, isT 23 h31, no 31 h37, no 39 h38, isT 47 h39, isF 54 h40]).drop (h2 := hB) (h4 := hB)
                · exact (con (nx' := 5) [isT 6 h1, no 11 h29, no 15 h29, isF 19 h30, isT 23 h31, no 31 h37, no 39 h38, isT 47 h39, isT 54 h40]).drop (h2 := hB) (h4 := hB)
            · cases h41 : (o == e)
              · exact (con (nx' := 5) [isT 6 h1, no 11 h29, no 15 h29, isF 19 h30, isT 23 h31, no 31 h37, yes 39 h38, isF 49 h41]).drop (h2 := hB) (h4 := hB)
              · cases h42 : (decide (f ≥ f2))
                · exact (con (nx' := 5) [isT 6 h1, no 11 h29, no 15 h29, isF 19 h30, isT 23 h31, no 31 h37, yes 39 h38, isT 49 h41, isF 56 h42]).drop (h2 := hB) (h4 := hB)
                · exact (con (nx' := 5) [isT 6 h1, no 11 h29, no 15 h29, isF 19 h30, isT 23 h31, no 31 h37, yes 39 h38, isT 49 h41, isT 56 h42]).drop (h2 := hB) (h4 := hB)
          · exact (con (nx' := 4) [isT 6 h1, no 11 h29, no 15 h29, isF 19 h30, isT 23 h31, yes 31 h37]).drop (h2 := hB) (h4 := hB)
      · exact (con (nx' := 4) [isT 6 h1, no 11 h29, no 15 h29, isT 19 h30]).drop (h2 := hB) (h4 := hB)
    · cases h43 : (p == p2)
      · exact (con (nx' := 4) [isT 6 h1, yes 11 h29, isF 17 h43]).drop (h2 := hB) (h4 := hB)
      · cases h44 : (e == e2)
        · exact (con (nx' := 4) [isT 6 h1, yes 11 h29, isT 17 h43, isF 23 h44]).drop (h2 := hB) (h4 := hB)
        · cases h45 : (f == f2)
          · exact (con (nx' := 4) [isT 6 h1, yes 11 h29, isT 17 h43, isT 23 h44, isF 30 h45]).drop (h2 := hB) (h4 := hB)
          · exact (con (nx' := 4) [isT 6 h1, yes 11 h29, isT 17 h43, isT 23 h44, isT 30 h45]).drop (h2 := hB) (h4 := hB)
end Go.Proofs.YtilfcikhipadpaaGreatDoor
end

section
/- the document's rules: what May and Clash tell (plain). -/
set_option linter.unusedVariables false
set_option linter.unusedSimpArgs false
namespace Go.Proofs.YtilfcikhipadpaaGreatDoor
open Go.RowKit Go.Lib Rx
def dcq3 (o : Int) (a b : Rule) : Bool := !(decide (b.p ≠ 0) && decide (b.p ≠ a.p)) && (decide ((whoR o b).e = a.e) && decide (b.f ≤ a.f) && decide (a.f ≤ b.t))
def dcq33 (a b : Rule) : Bool := decide (a.p = b.p) && ((decide (a.e = b.e) && decide (a.f = b.f)) || (decide (a.ia = b.ia) && decide (a.ip = b.ip)))
def dcq (o : Int) (a b : Rule) : Bool := if a.k = 3 then (if b.k = 3 then dcq33 a b else dcq3 o a b) else if b.k = 3 then dcq3 o b a else false
set_option maxHeartbeats 8000000 in
theorem dmay_val (o pi pb : Int) (v : Value) (r : Rule) (hr : r.Ok) : rd_May_v o pi pb v r.k r.p r.sa r.sb r.da r.db r.e r.f r.t r.ia r.ip = .bool (mayR pi pb r) := by
  obtain ⟨r1, r2, r3, r4, r5, r6, r7, r8⟩ := hr
  unfold rd_May_v mayR srOk stOk
  simp only [bool_ite, Value.bool.injEq]
  simp only [Bool.cond_eq_ite, bne_iff_ne, beq_iff_eq, Bool.and_true, decide_eq_true_eq, Bool.and_eq_true]
  obtain ⟨k, p, sa, sb, da, db, e, f, t, ia, ipp⟩ := r
  simp only at *
  have hk : k = 1 ∨ k = 2 ∨ k = 3 ∨ (k ≠ 1 ∧ k ≠ 2 ∧ k ≠ 3) := by omega
  have hp : p = 0 ∨ p = 1 ∨ p = 6 ∨ p = 17 ∨ (p ≠ 0 ∧ p ≠ 1 ∧ p ≠ 6 ∧ p ≠ 17) := by omega
  generalize mayP sa sb = m1
  generalize mayP da db = m2
  generalize hasP pi pb e = m3
  generalize hasP pi pb ia = m4
  rcases hk with rfl | rfl | rfl | ⟨a1, a2, a3⟩ <;> rcases hp with rfl | rfl | rfl | rfl | ⟨a4, a5, a6, a7⟩ <;> simp_all <;> grind (splits := 40)
set_option maxHeartbeats 8000000 in
theorem dclash_val (o pi pb : Int) (v : Value) (a b : Rule) : rd_Clash_v o pi pb v a.k a.p a.sa a.sb a.da a.db a.e a.f a.t a.ia a.ip b.k b.p b.sa b.sb b.da b.db b.e b.f b.t b.ia b.ip = .bool (dcq o a b) := by
  unfold rd_Clash_v dcq dcq33 dcq3 whoR
  simp only [bool_ite, Value.bool.injEq]
  simp only [Bool.cond_eq_ite, bne_iff_ne, beq_iff_eq, Bool.and_true, decide_eq_true_eq, Bool.and_eq_true]
  grind (splits := 40)
theorem dclash_is {ip b : Int} (o : Int) (a r : Rule) (ha : mayR ip b a = true) (hr : mayR ip b r = true) : dcq o a r = clq (whoR o a) (whoR o r) := by
  have t3 : ∀ x : Rule, mayR ip b x = true → x.k = 3 → x.t = x.f := fun x h hk => by
    unfold mayR stOk at h
    grind
  have ta := t3 a ha; have tr := t3 r hr
  clear t3 ha hr
  have wk : ∀ x : Rule, (whoR o x).k = x.k := fun x => by unfold whoR; split <;> rfl
  have wp : ∀ x : Rule, (whoR o x).p = x.p := fun x => by unfold whoR; split <;> rfl
  have wf : ∀ x : Rule, (whoR o x).f = x.f := fun x => by unfold whoR; split <;> rfl
  have wt : ∀ x : Rule, (whoR o x).t = x.t := fun x => by unfold whoR; split <;> rfl
  have w3 : ∀ x : Rule, x.k = 3 → whoR o x = x := fun x hx => by unfold whoR; rw [if_neg (by omega)]
  unfold dcq dcq33 dcq3 clq clq0
  by_cases h1 : a.k = 3 <;> by_cases h2 : r.k = 3
  · rw [w3 a h1, w3 r h2, if_pos h1, if_pos h2, if_pos h1]
    have t1 := ta h1; have t2 := tr h2
    rw [Bool.eq_iff_iff]
    simp only [h1, h2, decide_true, Bool.true_and, Bool.and_true, Bool.or_true, Bool.and_eq_true, Bool.or_eq_true, decide_eq_true_eq, Bool.not_eq_true', decide_eq_false_iff_not]
    omega
  · rw [w3 a h1, wk, wp, wf, wt]; grind
  · rw [w3 r h2, wk, wp, wf, wt]; grind
  · rw [wk, wk]; grind
end Go.Proofs.YtilfcikhipadpaaGreatDoor
end
