/- Several texts of this claim, one behind the other. -/
import Derived.Test.YtilfcikhipadpaaGreatDoorK41b
import Derived.Test.YtilfcikhipadpaaGreatDoorK26a

section
/- what a first packet may become: printed (gen/of.py). -/
set_option linter.unusedVariables false
namespace Go.Proofs.YtilfcikhipadpaaGreatDoor
open Go.RowKit Go.Lib Rx
end Go.Proofs.YtilfcikhipadpaaGreatDoor
end

section
/- What a first packet may become, by a table; the program's and the document's. -/
set_option linter.unusedVariables false
namespace Go.Proofs.YtilfcikhipadpaaGreatDoor
open Go.RowKit Go.Lib Rx
variable {A : Amb} {rs : List Rule} {M : List (Nat × Blk)} {o ip b : Int}
end Go.Proofs.YtilfcikhipadpaaGreatDoor
end

section
/- Tables: its loop, its ends. -/
set_option linter.unusedVariables false
set_option linter.unusedSimpArgs false
namespace Go.Proofs.YtilfcikhipadpaaGreatDoor
open Go.RowKit Go.Lib Rx
variable {A : Amb} {rs : List Rule} {o ip b : Int} {g of c : Nat} {l : List Rulg}
@[reducible] def twV (g of n c i : Nat) : List (Nat × Value) := [(0, .slice (some ⟨g, of, none⟩) n c), (4, ptr 4), (6, ptr 9), (8, .int .i64 (i : Int))]
@[reducible] def twE : List (Nat × Value) := [(4, ptr 4), (6, ptr 9)]
@[reducible] def twM0 (o ip b : Int) : List (Nat × Blk) := [(4, taB o ip b (.slice none 0 0)), (9, daB o ip b (.slice none 0 0))]
@[reducible] def twM (o ip b : Int) (rs : List Rule) : List (Nat × Blk) := [(4, taB o ip b (.slice (some ⟨10, 0, some 0⟩) rs.length 0)), (9, daB o ip b (.slice (some ⟨11, 0, some 0⟩) rs.length 0)), (10, ruB rs), (11, ruB rs)]
/-- the rulings as they came in -/
def RulgAt (A : Amb) (g of : Nat) (l : List Rulg) : Prop := ∀ W, A.S W → ∀ (j : Nat) (hj : j < l.length) (k : Nat) (u : Value), (rulgK.cells l[j]).toList[k]? = some u → W.cell? ⟨g, of + j * 16 + k, none⟩ = some u
def atE (k : Nat) {i : Nat} (hi : i < l.length) (g of c : Nat) : Ev Tryz.prog A := gives k fun W _ => at_in (T := 47) (e := 118) (b := g) (o := of) (n := l.length) (c := c) (s := 16) (k := .i64) (by kernel_rfl) (by kernel_rfl) hi W
def ldE (k : Nat) {i : Nat} (hi : i < l.length) (hl : RulgAt A g of l) : Ev Tryz.prog A := gives k fun W h => ldA_in (T := 118) (a := ⟨g, of + i * 16, none⟩) (cs := (rulgK.cells l[i]).toList) (n := 16) (by kernel_rfl) (by kernel_rfl) rfl fun j u hu => by rw [Addr.add_lit]; exact hl W h i hi j u hu
def ruE (k : Nat) (x : Rulg) (r : Rule) (hr : ∀ W, Calls Tryz.prog 44 #[.agg (rulgK.cells x)] W (Ret (.agg (ruL r).toArray) W)) : Ev Tryz.prog A := does k (args := [.agg (rulgK.cells x).toList.toArray]) (v := .agg (ruL r).toArray) fun W _ => hr W
def nxT (k : Nat) {i : Nat} (h : i < 12) : Ev Tryz.prog A := is k (x := .int .i64 (IntKind.wrap .i64 ((i : Int) + 1))) (y := .int .i64 ((i + 1 : Nat) : Int)) (by rw [Value.int.injEq]; exact ⟨rfl, wrap_next (by omega)⟩)
variable {i : Nat}
theorem tb_end0 (h : ¬ (i < l.length ∧ i < 12)) : CodeJ Tryz.prog A (loopOf Tryz.prog 14) 51 (twV g of l.length c i) (twM0 o ip b) 10 (.ex 0) twE (twM0 o ip b) 10 := by
  by_cases hi : i < l.length
  · exact code [isT 4 (b := decide ((i : Int) < (l.length : Int))) (by simpa using hi), no 8 (b := bif true then decide ((i : Int) < 12) else false) (by simp; omega)]
  · exact code [isF 4 (b := decide ((i : Int) < (l.length : Int))) (by simpa using hi)]
theorem tb_end (h : ¬ (i < l.length ∧ i < 12)) : CodeJ Tryz.prog A (loopOf Tryz.prog 14) 51 (twV g of l.length c i) (twM o ip b rs) 12 (.ex 0) twE (twM o ip b rs) 12 := by
  by_cases hi : i < l.length
  · exact code [isT 4 (b := decide ((i : Int) < (l.length : Int))) (by simpa using hi), no 8 (b := bif true then decide ((i : Int) < 12) else false) (by simp; omega)]
  · exact code [isF 4 (b := decide ((i : Int) < (l.length : Int))) (by simpa using hi)]
theorem tb_no0 (hi : i < l.length) (h2 : i < 12) (hl : RulgAt A g of l) (r : Rule) (hr : ∀ W, Calls Tryz.prog 44 #[.agg (rulgK.cells l[i])] W (Ret (.agg (ruL r).toArray) W)) (hip : 0 ≤ ip ∧ ip ≤ 4294967295) (ho : r.Ok) (hc : mayR ip b r = false) :
    CodeJ Tryz.prog A (loopOf Tryz.prog 14) 51 (twV g of l.length c i) (twM0 o ip b) 10 .nrm (twV g of l.length c (i + 1)) (twM0 o ip b) 10 :=
  code [isT 4 (b := decide ((i : Int) < (l.length : Int))) (by simpa using hi), yes 8 (b := bif true then decide ((i : Int) < 12) else false) (by simp; omega), atE 22 hi g of c, ldE 23 hi hl, ruE 24 l[i] r hr,
    calls 25 10 0 ((add1_no (o := o) r hip ho (by rw [hc]; decide) 1).at (d := 0) [4] 10), atE 39 hi g of c, ldE 40 hi hl, ruE 41 l[i] r hr, calls 42 10 0 ((dadd1_no (o := o) r hip ho hc 1).at (d := 0) [9] 10), nxT 44 h2]
theorem tb_yes0 (hi : i < l.length) (h2 : i < 12) (hl : RulgAt A g of l) (r : Rule) (hr : ∀ W, Calls Tryz.prog 44 #[.agg (rulgK.cells l[i])] W (Ret (.agg (ruL r).toArray) W)) (hip : 0 ≤ ip ∧ ip ≤ 4294967295) (ho : r.Ok) (hc : mayR ip b r = true) :
    CodeR Tryz.prog A (loopOf Tryz.prog 14) 51 (twV g of l.length c i) (twM0 o ip b) [4, 9] 10 0 .nrm (twV g of l.length c (i + 1)) (twM o ip b [r]) 2 :=
  CodeJ.round (m := 0) (d := 2) (v1 := twV g of l.length c (i + 1)) (o1 := twM o ip b [r]) (code [isT 4 (b := decide ((i : Int) < (l.length : Int))) (by simpa using hi), yes 8 (b := bif true then decide ((i : Int) < 12) else false) (by simp; omega), atE 22 hi g of c, ldE 23 hi hl, ruE 24 l[i] r hr,
    calls 25 10 1 ((add1_yes (o := o) r hip ho hc).at (d := 1) [4] 10), atE 39 hi g of c, ldE 40 hi hl, ruE 41 l[i] r hr, calls 42 11 1 ((dadd1_yes (o := o) r hip ho hc).at (d := 1) [9] 11), nxT 44 h2]) [10, 11]
def listE (k nx j : Nat) (h0 : rs ≠ []) (hn : rs.length ≤ 1000) (hj : Nat.beq j nx = false := by kernel_rfl) (hv : [Value.slice none 0 0, .slice (some ⟨j, 0, some 0⟩) rs.length 0].all (inP (has1 [j])) = true := by kernel_rfl) : Ev Tryz.prog A :=
  apN k nx (sT := 115) (xT := 115) (ty := 115) (e := 68) (e3 := 68) (s := 11) (j := j) (k := rs.length) (c2 := 0) (q2 := 0) (e2 := 68) (r2 := true) (new := rs.flatMap ruL) (flat_len ruL_len rs) (all_flat (fun _ => rfl) rs) ⟨List.length_pos_iff.2 h0, by omega⟩ (hn := hj) (hv := hv)
theorem tb_no (hi : i < l.length) (h2 : i < 12) (hl : RulgAt A g of l) (r : Rule) (hr : ∀ W, Calls Tryz.prog 44 #[.agg (rulgK.cells l[i])] W (Ret (.agg (ruL r).toArray) W)) (hip : 0 ≤ ip ∧ ip ≤ 4294967295) (ho : r.Ok) (h0 : rs ≠ []) (hn : rs.length ≤ 1000) (hm : ∀ x ∈ rs, mayR ip b x = true) (hc : adB o ip b rs r = false) :
    CodeJ Tryz.prog A (loopOf Tryz.prog 14) 51 (twV g of l.length c i) (twM o ip b rs) 12 .nrm (twV g of l.length c (i + 1)) (twM o ip b rs) 14 := by
  obtain ⟨e1, k1⟩ := add_f (A := A) hip r ho hc
  obtain ⟨e2, k2⟩ := dadd_f (A := A) hip r ho hm hc
  exact code [isT 4 (b := decide ((i : Int) < (l.length : Int))) (by simpa using hi), yes 8 (b := bif true then decide ((i : Int) < 12) else false) (by simp; omega), listE 16 12 11 h0 hn, atE 22 hi g of c, ldE 23 hi hl, ruE 24 l[i] r hr,
    calls 25 13 0 (at_ta (d := 0) k1 4 10 13), listE 33 13 11 h0 hn, atE 39 hi g of c, ldE 40 hi hl, ruE 41 l[i] r hr, calls 42 14 0 (at_da (d := 0) k2 9 11 14), nxT 44 h2]
theorem twM_id (σ : Nat → Nat) (h4 : σ 4 = 4) (h9 : σ 9 = 9) {x y : Nat} (h10 : σ x = 10) (h11 : σ y = 11) : ([(4, taB o ip b (.slice (some ⟨x, 0, some 0⟩) rs.length 0)), (9, daB o ip b (.slice (some ⟨y, 0, some 0⟩) rs.length 0)), (x, ruB rs), (y, ruB rs)] : List (Nat × Blk)).map (idB σ) = twM o ip b rs := by
  simp only [List.map_cons, List.map_nil, idB, flat_id (f := ruL) (fun _ => rfl), id0, idS, idA, h4, h9, h10, h11]
theorem twM_live {x y : Nat} (hx : live [x, y] 10 x = true) (hy : live [x, y] 10 y = true) : liveB [x, y] 10 [(4, taB o ip b (.slice (some ⟨x, 0, some 0⟩) rs.length 0)), (9, daB o ip b (.slice (some ⟨y, 0, some 0⟩) rs.length 0)), (x, ruB rs), (y, ruB rs)] = true := by
  have h4 : live [x, y] 10 4 = true := by unfold live; rw [show Nat.blt 4 10 = true from rfl, Bool.or_true]
  have h9 : live [x, y] 10 9 = true := by unfold live; rw [show Nat.blt 9 10 = true from rfl, Bool.or_true]
  simp only [liveB, List.all_cons, List.all_nil, all_flat (p := in0 (live [x, y] 10)) (f := ruL) (fun _ => rfl), in0, inS, inA, hx, hy, h4, h9]
  rfl
theorem tb_noR (hi : i < l.length) (h2 : i < 12) (hl : RulgAt A g of l) (r : Rule) (hr : ∀ W, Calls Tryz.prog 44 #[.agg (rulgK.cells l[i])] W (Ret (.agg (ruL r).toArray) W)) (hip : 0 ≤ ip ∧ ip ≤ 4294967295) (ho : r.Ok) (h0 : rs ≠ []) (hn : rs.length ≤ 1000) (hm : ∀ x ∈ rs, mayR ip b x = true) (hc : adB o ip b rs r = false) :
    CodeR Tryz.prog A (loopOf Tryz.prog 14) 51 (twV g of l.length c i) (twM o ip b rs) [4, 9] 10 2 .nrm (twV g of l.length c (i + 1)) (twM o ip b rs) 2 :=
  CodeJ.round (m := 2) (d := 2) (tb_no hi h2 hl r hr hip ho h0 hn hm hc) [10, 11] (h2 := twM_id _ rfl rfl rfl rfl) (h4 := twM_live rfl rfl)
theorem tb_yesR (hi : i < l.length) (h2 : i < 12) (hl : RulgAt A g of l) (r : Rule) (hr : ∀ W, Calls Tryz.prog 44 #[.agg (rulgK.cells l[i])] W (Ret (.agg (ruL r).toArray) W)) (hip : 0 ≤ ip ∧ ip ≤ 4294967295) (ho : r.Ok) (h0 : rs ≠ []) (hm : ∀ x ∈ rs, mayR ip b x = true) (hc : adB o ip b rs r = true) :
    CodeR Tryz.prog A (loopOf Tryz.prog 14) 51 (twV g of l.length c i) (twM o ip b rs) [4, 9] 10 2 .nrm (twV g of l.length c (i + 1)) (twM o ip b (rs ++ [r])) 2 := by
  unfold adB at hc
  rw [Bool.and_eq_true, Bool.and_eq_true, decide_eq_true_eq, Bool.not_eq_true'] at hc
  obtain ⟨c1, c2, c3⟩ := hc
  have k1 := at_ta (d := 1) (r1 := 2) (rs' := rs ++ [r]) (add_yes (A := A) o ip b r hip ho c1 (by omega) c3) 4 10 13
  have k2 := at_da (d := 1) (r1 := 2) (rs' := rs ++ [r]) (dadd_yes (A := A) r hip ho c1 (by omega) h0 (by rw [← c3]; exact any_same fun x hx => dclash_is o x r (hm x hx) c1)) 9 11 15
  have hn : rs.length ≤ 1000 := by omega
  have h := code (A := A) (P := Tryz.prog) (c := loopOf Tryz.prog 14) (n := 51) (vals := twV g of l.length c i) (vals' := twV g of l.length c (i + 1)) (sn := twM o ip b rs) (nx := 12) (nx' := 16) (x := .nrm)
    (out := [(4, taB o ip b (.slice (some ⟨13, 0, some 0⟩) (rs ++ [r]).length 0)), (9, daB o ip b (.slice (some ⟨15, 0, some 0⟩) (rs ++ [r]).length 0)), (13, ruB (rs ++ [r])), (15, ruB (rs ++ [r]))])
    [isT 4 (b := decide ((i : Int) < (l.length : Int))) (by simpa using hi), yes 8 (b := bif true then decide ((i : Int) < 12) else false) (by simp; omega), listE 16 12 11 h0 hn, atE 22 hi g of c, ldE 23 hi hl, ruE 24 l[i] r hr,
      calls 25 13 1 k1, listE 33 14 11 h0 hn, atE 39 hi g of c, ldE 40 hi hl, ruE 41 l[i] r hr, calls 42 15 1 k2, nxT 44 h2]
  exact CodeJ.round (m := 2) (d := 4) h [13, 15] (h2 := twM_id _ rfl rfl rfl rfl) (h4 := twM_live rfl rfl)
/-! ### the loop -/
theorem tw_rest (hip : 0 ≤ ip ∧ ip ≤ 4294967295) (hl : RulgAt A g of l) (hok : ∀ x ∈ l, x.Ok) : ∀ (k i : Nat) (rs : List Rule), k + i = 12 → rs ≠ [] → rs.length ≤ i → (∀ x ∈ rs, mayR ip b x = true ∧ x.Ok) →
    ∃ rs' : List Rule, rs' ≠ [] ∧ rs'.length ≤ 12 ∧ (∀ x ∈ rs', mayR ip b x = true ∧ x.Ok) ∧ LoopI Tryz.prog A (loopOf Tryz.prog 14) 51 (twM0 o ip b) 10 2 (twV g of l.length c i) (twM o ip b rs) (.ex 0) twE (twM o ip b rs') 2
  | 0, i, rs, hk, h0, hn, hm => ⟨rs, h0, by omega, hm, LoopI.nil (CodeJ.round (m := 2) (d := 0) (tb_end (by omega)) [10, 11] (h2 := twM_id _ rfl rfl rfl rfl) (h4 := twM_live rfl rfl))⟩
  | k + 1, i, rs, hk, h0, hn, hm => by
    by_cases hi : i < l.length
    · obtain ⟨r, ho, hr⟩ := w_Rule l[i] (hok _ (List.getElem_mem hi))
      cases hc : adB o ip b rs r
      · obtain ⟨rs', a1, a2, a3, a4⟩ := tw_rest hip hl hok k (i + 1) rs (by omega) h0 (by omega) hm
        exact ⟨rs', a1, a2, a3, LoopI.cons (tb_noR hi (by omega) hl r hr hip ho h0 (by omega) (fun x hx => (hm x hx).1) hc) a4⟩
      · have hc1 : mayR ip b r = true := by unfold adB at hc; rw [Bool.and_eq_true] at hc; exact hc.1
        obtain ⟨rs', a1, a2, a3, a4⟩ := tw_rest hip hl hok k (i + 1) (rs ++ [r]) (by omega) (by simp) (by simp; omega) fun x hx => by
          rcases List.mem_append.1 hx with hx | hx
          · exact hm x hx
          · rcases List.mem_singleton.1 hx with rfl
            exact ⟨hc1, ho⟩
        exact ⟨rs', a1, a2, a3, LoopI.cons (tb_yesR hi (by omega) hl r hr hip ho h0 (fun x hx => (hm x hx).1) hc) a4⟩
    · exact ⟨rs, h0, by omega, hm, LoopI.nil (CodeJ.round (m := 2) (d := 0) (tb_end (by omega)) [10, 11] (h2 := twM_id _ rfl rfl rfl rfl) (h4 := twM_live rfl rfl))⟩
theorem tw_all (hip : 0 ≤ ip ∧ ip ≤ 4294967295) (hl : RulgAt A g of l) (hok : ∀ x ∈ l, x.Ok) : ∀ (k i : Nat), k + i = 12 →
    LoopI Tryz.prog A (loopOf Tryz.prog 14) 51 (twM0 o ip b) 10 0 (twV g of l.length c i) (twM0 o ip b) (.ex 0) twE (twM0 o ip b) 0 ∨
    ∃ rs' : List Rule, rs' ≠ [] ∧ rs'.length ≤ 12 ∧ (∀ x ∈ rs', mayR ip b x = true ∧ x.Ok) ∧ LoopI Tryz.prog A (loopOf Tryz.prog 14) 51 (twM0 o ip b) 10 0 (twV g of l.length c i) (twM0 o ip b) (.ex 0) twE (twM o ip b rs') 2
  | 0, i, hk => .inl (LoopI.nil (CodeJ.round (m := 0) (d := 0) (tb_end0 (by omega)) []))
  | k + 1, i, hk => by
    by_cases hi : i < l.length
    · obtain ⟨r, ho, hr⟩ := w_Rule l[i] (hok _ (List.getElem_mem hi))
      cases hc : mayR ip b r
      · have h1 := CodeJ.round (m := 0) (d := 0) (base := [4, 9]) (vals' := twV g of l.length c (i + 1)) (out' := twM0 o ip b) (tb_no0 (A := A) (o := o) (c := c) hi (by omega) hl r hr hip ho hc) []
        rcases tw_all hip hl hok k (i + 1) (by omega) with a | ⟨rs', a1, a2, a3, a4⟩
        · exact .inl (LoopI.cons h1 a)
        · exact .inr ⟨rs', a1, a2, a3, LoopI.cons h1 a4⟩
      · obtain ⟨rs', a1, a2, a3, a4⟩ := tw_rest (A := A) (o := o) (b := b) (c := c) hip hl hok k (i + 1) [r] (by omega) (by simp) (by simp) fun x hx => by
          rcases List.mem_singleton.1 hx with rfl
          exact ⟨hc, ho⟩
        exact .inr ⟨rs', a1, a2, a3, LoopI.cons (tb_yes0 hi (by omega) hl r hr hip ho hc) a4⟩
    · exact .inl (LoopI.nil (CodeJ.round (m := 0) (d := 0) (tb_end0 (by omega)) []))
end Go.Proofs.YtilfcikhipadpaaGreatDoor
end

section
/- Tables, whole. -/
set_option linter.unusedVariables false
set_option linter.unusedSimpArgs false
namespace Go.Proofs.YtilfcikhipadpaaGreatDoor
open Go.RowKit Go.Lib Rx
variable {A : Amb}
abbrev oC : Int := 151587081
abbrev ipC : Int := 167772160
/-- both tables: the program's at 0, the document's at 1, their rules at 2 and 3 -/
@[reducible] def bothM (rs : List Rule) : List (Nat × Blk) := [(0, taB oC ipC 8 (.slice (some ⟨2, 0, some 0⟩) rs.length 0)), (1, daB oC ipC 8 (.slice (some ⟨3, 0, some 0⟩) rs.length 0)), (2, ruB rs), (3, ruB rs)]
@[reducible] def bothM0 : List (Nat × Blk) := [(0, taB oC ipC 8 (.slice none 0 0)), (1, daB oC ipC 8 (.slice none 0 0))]
/-- what may be said of the rules of such a table -/
def RsOk (rs : List Rule) : Prop := rs ≠ [] ∧ rs.length ≤ 12 ∧ ∀ x ∈ rs, mayR ipC 8 x = true ∧ x.Ok
def TabsSay (A : Amb) (X : Option Addr) (n c : Nat) : Prop :=
  CallJ Tryz.prog A 14 [.slice X n c] [] 0 (.tuple #[ptr 0, ptr 1]) bothM0 2 ∨ ∃ rs, RsOk rs ∧ CallJ Tryz.prog A 14 [.slice X n c] [] 0 (.tuple #[ptr 0, ptr 1]) (bothM rs) 4
theorem w_Tables {g of c : Nat} {l : List Rulg} (hl : RulgAt A g of l) (hok : ∀ x ∈ l, x.Ok) : TabsSay A (some ⟨g, of, none⟩) l.length c := by
  have hip : (0 : Int) ≤ ipC ∧ ipC ≤ 4294967295 := by decide
  rcases tw_all (A := A) (o := oC) (ip := ipC) (b := 8) (c := c) hip hl hok 12 0 rfl with h | ⟨rs, h0, hn, hm, h⟩
  · have k := LoopI.toJ (vals := twV g of l.length c 0) [] h
    have r := con (A := A) (P := Tryz.prog) (f := 14) (args := [.slice (some ⟨g, of, none⟩) l.length c]) (sn := []) (nx := 0) (v := .tuple #[ptr 4, ptr 9]) (out := twM0 oC ipC 8) (nx' := 10) [loops 1093 10 0 k]
    exact .inl ((r.re (d := 10) [4, 9]).eq rfl rfl)
  · have k := LoopI.toJ (vals := twV g of l.length c 0) [] h
    have r := con (A := A) (P := Tryz.prog) (f := 14) (args := [.slice (some ⟨g, of, none⟩) l.length c]) (sn := []) (nx := 0) (v := .tuple #[ptr 4, ptr 9]) (out := twM oC ipC 8 rs) (nx' := 12) [loops 1093 10 2 k]
    refine .inr ⟨rs, ⟨h0, hn, hm⟩, ((r.re (d := 12) [4, 9, 10, 11] (h4 := ?_)).eq rfl ?_)⟩
    · simp only [liveB, List.all_cons, List.all_nil, all_flat (p := in0 (live [4, 9, 10, 11] 0)) (f := ruL) (fun _ => rfl)]
      rfl
    · simp only [List.map_cons, List.map_nil, idB, flat_id (f := ruL) (fun _ => rfl)]
      rfl
theorem w_Tables0 {c : Nat} : TabsSay A none 0 c :=
  .inl (((con (A := A) (P := Tryz.prog) (f := 14) (args := [.slice none 0 c]) (sn := []) (nx := 0) (v := .tuple #[ptr 4, ptr 9]) (out := twM0 oC ipC 8) (nx' := 10) []).re (d := 10) [4, 9]).eq rfl rfl)
end Go.Proofs.YtilfcikhipadpaaGreatDoor
end
