/- Several texts of this claim, one behind the other. -/
import Derived.KernelRfl
import Derived.Test.YtilfcikhipadpaaGreatDoorK26c

section
/- Events: rows that came in. -/
set_option linter.unusedVariables false
namespace Go.Proofs.YtilfcikhipadpaaGreatDoor
open Go.RowKit Go.Lib
namespace Rx
theorem at_in {P : Program} {T e : TypeId} {b o n c s : Nat} {k : IntKind} {i : Nat} (hu : P.underlying T = some (.slice e)) (hs : pureRun P (sizeOf e) = some s) (h : i < n) (W : World) :
    ((Instr.indexAt T (.slice (some ⟨b, o, none⟩) n c) (.int k (i : Int))) >>= fun v => (pure (Next.value v) : Sem Next)).run P W = .ok (.value (.pointer (some ⟨b, o + i * s, none⟩))) W := by
  have h1 : (Instr.indexAt T (.slice (some ⟨b, o, none⟩) n c) (.int k (i : Int))).run P W = .ok (.pointer (some ⟨b, o + i * s, none⟩)) W := by
    unfold Instr.indexAt
    rw [run_bind_ok (show (asIntOf (.int k (i : Int))).run P W = .ok (k, (i : Int)) W from rfl), run_bind_ok (run_underlying hu W)]
    have hs' := pureRun_run W _ _ hs
    simp only [run_underlying hu, Sem.run_bind, Result.andThen_ok]
    simp [hs', h, Addr.add]
  rw [run_bind_ok h1]
  rfl
end Rx
end Go.Proofs.YtilfcikhipadpaaGreatDoor
end

section
/- Tables: both tables of rulings. -/
set_option linter.unusedVariables false
set_option linter.unusedSimpArgs false
namespace Go.Proofs.YtilfcikhipadpaaGreatDoor
open Go.RowKit Go.Lib Rx
variable {A : Amb} {rs : List Rule} {o ip b : Int}
/-! ### a struct that came in -/
theorem run_lcf {P : Program} {W : World} {a : Addr} : ∀ (cs : List Value) (i : Nat) (acc : Array Value), (∀ j u, cs[j]? = some u → W.cell? (a.add (i + j)) = some u) → (loadCellsFrom a i cs.length acc).run P W = .ok (acc ++ cs.toArray) W
  | [], i, acc, h => by simp [loadCellsFrom, Sem.run]
  | v :: cs, i, acc, h => by
    have h0 := h 0 v rfl
    rw [Nat.add_zero] at h0
    show ((load (a.add i)) >>= fun v => loadCellsFrom a (i + 1) cs.length (acc.push v)).run P W = _
    rw [run_bind_ok (show (load (a.add i)).run P W = .ok v W by simp [load, Sem.run, h0]), run_lcf cs (i + 1) (acc.push v) fun j u hu => by
      rw [show i + 1 + j = i + (j + 1) by omega]
      exact h (j + 1) u hu]
    simp
theorem ldA_in {P : Program} {T : TypeId} {a : Addr} {cs : List Value} {n : Nat} {W : World} (ha : pureRun P (isAgg T) = some true) (hs : pureRun P (sizeOf T) = some n) (hl : cs.length = n) (hc : ∀ j u, cs[j]? = some u → W.cell? (a.add j) = some u) :
    ((Instr.loadAt T (.pointer (some a))) >>= fun v => (pure (Next.value v) : Sem Next)).run P W = .ok (.value (.agg cs.toArray)) W := by
  have h1 : (Instr.loadAt T (.pointer (some a))).run P W = .ok (.agg cs.toArray) W := by
    have ha' := pureRun_run W _ _ ha
    have hs' := pureRun_run W _ _ hs
    show (loadVar T a).run P W = _
    unfold loadVar
    rw [run_bind_ok ha']
    simp only [if_true]
    subst hl
    rw [run_bind_ok hs']
    rw [run_bind_ok (show (loadCells a cs.length).run P W = .ok cs.toArray W by
      have := run_lcf (P := P) (W := W) (a := a) cs 0 #[] fun j u hu => by rw [Nat.zero_add]; exact hc j u hu
      simpa [loadCells] using this)]
    rfl
  rw [run_bind_ok h1]
  rfl
/-! ### a contract that makes no names, at any of them -/
theorem CallJ.lvl {P : Program} {f : FuncId} {args : List Value} {sn out : List (Nat × Blk)} {a : Nat} {v : Value} (h : CallJ P A f args sn a v out a) (n : Nat) : CallJ P A f args sn n v out n := by
  intro D ρ w hm hf hd
  refine (h D ρ w hm hf (fun i hi k => by omega)).mono ?_
  rintro e w' ⟨ρ', rfl, k⟩
  have hx : ∀ i, ext D a a i → ext D n n i := fun i hi => by
    rcases hi with hi | hi
    · exact Or.inl hi
    · omega
  exact ⟨ρ', rfl, fun i _ => k.same i (by omega), k.fit.mono hx, ⟨k.mem.s, fun e => ⟨hx _ (k.mem.dom e).1, (k.mem.dom e).2⟩, fun e v hv => (k.mem.fit e v hv).mono hx, k.mem.lies, k.mem.inj⟩, k.kept, fun i b h1 h2 => by omega⟩
/-! ### Add: what it comes to -/
/-- may it be added? -/
def adB (o ip b : Int) (rs : List Rule) (r : Rule) : Bool := mayR ip b r && (decide (rs.length < 32) && !(rs.any fun x => clq (whoR o x) (whoR o r)))
abbrev addF : FuncId := 42
abbrev daddF : FuncId := 45
@[reducible] def adA (rs : List Rule) (r : Rule) : List Value := [ptr 0, .int .i64 (rs.length : Int), .agg (ruL r).toArray]
theorem any_same {p q : Rule → Bool} : ∀ {rs : List Rule}, (∀ x ∈ rs, p x = q x) → rs.any p = rs.any q
  | [], _ => rfl
  | x :: l, h => by rw [List.any_cons, List.any_cons, h x (by simp), any_same fun y hy => h y (by simp [hy])]
theorem add_f (hip : 0 ≤ ip ∧ ip ≤ 4294967295) (r : Rule) (hr : r.Ok) (hf : adB o ip b rs r = false) : ∃ e, CallJ Tryz.prog A addF (adA rs r) (taM o ip b rs) 2 (.int .i64 e) (taM o ip b rs) 2 := by
  have k := (chk_J (A := A) o ip b (.slice (some ⟨1, 0, some 0⟩) rs.length 0) r hip hr).up (n := 4)
  by_cases hc : mayR ip b r = true
  · by_cases hl : 32 ≤ rs.length
    · rw [show chq ip b r = 0 by unfold chq; rw [if_pos hc]] at k
      exact ⟨_, (con (nx' := 4) [calls 5 4 0 k, no 22 (b := bif decide ((rs.length : Int) < 0) then true else decide ((rs.length : Int) > rs.length)) (by simp), yes 30 (b := decide ((rs.length : Int) ≥ 32)) (by simp; omega)]).drop (v := .int .i64 5) (h2 := taM_in o ip b rs) (h4 := taM_in o ip b rs)⟩
    · refine ⟨_, add_clash o ip b r hip hr hc hl ?_⟩
      unfold adB at hf
      rw [hc, show decide (rs.length < 32) = true by simpa using hl] at hf
      simpa using hf
  · rw [show chq ip b r = 2 by unfold chq; rw [if_neg hc]] at k
    exact ⟨_, (con (nx' := 4) [calls 5 4 0 k]).drop (v := .int .i64 2) (h2 := taM_in o ip b rs) (h4 := taM_in o ip b rs)⟩
theorem dadd_f (hip : 0 ≤ ip ∧ ip ≤ 4294967295) (r : Rule) (hr : r.Ok) (hm : ∀ x ∈ rs, mayR ip b x = true) (hf : adB o ip b rs r = false) : ∃ e, CallJ Tryz.prog A daddF (adA rs r) (daM o ip b rs) 2 (.int .i64 e) (daM o ip b rs) 2 := by
  have k := dmy_J (A := A) o ip b (.slice (some ⟨1, 0, some 0⟩) rs.length 0) r hip hr 3
  by_cases hc : mayR ip b r = true
  · by_cases hl : 32 ≤ rs.length
    · rw [hc] at k
      exact ⟨_, (con (nx' := 3) [calls 4 3 0 k, isF 10 (b := decide ((rs.length : Int) < 0)) (by simp), no 19 (b := decide ((rs.length : Int) > rs.length)) (by simp), yes 26 (b := decide ((rs.length : Int) > 31)) (by simp; omega)]).drop (v := .int .i64 5) (h2 := daM_in o ip b rs) (h4 := daM_in o ip b rs)⟩
    · refine ⟨_, dadd_clash r hip hr hc hl ?_⟩
      unfold adB at hf
      rw [hc, show decide (rs.length < 32) = true by simpa using hl] at hf
      have hf : (rs.any fun x => clq (whoR o x) (whoR o r)) = true := by simpa using hf
      rw [← hf]
      exact any_same fun x hx => dclash_is o x r (hm x hx) hc
  · rw [show mayR ip b r = false by simpa using hc] at k
    exact ⟨_, (con (nx' := 3) [calls 4 3 0 k]).drop (v := .int .i64 2) (h2 := daM_in o ip b rs) (h4 := daM_in o ip b rs)⟩
/-! ### under other names -/
@[reducible] def taN (t r : Nat) (o ip b : Int) (rs : List Rule) : List (Nat × Blk) := [(t, taB o ip b (.slice (some ⟨r, 0, some 0⟩) rs.length 0)), (r, ruB rs)]
@[reducible] def daN (t r : Nat) (o ip b : Int) (rs : List Rule) : List (Nat × Blk) := [(t, daB o ip b (.slice (some ⟨r, 0, some 0⟩) rs.length 0)), (r, ruB rs)]
theorem taN_id (σ : Nat → Nat) (t r : Nat) : (taN t r o ip b rs).map (idB σ) = taN (σ t) (σ r) o ip b rs := by
  simp only [List.map_cons, List.map_nil, idB, flat_id (f := ruL) (fun _ => rfl), id0, idS, idA]
theorem daN_id (σ : Nat → Nat) (t r : Nat) : (daN t r o ip b rs).map (idB σ) = daN (σ t) (σ r) o ip b rs := by
  simp only [List.map_cons, List.map_nil, idB, flat_id (f := ruL) (fun _ => rfl), id0, idS, idA]
theorem taN_in {t r n : Nat} (ht : t < n) (hr : r < n) : inBlks n (taN t r o ip b rs) = true := by
  have h : ∀ j, j < n → Nat.blt j n = true := fun j hj => by simpa [Nat.blt_eq] using hj
  simp only [inBlks, List.all_cons, List.all_nil, all_flat (p := in0 (ltB n)) (f := ruL) (fun _ => rfl), h t ht, h r hr, inC, in0, inS, inA, ltB]
  rfl
theorem daN_in {t r n : Nat} (ht : t < n) (hr : r < n) : inBlks n (daN t r o ip b rs) = true := by
  have h : ∀ j, j < n → Nat.blt j n = true := fun j hj => by simpa [Nat.blt_eq] using hj
  simp only [inBlks, List.all_cons, List.all_nil, all_flat (p := in0 (ltB n)) (f := ruL) (fun _ => rfl), h t ht, h r hr, inC, in0, inS, inA, ltB]
  rfl
theorem at_ta {f : FuncId} {args : List Value} {v : Value} {r1 d : Nat} {rs' : List Rule} (h : CallJ Tryz.prog A f args (taM o ip b rs) 2 v (taN 0 r1 o ip b rs') (2 + d)) (t r nx : Nat) (ht : Nat.blt t nx = true := by kernel_rfl) (hr : Nat.blt r nx = true := by kernel_rfl) (hne : ([t, r] : List Nat).Nodup := by decide) (h5 : r1 < 2 + d := by decide) (h1 : args.all (inV 2) = true := by kernel_rfl) (h3 : inV (2 + d) v = true := by kernel_rfl) :
    CallJ Tryz.prog A f (args.map (idV (sig [t, r] nx))) (taN t r o ip b rs) nx (idV (sig [t, r] nx) v) (taN t (sig [t, r] nx r1) o ip b rs') (nx + d) := by
  have k := h.at [t, r] nx (hnd := by simp only [List.all_cons, List.all_nil, ht, hr]; rfl) (hn := hne) (h1 := h1) (h2 := taM_in o ip b rs) (h3 := h3) (h4 := taN_in (by omega) h5)
  rwa [show (taM o ip b rs).map (idB (sig [t, r] nx)) = taN t r o ip b rs from taN_id _ 0 1, taN_id] at k
theorem at_da {f : FuncId} {args : List Value} {v : Value} {r1 d : Nat} {rs' : List Rule} (h : CallJ Tryz.prog A f args (daM o ip b rs) 2 v (daN 0 r1 o ip b rs') (2 + d)) (t r nx : Nat) (ht : Nat.blt t nx = true := by kernel_rfl) (hr : Nat.blt r nx = true := by kernel_rfl) (hne : ([t, r] : List Nat).Nodup := by decide) (h5 : r1 < 2 + d := by decide) (h1 : args.all (inV 2) = true := by kernel_rfl) (h3 : inV (2 + d) v = true := by kernel_rfl) :
    CallJ Tryz.prog A f (args.map (idV (sig [t, r] nx))) (daN t r o ip b rs) nx (idV (sig [t, r] nx) v) (daN t (sig [t, r] nx r1) o ip b rs') (nx + d) := by
  have k := h.at [t, r] nx (hnd := by simp only [List.all_cons, List.all_nil, ht, hr]; rfl) (hn := hne) (h1 := h1) (h2 := daM_in o ip b rs) (h3 := h3) (h4 := daN_in (by omega) h5)
  rwa [show (daM o ip b rs).map (idB (sig [t, r] nx)) = daN t r o ip b rs from daN_id _ 0 1, daN_id] at k
/-! ### of none -/
theorem add1_no (r : Rule) (hip : 0 ≤ ip ∧ ip ≤ 4294967295) (hr : r.Ok) (hc : ¬ mayR ip b r = true) (n : Nat) : CallJ Tryz.prog A addF [ptr 0, .int .i64 0, .agg (ruL r).toArray] (naM o ip b) n (.int .i64 2) (naM o ip b) n := CallJ.lvl (add0_no o ip b r hip hr hc) n
theorem add1_yes (r : Rule) (hip : 0 ≤ ip ∧ ip ≤ 4294967295) (hr : r.Ok) (hc : mayR ip b r = true) : CallJ Tryz.prog A addF [ptr 0, .int .i64 0, .agg (ruL r).toArray] (naM o ip b) 1 (.int .i64 0) [(0, taB o ip b (.slice (some ⟨1, 0, some 0⟩) 1 0)), (1, ruB [r])] 2 := by
  have k := CallJ.lvl (chk_J (A := A) o ip b (.slice none 0 0) r hip hr) 3
  rw [show chq ip b r = 0 by unfold chq; rw [if_pos hc]] at k
  exact ((con (A := A) (P := Tryz.prog) (f := addF) (args := [ptr 0, .int .i64 0, .agg (ruL r).toArray]) (sn := naM o ip b) (nx := 1) (v := .int .i64 0) (out := [(0, taB o ip b (.slice (some ⟨4, 0, some 0⟩) 1 0)), (4, ruB [r])]) (nx' := 5) [calls 5 3 0 k]).re (d := 4) [4]).eq rfl rfl
theorem dadd1_no (r : Rule) (hip : 0 ≤ ip ∧ ip ≤ 4294967295) (hr : r.Ok) (hc : mayR ip b r = false) (n : Nat) : CallJ Tryz.prog A daddF [ptr 0, .int .i64 0, .agg (ruL r).toArray] (dnM o ip b) n (.int .i64 2) (dnM o ip b) n := CallJ.lvl (dadd0_no r hip hr hc) n
theorem dadd1_yes (r : Rule) (hip : 0 ≤ ip ∧ ip ≤ 4294967295) (hr : r.Ok) (hc : mayR ip b r = true) : CallJ Tryz.prog A daddF [ptr 0, .int .i64 0, .agg (ruL r).toArray] (dnM o ip b) 1 (.int .i64 0) [(0, daB o ip b (.slice (some ⟨1, 0, some 0⟩) 1 0)), (1, ruB [r])] 2 := by
  have k := CallJ.lvl (dmy_J (A := A) o ip b (.slice none 0 0) r hip hr 2) 2
  rw [hc] at k
  exact ((con (A := A) (P := Tryz.prog) (f := daddF) (args := [ptr 0, .int .i64 0, .agg (ruL r).toArray]) (sn := dnM o ip b) (nx := 1) (v := .int .i64 0) (out := [(0, daB o ip b (.slice (some ⟨4, 0, some 0⟩) 1 0)), (4, ruB [r])]) (nx' := 5) [calls 4 2 0 k]).re (d := 4) [4]).eq rfl rfl
end Go.Proofs.YtilfcikhipadpaaGreatDoor
end

section
/- Tables: its loop, its ends. -/
set_option linter.unusedVariables false
set_option linter.unusedSimpArgs false
namespace Go.Proofs.YtilfcikhipadpaaGreatDoor
open Go.RowKit Go.Lib Rx
variable {A : Amb} {rs : List Rule} {o ip b : Int} {g of c : Nat} {l : List Rulg}
@[reducible] def twV (g of n c i : Nat) : List (Nat × Value) := [(0, .slice (some ⟨g, of, none⟩) n c), (4, ptr 4), (6, ptr 9), (8, .int .i64 (i : Int))]
@[reducible] def twE : List (Nat × Value) := [(4, ptr 4), (6, ptr 9)]
@[reducible] def twM0 (o ip b : Int) : List (Nat × Blk) := [(4, taB o ip b (.slice none 0 0)), (9, daB o ip b (.slice none 0 0))]
@[reducible] def twM (o ip b : Int) (rs : List Rule) : List (Nat × Blk) := [(4, taB o ip b (.slice (some ⟨10, 0, some 0⟩) rs.length 0)), (9, daB o ip b (.slice (some ⟨11, 0, some 0⟩) rs.length 0)), (10, ruB rs), (11, ruB rs)]
/-- the rulings as they came in -/
def RulgAt (A : Amb) (g of : Nat) (l : List Rulg) : Prop := ∀ W, A.S W → ∀ (j : Nat) (hj : j < l.length) (k : Nat) (u : Value), (rulgK.cells l[j]).toList[k]? = some u → W.cell? ⟨g, of + j * 16 + k, none⟩ = some u
def atE (k : Nat) {i : Nat} (hi : i < l.length) (g of c : Nat) : Ev Tryz.prog A := gives k fun W _ => at_in (T := 47) (e := 118) (b := g) (o := of) (n := l.length) (c := c) (s := 16) (k := .i64) (by kernel_rfl) (by kernel_rfl) hi W
def ldE (k : Nat) {i : Nat} (hi : i < l.length) (hl : RulgAt A g of l) : Ev Tryz.prog A := gives k fun W h => ldA_in (T := 118) (a := ⟨g, of + i * 16, none⟩) (cs := (rulgK.cells l[i]).toList) (n := 16) (by kernel_rfl) (by kernel_rfl) rfl fun j u hu => by rw [Addr.add_lit]; exact hl W h i hi j u hu
def ruE (k : Nat) (x : Rulg) (r : Rule) (hr : ∀ W, Calls Tryz.prog 44 #[.agg (rulgK.cells x)] W (Ret (.agg (ruL r).toArray) W)) : Ev Tryz.prog A := does k (args := [.agg (rulgK.cells x).toList.toArray]) (v := .agg (ruL r).toArray) fun W _ => hr W
def nxT (k : Nat) {i : Nat} (h : i < 12) : Ev Tryz.prog A := is k (x := .int .i64 (IntKind.wrap .i64 ((i : Int) + 1))) (y := .int .i64 ((i + 1 : Nat) : Int)) (by rw [Value.int.injEq]; exact ⟨rfl, wrap_next (by omega)⟩)
variable {i : Nat}
theorem tb_end0 (h : ¬ (i < l.length ∧ i < 12)) : CodeJ Tryz.prog A (loopOf Tryz.prog 14) 51 (twV g of l.length c i) (twM0 o ip b) 10 (.ex 0) twE (twM0 o ip b) 10 := by
  by_cases hi : i < l.length
  · exact code [isT 4 (b := decide ((i : Int) < (l.length : Int))) (by simpa using hi), no 8 (b := bif true then decide ((i : Int) < 12) else false) (by simp; omega)]
  · exact code [isF 4 (b := decide ((i : Int) < (l.length : Int))) (by simpa using hi)]
theorem tb_end (h : ¬ (i < l.length ∧ i < 12)) : CodeJ Tryz.prog A (loopOf Tryz.prog 14) 51 (twV g of l.length c i) (twM o ip b rs) 12 (.ex 0) twE (twM o ip b rs) 12 := by
  by_cases hi : i < l.length
  · exact code [isT 4 (b := decide ((i : Int) < (l.length : Int))) (by simpa using hi), no 8 (b := bif true then decide ((i : Int) < 12) else false) (by simp; omega)]
  · exact code [isF 4 (b := decide ((i : Int) < (l.length : Int))) (by simpa using hi)]
theorem tb_no0 (hi : i < l.length) (h2 : i < 12) (hl : RulgAt A g of l) (r : Rule) (hr : ∀ W, Calls Tryz.prog 44 #[.agg (rulgK.cells l[i])] W (Ret (.agg (ruL r).toArray) W)) (hip : 0 ≤ ip ∧ ip ≤ 4294967295) (ho : r.Ok) (hc : mayR ip b r = false) :
    CodeJ Tryz.prog A (loopOf Tryz.prog 14) 51 (twV g of l.length c i) (twM0 o ip b) 10 .nrm (twV g of l.length c (i + 1)) (twM0 o ip b) 10 :=
  code [isT 4 (b := decide ((i : Int) < (l.length : Int))) (by simpa using hi), yes 8 (b := bif true then decide ((i : Int) < 12) else false) (by simp; omega), atE 22 hi g of c, ldE 23 hi hl, ruE 24 l[i] r hr,
    calls 25 10 0 ((add1_no (o := o) r hip ho (by rw [hc]; decide) 1).at (d := 0) [4] 10), atE 39 hi g of c, ldE 40 hi hl, ruE 41 l[i] r hr, calls 42 10 0 ((dadd1_no (o := o) r hip ho hc 1).at (d := 0) [9] 10), nxT 44 h2]
theorem tb_yes0 (hi : i < l.length) (h2 : i < 12) (hl : RulgAt A g of l) (r : Rule) (hr : ∀ W, Calls Tryz.prog 44 #[.agg (rulgK.cells l[i])] W (Ret (.agg (ruL r).toArray) W)) (hip : 0 ≤ ip ∧ ip ≤ 4294967295) (ho : r.Ok) (hc : mayR ip b r = true) :
    CodeR Tryz.prog A (loopOf Tryz.prog 14) 51 (twV g of l.length c i) (twM0 o ip b) [4, 9] 10 0 .nrm (twV g of l.length c (i + 1)) (twM o ip b [r]) 2 :=
  CodeJ.round (m := 0) (d := 2) (v1 := twV g of l.length c (i + 1)) (o1 := twM o ip b [r]) (code [isT 4 (b := decide ((i : Int) < (l.length : Int))) (by simpa using hi), yes 8 (b := bif true then decide ((i : Int) < 12) else false) (by simp; omega), atE 22 hi g of c, ldE 23 hi hl, ruE 24 l[i] r hr,
    calls 25 10 1 ((add1_yes (o := o) r hip ho hc).at (d := 1) [4] 10), atE 39 hi g of c, ldE 40 hi hl, ruE 41 l[i] r hr, calls 42 11 1 ((dadd1_yes (o := o) r hip ho hc).at (d := 1) [9] 11), nxT 44 h2]) [10, 11]
def listE (k nx j : Nat) (h0 : rs ≠ []) (hn : rs.length ≤ 1000) (hj : Nat.beq j nx = false := by kernel_rfl) (hv : [Value.slice none 0 0, .slice (some ⟨j, 0, some 0⟩) rs.length 0].all (inP (has1 [j])) = true := by kernel_rfl) : Ev Tryz.prog A :=
  apN k nx (sT := 115) (xT := 115) (ty := 115) (e := 68) (e3 := 68) (s := 11) (j := j) (k := rs.length) (c2 := 0) (q2 := 0) (e2 := 68) (r2 := true) (new := rs.flatMap ruL) (flat_len ruL_len rs) (all_flat (fun _ => rfl) rs) ⟨List.length_pos_iff.2 h0, by omega⟩ (hn := hj) (hv := hv)
theorem tb_no (hi : i < l.length) (h2 : i < 12) (hl : RulgAt A g of l) (r : Rule) (hr : ∀ W, Calls Tryz.prog 44 #[.agg (rulgK.cells l[i])] W (Ret (.agg (ruL r).toArray) W)) (hip : 0 ≤ ip ∧ ip ≤ 4294967295) (ho : r.Ok) (h0 : rs ≠ []) (hn : rs.length ≤ 1000) (hm : ∀ x ∈ rs, mayR ip b x = true) (hc : adB o ip b rs r = false) :
    CodeJ Tryz.prog A (loopOf Tryz.prog 14) 51 (twV g of l.length c i) (twM o ip b rs) 12 .nrm (twV g of l.length c (i + 1)) (twM o ip b rs) 14 := by
  obtain ⟨e1, k1⟩ := add_f (A := A) hip r ho hc
  obtain ⟨e2, k2⟩ := dadd_f (A := A) hip r ho hm hc
  exact code [isT 4 (b := decide ((i : Int) < (l.length : Int))) (by simpa using hi), yes 8 (b := bif true then decide ((i : Int) < 12) else false) (by simp; omega), listE 16 12 11 h0 hn, atE 22 hi g of c, ldE 23 hi hl, ruE 24 l[i] r hr,
    calls 25 13 0 (at_ta (d := 0) k1 4 10 13), listE 33 13 11 h0 hn, atE 39 hi g of c, ldE 40 hi hl, ruE 41 l[i] r hr, calls 42 14 0 (at_da (d := 0) k2 9 11 14), nxT 44 h2]
theorem twM_id (σ : Nat → Nat) (h4 : σ 4 = 4) (h9 : σ 9 = 9) {x y : Nat} (h10 : σ x = 10) (h11 : σ y = 11) : ([(4, taB o ip b (.slice (some ⟨x, 0, some 0⟩) rs.length 0)), (9, daB o ip b (.slice (some ⟨y, 0, some 0⟩) rs.length 0)), (x, ruB rs), (y, ruB rs)] : List (Nat × Blk)).map (idB σ) = twM o ip b rs := by
  simp only [List.map_cons, List.map_nil, idB, flat_id (f := ruL) (fun _ => rfl), id0, idS, idA, h4, h9, h10, h11]
theorem twM_live {x y : Nat} (hx : live [x, y] 10 x = true) (hy : live [x, y] 10 y = true) : liveB [x, y] 10 [(4, taB o ip b (.slice (some ⟨x, 0, some 0⟩) rs.length 0)), (9, daB o ip b (.slice (some ⟨y, 0, some 0⟩) rs.length 0)), (x, ruB rs), (y, ruB rs)] = true := by
  have h4 : live [x, y] 10 4 = true := by unfold live; rw [show Nat.blt 4 10 = true from rfl, Bool.or_true]
  have h9 : live [x, y] 10 9 = true := by unfold live; rw [show Nat.blt 9 10 = true from rfl, Bool.or_true]
  simp only [liveB, List.all_cons, List.all_nil, all_flat (p := in0 (live [x, y] 10)) (f := ruL) (fun _ => rfl), in0, inS, inA, hx, hy, h4, h9]
  rfl
theorem tb_noR (hi : i < l.length) (h2 : i < 12) (hl : RulgAt A g of l) (r : Rule) (hr : ∀ W, Calls Tryz.prog 44 #[.agg (rulgK.cells l[i])] W (Ret (.agg (ruL r).toArray) W)) (hip : 0 ≤ ip ∧ ip ≤ 4294967295) (ho : r.Ok) (h0 : rs ≠ []) (hn : rs.length ≤ 1000) (hm : ∀ x ∈ rs, mayR ip b x = true) (hc : adB o ip b rs r = false) :
    CodeR Tryz.prog A (loopOf Tryz.prog 14) 51 (twV g of l.length c i) (twM o ip b rs) [4, 9] 10 2 .nrm (twV g of l.length c (i + 1)) (twM o ip b rs) 2 :=
  CodeJ.round (m := 2) (d := 2) (tb_no hi h2 hl r hr hip ho h0 hn hm hc) [10, 11] (h2 := twM_id _ rfl rfl rfl rfl) (h4 := twM_live rfl rfl)
theorem tb_yesR (hi : i < l.length) (h2 : i < 12) (hl : RulgAt A g of l) (r : Rule) (hr : ∀ W, Calls Tryz.prog 44 #[.agg (rulgK.cells l[i])] W (Ret (.agg (ruL r).toArray) W)) (hip : 0 ≤ ip ∧ ip ≤ 4294967295) (ho : r.Ok) (h0 : rs ≠ []) (hm : ∀ x ∈ rs, mayR ip b x = true) (hc : adB o ip b rs r = true) :
    CodeR Tryz.prog A (loopOf Tryz.prog 14) 51 (twV g of l.length c i) (twM o ip b rs) [4, 9] 10 2 .nrm (twV g of l.length c (i + 1)) (twM o ip b (rs ++ [r])) 2 := by
  unfold adB at hc
  rw [Bool.and_eq_true, Bool.and_eq_true, decide_eq_true_eq, Bool.not_eq_true'] at hc
  obtain ⟨c1, c2, c3⟩ := hc
  have k1 := at_ta (d := 1) (r1 := 2) (rs' := rs ++ [r]) (add_yes (A := A) o ip b r hip ho c1 (by omega) c3) 4 10 13
  have k2 := at_da (d := 1) (r1 := 2) (rs' := rs ++ [r]) (dadd_yes (A := A) r hip ho c1 (by omega) h0 (by rw [← c3]; exact any_same fun x hx => dclash_is o x r (hm x hx) c1)) 9 11 15
  have hn : rs.length ≤ 1000 := by omega
  have h := code (A := A) (P := Tryz.prog) (c := loopOf Tryz.prog 14) (n := 51) (vals := twV g of l.length c i) (vals' := twV g of l.length c (i + 1)) (sn := twM o ip b rs) (nx := 12) (nx' := 16) (x := .nrm)
    (out := [(4, taB o ip b (.slice (some ⟨13, 0, some 0⟩) (rs ++ [r]).length 0)), (9, daB o ip b (.slice (some ⟨15, 0, some 0⟩) (rs ++ [r]).length 0)), (13, ruB (rs ++ [r])), (15, ruB (rs ++ [r]))])
    [isT 4 (b := decide ((i : Int) < (l.length : Int))) (by simpa using hi), yes 8 (b := bif true then decide ((i : Int) < 12) else false) (by simp; omega), listE 16 12 11 h0 hn, atE 22 hi g of c, ldE 23 hi hl, ruE 24 l[i] r hr,
      calls 25 13 1 k1, listE 33 14 11 h0 hn, atE 39 hi g of c, ldE 40 hi hl, ruE 41 l[i] r hr, calls 42 15 1 k2, nxT 44 h2]
  exact CodeJ.round (m := 2) (d := 4) h [13, 15] (h2 := twM_id _ rfl rfl rfl rfl) (h4 := twM_live rfl rfl)
/-! ### the loop -/
theorem tw_rest (hip : 0 ≤ ip ∧ ip ≤ 4294967295) (hl : RulgAt A g of l) (hok : ∀ x ∈ l, x.Ok) : ∀ (k i : Nat) (rs : List Rule), k + i = 12 → rs ≠ [] → rs.length ≤ i → (∀ x ∈ rs, mayR ip b x = true ∧ x.Ok) →
    ∃ rs' : List Rule, rs' ≠ [] ∧ rs'.length ≤ 12 ∧ (∀ x ∈ rs', mayR ip b x = true ∧ x.Ok) ∧ LoopI Tryz.prog A (loopOf Tryz.prog 14) 51 (twM0 o ip b) 10 2 (twV g of l.length c i) (twM o ip b rs) (.ex 0) twE (twM o ip b rs') 2
  | 0, i, rs, hk, h0, hn, hm => ⟨rs, h0, by omega, hm, LoopI.nil (CodeJ.round (m := 2) (d := 0) (tb_end (by omega)) [10, 11] (h2 := twM_id _ rfl rfl rfl rfl) (h4 := twM_live rfl rfl))⟩
  | k + 1, i, rs, hk, h0, hn, hm => by
    by_cases hi : i < l.length
    · obtain ⟨r, ho, hr⟩ := w_Rule l[i] (hok _ (List.getElem_mem hi))
      cases hc : adB o ip b rs r
      · obtain ⟨rs', a1, a2, a3, a4⟩ := tw_rest hip hl hok k (i + 1) rs (by omega) h0 (by omega) hm
        exact ⟨rs', a1, a2, a3, LoopI.cons (tb_noR hi (by omega) hl r hr hip ho h0 (by omega) (fun x hx => (hm x hx).1) hc) a4⟩
      · have hc1 : mayR ip b r = true := by unfold adB at hc; rw [Bool.and_eq_true] at hc; exact hc.1
        obtain ⟨rs', a1, a2, a3, a4⟩ := tw_rest hip hl hok k (i + 1) (rs ++ [r]) (by omega) (by simp) (by simp; omega) fun x hx => by
          rcases List.mem_append.1 hx with hx | hx
          · exact hm x hx
          · rcases List.mem_singleton.1 hx with rfl
            exact ⟨hc1, ho⟩
        exact ⟨rs', a1, a2, a3, LoopI.cons (tb_yesR hi (by omega) hl r hr hip ho h0 (fun x hx => (hm x hx).1) hc) a4⟩
    · exact ⟨rs, h0, by omega, hm, LoopI.nil (CodeJ.round (m := 2) (d := 0) (tb_end (by omega)) [10, 11] (h2 := twM_id _ rfl rfl rfl rfl) (h4 := twM_live rfl rfl))⟩
theorem tw_all (hip : 0 ≤ ip ∧ ip ≤ 4294967295) (hl : RulgAt A g of l) (hok : ∀ x ∈ l, x.Ok) : ∀ (k i : Nat), k + i = 12 →
    LoopI Tryz.prog A (loopOf Tryz.prog 14) 51 (twM0 o ip b) 10 0 (twV g of l.length c i) (twM0 o ip b) (.ex 0) twE (twM0 o ip b) 0 ∨
    ∃ rs' : List Rule, rs' ≠ [] ∧ rs'.length ≤ 12 ∧ (∀ x ∈ rs', mayR ip b x = true ∧ x.Ok) ∧ LoopI Tryz.prog A (loopOf Tryz.prog 14) 51 (twM0 o ip b) 10 0 (twV g of l.length c i) (twM0 o ip b) (.ex 0) twE (twM o ip b rs') 2
  | 0, i, hk => .inl (LoopI.nil (CodeJ.round (m := 0) (d := 0) (tb_end0 (by omega)) []))
  | k + 1, i, hk => by
    by_cases hi : i < l.length
    · obtain ⟨r, ho, hr⟩ := w_Rule l[i] (hok _ (List.getElem_mem hi))
      cases hc : mayR ip b r
      · have h1 := CodeJ.round (m := 0) (d := 0) (base := [4, 9]) (vals' := twV g of l.length c (i + 1)) (out' := twM0 o ip b) (tb_no0 (A := A) (o := o) (c := c) hi (by omega) hl r hr hip ho hc) []
        rcases tw_all hip hl hok k (i + 1) (by omega) with a | ⟨rs', a1, a2, a3, a4⟩
        · exact .inl (LoopI.cons h1 a)
        · exact .inr ⟨rs', a1, a2, a3, LoopI.cons h1 a4⟩
      · obtain ⟨rs', a1, a2, a3, a4⟩ := tw_rest (A := A) (o := o) (b := b) (c := c) hip hl hok k (i + 1) [r] (by omega) (by simp) (by simp) fun x hx => by
          rcases List.mem_singleton.1 hx with rfl
          exact ⟨hc, ho⟩
        exact .inr ⟨rs', a1, a2, a3, LoopI.cons (tb_yes0 hi (by omega) hl r hr hip ho hc) a4⟩
    · exact .inl (LoopI.nil (CodeJ.round (m := 0) (d := 0) (tb_end0 (by omega)) []))
end Go.Proofs.YtilfcikhipadpaaGreatDoor
end

section
/- Tables, whole. -/
set_option linter.unusedVariables false
set_option linter.unusedSimpArgs false
namespace Go.Proofs.YtilfcikhipadpaaGreatDoor
open Go.RowKit Go.Lib Rx
variable {A : Amb}
abbrev oC : Int := 151587081
abbrev ipC : Int := 167772160
/-- both tables: the program's at 0, the document's at 1, their rules at 2 and 3 -/
@[reducible] def bothM (rs : List Rule) : List (Nat × Blk) := [(0, taB oC ipC 8 (.slice (some ⟨2, 0, some 0⟩) rs.length 0)), (1, daB oC ipC 8 (.slice (some ⟨3, 0, some 0⟩) rs.length 0)), (2, ruB rs), (3, ruB rs)]
@[reducible] def bothM0 : List (Nat × Blk) := [(0, taB oC ipC 8 (.slice none 0 0)), (1, daB oC ipC 8 (.slice none 0 0))]
/-- what may be said of the rules of such a table -/
def RsOk (rs : List Rule) : Prop := rs ≠ [] ∧ rs.length ≤ 12 ∧ ∀ x ∈ rs, mayR ipC 8 x = true ∧ x.Ok
def TabsSay (A : Amb) (X : Option Addr) (n c : Nat) : Prop :=
  CallJ Tryz.prog A 14 [.slice X n c] [] 0 (.tuple #[ptr 0, ptr 1]) bothM0 2 ∨ ∃ rs, RsOk rs ∧ CallJ Tryz.prog A 14 [.slice X n c] [] 0 (.tuple #[ptr 0, ptr 1]) (bothM rs) 4
theorem w_Tables {g of c : Nat} {l : List Rulg} (hl : RulgAt A g of l) (hok : ∀ x ∈ l, x.Ok) : TabsSay A (some ⟨g, of, none⟩) l.length c := by
  have hip : (0 : Int) ≤ ipC ∧ ipC ≤ 4294967295 := by decide
  rcases tw_all (A := A) (o := oC) (ip := ipC) (b := 8) (c := c) hip hl hok 12 0 rfl with h | ⟨rs, h0, hn, hm, h⟩
  · have k := LoopI.toJ (vals := twV g of l.length c 0) [] h
    have r := con (A := A) (P := Tryz.prog) (f := 14) (args := [.slice (some ⟨g, of, none⟩) l.length c]) (sn := []) (nx := 0) (v := .tuple #[ptr 4, ptr 9]) (out := twM0 oC ipC 8) (nx' := 10) [loops 1093 10 0 k]
    exact .inl ((r.re (d := 10) [4, 9]).eq rfl rfl)
  · have k := LoopI.toJ (vals := twV g of l.length c 0) [] h
    have r := con (A := A) (P := Tryz.prog) (f := 14) (args := [.slice (some ⟨g, of, none⟩) l.length c]) (sn := []) (nx := 0) (v := .tuple #[ptr 4, ptr 9]) (out := twM oC ipC 8 rs) (nx' := 12) [loops 1093 10 2 k]
    refine .inr ⟨rs, ⟨h0, hn, hm⟩, ((r.re (d := 12) [4, 9, 10, 11] (h4 := ?_)).eq rfl ?_)⟩
    · simp only [liveB, List.all_cons, List.all_nil, all_flat (p := in0 (live [4, 9, 10, 11] 0)) (f := ruL) (fun _ => rfl)]
      rfl
    · simp only [List.map_cons, List.map_nil, idB, flat_id (f := ruL) (fun _ => rfl)]
      rfl
theorem w_Tables0 {c : Nat} : TabsSay A none 0 c :=
  .inl (((con (A := A) (P := Tryz.prog) (f := 14) (args := [.slice none 0 c]) (sn := []) (nx := 0) (v := .tuple #[ptr 4, ptr 9]) (out := twM0 oC ipC 8) (nx' := 10) []).re (d := 10) [4, 9]).eq rfl rfl)
end Go.Proofs.YtilfcikhipadpaaGreatDoor
end
