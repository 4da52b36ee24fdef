/- Several texts of this claim, one behind the other. -/
import Derived.KernelRfl
import Derived.Test.YtilfcikhipadpaaGreatDoorK25a

section
/- Events: rows that came in. -/
set_option linter.unusedVariables false
namespace Go.Proofs.YtilfcikhipadpaaGreatDoor
open Go.RowKit Go.Lib
namespace Rx
theorem at_in {P : Program} {T e : TypeId} {b o n c s : Nat} {k : IntKind} {i : Nat} (hu : P.underlying T = some (.slice e)) (hs : pureRun P (sizeOf e) = some s) (h : i < n) (W : World) :
    ((Instr.indexAt T (.slice (some ⟨b, o, none⟩) n c) (.int k (i : Int))) >>= fun v => (pure (Next.value v) : Sem Next)).run P W = .ok (.value (.pointer (some ⟨b, o + i * s, none⟩))) W := by
  have h1 : (Instr.indexAt T (.slice (some ⟨b, o, none⟩) n c) (.int k (i : Int))).run P W = .ok (.pointer (some ⟨b, o + i * s, none⟩)) W := by
    unfold Instr.indexAt
    rw [run_bind_ok (show (asIntOf (.int k (i : Int))).run P W = .ok (k, (i : Int)) W from rfl), run_bind_ok (run_underlying hu W)]
    have hs' := pureRun_run W _ _ hs
    simp only [run_underlying hu, Sem.run_bind, Result.andThen_ok]
    simp [hs', h, Addr.add]
  rw [run_bind_ok h1]
  rfl
end Rx
end Go.Proofs.YtilfcikhipadpaaGreatDoor
end

section
/- Tables: both tables of rulings. -/
set_option linter.unusedVariables false
set_option linter.unusedSimpArgs false
namespace Go.Proofs.YtilfcikhipadpaaGreatDoor
open Go.RowKit Go.Lib Rx
variable {A : Amb} {rs : List Rule} {o ip b : Int}
/-! ### a struct that came in -/
theorem run_lcf {P : Program} {W : World} {a : Addr} : ∀ (cs : List Value) (i : Nat) (acc : Array Value), (∀ j u, cs[j]? = some u → W.cell? (a.add (i + j)) = some u) → (loadCellsFrom a i cs.length acc).run P W = .ok (acc ++ cs.toArray) W
  | [], i, acc, h => by simp [loadCellsFrom, Sem.run]
  | v :: cs, i, acc, h => by
    have h0 := h 0 v rfl
    rw [Nat.add_zero] at h0
    show ((load (a.add i)) >>= fun v => loadCellsFrom a (i + 1) cs.length (acc.push v)).run P W = _
    rw [run_bind_ok (show (load (a.add i)).run P W = .ok v W by simp [load, Sem.run, h0]), run_lcf cs (i + 1) (acc.push v) fun j u hu => by
      rw [show i + 1 + j = i + (j + 1) by omega]
      exact h (j + 1) u hu]
    simp
theorem ldA_in {P : Program} {T : TypeId} {a : Addr} {cs : List Value} {n : Nat} {W : World} (ha : pureRun P (isAgg T) = some true) (hs : pureRun P (sizeOf T) = some n) (hl : cs.length = n) (hc : ∀ j u, cs[j]? = some u → W.cell? (a.add j) = some u) :
    ((Instr.loadAt T (.pointer (some a))) >>= fun v => (pure (Next.value v) : Sem Next)).run P W = .ok (.value (.agg cs.toArray)) W := by
  have h1 : (Instr.loadAt T (.pointer (some a))).run P W = .ok (.agg cs.toArray) W := by
    have ha' := pureRun_run W _ _ ha
    have hs' := pureRun_run W _ _ hs
    show (loadVar T a).run P W = _
    unfold loadVar
    rw [run_bind_ok ha']
    simp only [if_true]
    subst hl
    rw [run_bind_ok hs']
    rw [run_bind_ok (show (loadCells a cs.length).run P W = .ok cs.toArray W by
      have := run_lcf (P := P) (W := W) (a := a) cs 0 #[] fun j u hu => by rw [Nat.zero_add]; exact hc j u hu
      simpa [loadCells] using this)]
    rfl
  rw [run_bind_ok h1]
  rfl
/-! ### a contract that makes no names, at any of them -/
theorem CallJ.lvl {P : Program} {f : FuncId} {args : List Value} {sn out : List (Nat × Blk)} {a : Nat} {v : Value} (h : CallJ P A f args sn a v out a) (n : Nat) : CallJ P A f args sn n v out n := by
  intro D ρ w hm hf hd
  refine (h D ρ w hm hf (fun i hi k => by omega)).mono ?_
  rintro e w' ⟨ρ', rfl, k⟩
  have hx : ∀ i, ext D a a i → ext D n n i := fun i hi => by
    rcases hi with hi | hi
    · exact Or.inl hi
    · omega
  exact ⟨ρ', rfl, fun i _ => k.same i (by omega), k.fit.mono hx, ⟨k.mem.s, fun e => ⟨hx _ (k.mem.dom e).1, (k.mem.dom e).2⟩, fun e v hv => (k.mem.fit e v hv).mono hx, k.mem.lies, k.mem.inj⟩, k.kept, fun i b h1 h2 => by omega⟩
/-! ### Add: what it comes to -/
/-- may it be added? -/
def adB (o ip b : Int) (rs : List Rule) (r : Rule) : Bool := mayR ip b r && (decide (rs.length < 32) && !(rs.any fun x => clq (whoR o x) (whoR o r)))
abbrev addF : FuncId := 42
abbrev daddF : FuncId := 45
@[reducible] def adA (rs : List Rule) (r : Rule) : List Value := [ptr 0, .int .i64 (rs.length : Int), .agg (ruL r).toArray]
theorem any_same {p q : Rule → Bool} : ∀ {rs : List Rule}, (∀ x ∈ rs, p x = q x) → rs.any p = rs.any q
  | [], _ => rfl
  | x :: l, h => by rw [List.any_cons, List.any_cons, h x (by simp), any_same fun y hy => h y (by simp [hy])]
theorem add_f (hip : 0 ≤ ip ∧ ip ≤ 4294967295) (r : Rule) (hr : r.Ok) (hf : adB o ip b rs r = false) : ∃ e, CallJ Tryz.prog A addF (adA rs r) (taM o ip b rs) 2 (.int .i64 e) (taM o ip b rs) 2 := by
  have k := (chk_J (A := A) o ip b (.slice (some ⟨1, 0, some 0⟩) rs.length 0) r hip hr).up (n := 4)
  by_cases hc : mayR ip b r = true
  · by_cases hl : 32 ≤ rs.length
    · rw [show chq ip b r = 0 by unfold chq; rw [if_pos hc]] at k
      exact ⟨_, (con (nx' := 4) [calls 5 4 0 k, no 22 (b := bif decide ((rs.length : Int) < 0) then true else decide ((rs.length : Int) > rs.length)) (by simp), yes 30 (b := decide ((rs.length : Int) ≥ 32)) (by simp; omega)]).drop (v := .int .i64 5) (h2 := taM_in o ip b rs) (h4 := taM_in o ip b rs)⟩
    · refine ⟨_, add_clash o ip b r hip hr hc hl ?_⟩
      unfold adB at hf
      rw [hc, show decide (rs.length < 32) = true by simpa using hl] at hf
      simpa using hf
  · rw [show chq ip b r = 2 by unfold chq; rw [if_neg hc]] at k
    exact ⟨_, (con (nx' := 4) [calls 5 4 0 k]).drop (v := .int .i64 2) (h2 := taM_in o ip b rs) (h4 := taM_in o ip b rs)⟩
theorem dadd_f (hip : 0 ≤ ip ∧ ip ≤ 4294967295) (r : Rule) (hr : r.Ok) (hm : ∀ x ∈ rs, mayR ip b x = true) (hf : adB o ip b rs r = false) : ∃ e, CallJ Tryz.prog A daddF (adA rs r) (daM o ip b rs) 2 (.int .i64 e) (daM o ip b rs) 2 := by
  have k := dmy_J (A := A) o ip b (.slice (some ⟨1, 0, some 0⟩) rs.length 0) r hip hr 3
  by_cases hc : mayR ip b r = true
  · by_cases hl : 32 ≤ rs.length
    · rw [hc] at k
      exact ⟨_, (con (nx' := 3) [calls 4 3 0 k, isF 10 (b := decide ((rs.length : Int) < 0)) (by simp), no 19 (b := decide ((rs.length : Int) > rs.length)) (by simp), yes 26 (b := decide ((rs.length : Int) > 31)) (by simp; omega)]).drop (v := .int .i64 5) (h2 := daM_in o ip b rs) (h4 := daM_in o ip b rs)⟩
    · refine ⟨_, dadd_clash r hip hr hc hl ?_⟩
      unfold adB at hf
      rw [hc, show decide (rs.length < 32) = true by simpa using hl] at hf
      have hf : (rs.any fun x => clq (whoR o x) (whoR o r)) = true := by simpa using hf
      rw [← hf]
      exact any_same fun x hx => dclash_is o x r (hm x hx) hc
  · rw [show mayR ip b r = false by simpa using hc] at k
    exact ⟨_, (con (nx' := 3) [calls 4 3 0 k]).drop (v := .int .i64 2) (h2 := daM_in o ip b rs) (h4 := daM_in o ip b rs)⟩
/-! ### under other names -/
@[reducible] def taN (t r : Nat) (o ip b : Int) (rs : List Rule) : List (Nat × Blk) := [(t, taB o ip b (.slice (some ⟨r, 0, some 0⟩) rs.length 0)), (r, ruB rs)]
@[reducible] def daN (t r : Nat) (o ip b : Int) (rs : List Rule) : List (Nat × Blk) := [(t, daB o ip b (.slice (some ⟨r, 0, some 0⟩) rs.length 0)), (r, ruB rs)]
theorem taN_id (σ : Nat → Nat) (t r : Nat) : (taN t r o ip b rs).map (idB σ) = taN (σ t) (σ r) o ip b rs := by
  simp only [List.map_cons, List.map_nil, idB, flat_id (f := ruL) (fun _ => rfl), id0, idS, idA]
theorem daN_id (σ : Nat → Nat) (t r : Nat) : (daN t r o ip b rs).map (idB σ) = daN (σ t) (σ r) o ip b rs := by
  simp only [List.map_cons, List.map_nil, idB, flat_id (f := ruL) (fun _ => rfl), id0, idS, idA]
theorem taN_in {t r n : Nat} (ht : t < n) (hr : r < n) : inBlks n (taN t r o ip b rs) = true := by
  have h : ∀ j, j < n → Nat.blt j n = true := fun j hj => by simpa [Nat.blt_eq] using hj
  simp only [inBlks, List.all_cons, List.all_nil, all_flat (p := in0 (ltB n)) (f := ruL) (fun _ => rfl), h t ht, h r hr, inC, in0, inS, inA, ltB]
  rfl
theorem daN_in {t r n : Nat} (ht : t < n) (hr : r < n) : inBlks n (daN t r o ip b rs) = true := by
  have h : ∀ j, j < n → Nat.blt j n = true := fun j hj => by simpa [Nat.blt_eq] using hj
  simp only [inBlks, List.all_cons, List.all_nil, all_flat (p := in0 (ltB n)) (f := ruL) (fun _ => rfl), h t ht, h r hr, inC, in0, inS, inA, ltB]
  rfl
theorem at_ta {f : FuncId} {args : List Value} {v : Value} {r1 d : Nat} {rs' : List Rule} (h : CallJ Tryz.prog A f args (taM o ip b rs) 2 v (taN 0 r1 o ip b rs') (2 + d)) (t r nx : Nat) (ht : Nat.blt t nx = true := by kernel_rfl) (hr : Nat.blt r nx = true := by kernel_rfl) (hne : ([t, r] : List Nat).Nodup := by decide) (h5 : r1 < 2 + d := by decide) (h1 : args.all (inV 2) = true := by kernel_rfl) (h3 : inV (2 + d) v = true := by kernel_rfl) :
    CallJ Tryz.prog A f (args.map (idV (sig [t, r] nx))) (taN t r o ip b rs) nx (idV (sig [t, r] nx) v) (taN t (sig [t, r] nx r1) o ip b rs') (nx + d) := by
  have k := h.at [t, r] nx (hnd := by simp only [List.all_cons, List.all_nil, ht, hr]; rfl) (hn := hne) (h1 := h1) (h2 := taM_in o ip b rs) (h3 := h3) (h4 := taN_in (by omega) h5)
  rwa [show (taM o ip b rs).map (idB (sig [t, r] nx)) = taN t r o ip b rs from taN_id _ 0 1, taN_id] at k
theorem at_da {f : FuncId} {args : List Value} {v : Value} {r1 d : Nat} {rs' : List Rule} (h : CallJ Tryz.prog A f args (daM o ip b rs) 2 v (daN 0 r1 o ip b rs') (2 + d)) (t r nx : Nat) (ht : Nat.blt t nx = true := by kernel_rfl) (hr : Nat.blt r nx = true := by kernel_rfl) (hne : ([t, r] : List Nat).Nodup := by decide) (h5 : r1 < 2 + d := by decide) (h1 : args.all (inV 2) = true := by kernel_rfl) (h3 : inV (2 + d) v = true := by kernel_rfl) :
    CallJ Tryz.prog A f (args.map (idV (sig [t, r] nx))) (daN t r o ip b rs) nx (idV (sig [t, r] nx) v) (daN t (sig [t, r] nx r1) o ip b rs') (nx + d) := by
  have k := h.at [t, r] nx (hnd := by simp only [List.all_cons, List.all_nil, ht, hr]; rfl) (hn := hne) (h1 := h1) (h2 := daM_in o ip b rs) (h3 := h3) (h4 := daN_in (by omega) h5)
  rwa [show (daM o ip b rs).map (idB (sig [t, r] nx)) = daN t r o ip b rs from daN_id _ 0 1, daN_id] at k
/-! ### of none -/
theorem add1_no (r : Rule) (hip : 0 ≤ ip ∧ ip ≤ 4294967295) (hr : r.Ok) (hc : ¬ mayR ip b r = true) (n : Nat) : CallJ Tryz.prog A addF [ptr 0, .int .i64 0, .agg (ruL r).toArray] (naM o ip b) n (.int .i64 2) (naM o ip b) n := CallJ.lvl (add0_no o ip b r hip hr hc) n
theorem add1_yes (r : Rule) (hip : 0 ≤ ip ∧ ip ≤ 4294967295) (hr : r.Ok) (hc : mayR ip b r = true) : CallJ Tryz.prog A addF [ptr 0, .int .i64 0, .agg (ruL r).toArray] (naM o ip b) 1 (.int .i64 0) [(0, taB o ip b (.slice (some ⟨1, 0, some 0⟩) 1 0)), (1, ruB [r])] 2 := by
  have k := CallJ.lvl (chk_J (A := A) o ip b (.slice none 0 0) r hip hr) 3
  rw [show chq ip b r = 0 by unfold chq; rw [if_pos hc]] at k
  exact ((con (A := A) (P := Tryz.prog) (f := addF) (args := [ptr 0, .int .i64 0, .agg (ruL r).toArray]) (sn := naM o ip b) (nx := 1) (v := .int .i64 0) (out := [(0, taB o ip b (.slice (some ⟨4, 0, some 0⟩) 1 0)), (4, ruB [r])]) (nx' := 5) [calls 5 3 0 k]).re (d := 4) [4]).eq rfl rfl
theorem dadd1_no (r : Rule) (hip : 0 ≤ ip ∧ ip ≤ 4294967295) (hr : r.Ok) (hc : mayR ip b r = false) (n : Nat) : CallJ Tryz.prog A daddF [ptr 0, .int .i64 0, .agg (ruL r).toArray] (dnM o ip b) n (.int .i64 2) (dnM o ip b) n := CallJ.lvl (dadd0_no r hip hr hc) n
theorem dadd1_yes (r : Rule) (hip : 0 ≤ ip ∧ ip ≤ 4294967295) (hr : r.Ok) (hc : mayR ip b r = true) : CallJ Tryz.prog A daddF [ptr 0, .int .i64 0, .agg (ruL r).toArray] (dnM o ip b) 1 (.int .i64 0) [(0, daB o ip b (.slice (some ⟨1, 0, some 0⟩) 1 0)), (1, ruB [r])] 2 := by
  have k := CallJ.lvl (dmy_J (A := A) o ip b (.slice none 0 0) r hip hr 2) 2
  rw [hc] at k
  exact ((con (A := A) (P := Tryz.prog) (f := daddF) (args := [ptr 0, .int .i64 0, .agg (ruL r).toArray]) (sn := dnM o ip b) (nx := 1) (v := .int .i64 0) (out := [(0, daB o ip b (.slice (some ⟨4, 0, some 0⟩) 1 0)), (4, ruB [r])]) (nx' := 5) [calls 4 2 0 k]).re (d := 4) [4]).eq rfl rfl
end Go.Proofs.YtilfcikhipadpaaGreatDoor
end

section
/- An entry, as the document's: printed (gen/docs.py). -/
set_option linter.unusedVariables false
set_option linter.unusedSimpArgs false
namespace Go.Proofs.YtilfcikhipadpaaGreatDoor
open Go.RowKit Go.Lib Rx
variable {A : Amb} {g of c : Nat}
/-- an entry, with these holds -/
@[reducible] def enV (op oa ob oc od rp ra rb rc rd st dl : Int) (v : Value) : Value := .agg #[.int .u8 op, .int .u32 oa, .int .u16 ob, .int .u32 oc, .int .u16 od, .int .u8 rp, .int .u32 ra, .int .u16 rb, .int .u32 rc, .int .u16 rd, .int .i64 st, .int .i64 dl, v]
/-- the holds as they came in -/
def HoldAt (A : Amb) (g of : Nat) (l : List Hol) : Prop := ∀ W, A.S W → ∀ (j : Nat) (hj : j < l.length) (k : Nat) (u : Value), (holdK.cells l[j]).toList[k]? = some u → W.cell? ⟨g, of + j * 4 + k, none⟩ = some u
theorem hold_at {w : World} {l : List Hol} (h : holdK.Has w (some ⟨g, of, none⟩) l) : HoldAt (Amb.of w) g of l := fun W hW j hj k u hu => by
  obtain ⟨g', o', e, hg, hc⟩ := (h.below hW) (by omega)
  simp only [Option.some.injEq, Addr.mk.injEq, and_true] at e
  obtain ⟨rfl, rfl⟩ := e
  exact hc j hj k u hu
variable {l : List Hol} {i : Nat}
def hAt (k : Nat) (hi : i < l.length) (g of c : Nat) : Ev Tryz.prog A := gives k fun W _ => at_in (T := 75) (e := 147) (b := g) (o := of) (n := l.length) (c := c) (s := 4) (k := .i64) (by kernel_rfl) (by kernel_rfl) hi W
def hLd (k : Nat) (hi : i < l.length) (hl : HoldAt A g of l) : Ev Tryz.prog A := gives k fun W h => ldA_in (T := 147) (a := ⟨g, of + i * 4, none⟩) (cs := (holdK.cells l[i]).toList) (n := 4) (by kernel_rfl) (by kernel_rfl) rfl fun j u hu => by rw [Addr.add_lit]; exact hl W h i hi j u hu
theorem doc1 (op oa ob oc od rp ra rb rc rd st dl : Int) (h0 : Hol) (hl : HoldAt A g of [h0]) : CallJ Tryz.prog A 24 [enV op oa ob oc od rp ra rb rc rd st dl (.slice (some ⟨g, of, none⟩) 1 c)] [] 0 (enV op oa ob oc od rp ra rb rc rd st dl (.slice (some ⟨0, 0, some 0⟩) 1 0)) [(0, hdB [h0])] 1 :=
  (con (v := enV op oa ob oc od rp ra rb rc rd st dl (.slice (some ⟨4, 0, some 0⟩) 1 0)) (out := [(4, hdB [h0])]) (nx' := 5) [hAt (l := [h0]) (i := 0) 25 (by simp) g of c, hLd (l := [h0]) (i := 0) 26 (by simp) hl]).re (d := 5) [4]
theorem doc2 (op oa ob oc od rp ra rb rc rd st dl : Int) (h0 h1 : Hol) (hl : HoldAt A g of [h0, h1]) : CallJ Tryz.prog A 24 [enV op oa ob oc od rp ra rb rc rd st dl (.slice (some ⟨g, of, none⟩) 2 c)] [] 0 (enV op oa ob oc od rp ra rb rc rd st dl (.slice (some ⟨0, 0, some 0⟩) 2 0)) [(0, hdB [h0, h1])] 1 :=
  (con (v := enV op oa ob oc od rp ra rb rc rd st dl (.slice (some ⟨6, 0, some 0⟩) 2 0)) (out := [(6, hdB [h0, h1])]) (nx' := 7) [hAt (l := [h0, h1]) (i := 0) 25 (by simp) g of c, hLd (l := [h0, h1]) (i := 0) 26 (by simp) hl, hAt (l := [h0, h1]) (i := 1) 45 (by simp) g of c, hLd (l := [h0, h1]) (i := 1) 46 (by simp) hl]).re (d := 7) [6]
theorem doc3 (op oa ob oc od rp ra rb rc rd st dl : Int) (h0 h1 h2 : Hol) (hl : HoldAt A g of [h0, h1, h2]) : CallJ Tryz.prog A 24 [enV op oa ob oc od rp ra rb rc rd st dl (.slice (some ⟨g, of, none⟩) 3 c)] [] 0 (enV op oa ob oc od rp ra rb rc rd st dl (.slice (some ⟨0, 0, some 0⟩) 3 0)) [(0, hdB [h0, h1, h2])] 1 :=
  (con (v := enV op oa ob oc od rp ra rb rc rd st dl (.slice (some ⟨8, 0, some 0⟩) 3 0)) (out := [(8, hdB [h0, h1, h2])]) (nx' := 9) [hAt (l := [h0, h1, h2]) (i := 0) 25 (by simp) g of c, hLd (l := [h0, h1, h2]) (i := 0) 26 (by simp) hl, hAt (l := [h0, h1, h2]) (i := 1) 45 (by simp) g of c, hLd (l := [h0, h1, h2]) (i := 1) 46 (by simp) hl, hAt (l := [h0, h1, h2]) (i := 2) 65 (by simp) g of c, hLd (l := [h0, h1, h2]) (i := 2) 66 (by simp) hl]).re (d := 9) [8]
theorem doc4 (op oa ob oc od rp ra rb rc rd st dl : Int) (h0 h1 h2 h3 : Hol) (hl : HoldAt A g of [h0, h1, h2, h3]) : CallJ Tryz.prog A 24 [enV op oa ob oc od rp ra rb rc rd st dl (.slice (some ⟨g, of, none⟩) 4 c)] [] 0 (enV op oa ob oc od rp ra rb rc rd st dl (.slice (some ⟨0, 0, some 0⟩) 4 0)) [(0, hdB [h0, h1, h2, h3])] 1 :=
  (con (v := enV op oa ob oc od rp ra rb rc rd st dl (.slice (some ⟨10, 0, some 0⟩) 4 0)) (out := [(10, hdB [h0, h1, h2, h3])]) (nx' := 11) [hAt (l := [h0, h1, h2, h3]) (i := 0) 25 (by simp) g of c, hLd (l := [h0, h1, h2, h3]) (i := 0) 26 (by simp) hl, hAt (l := [h0, h1, h2, h3]) (i := 1) 45 (by simp) g of c, hLd (l := [h0, h1, h2, h3]) (i := 1) 46 (by simp) hl, hAt (l := [h0, h1, h2, h3]) (i := 2) 65 (by simp) g of c, hLd (l := [h0, h1, h2, h3]) (i := 2) 66 (by simp) hl, hAt (l := [h0, h1, h2, h3]) (i := 3) 85 (by simp) g of c, hLd (l := [h0, h1, h2, h3]) (i := 3) 86 (by simp) hl]).re (d := 11) [10]
theorem doc5 (op oa ob oc od rp ra rb rc rd st dl : Int) (h0 h1 h2 h3 h4 : Hol) (hl : HoldAt A g of [h0, h1, h2, h3, h4]) : CallJ Tryz.prog A 24 [enV op oa ob oc od rp ra rb rc rd st dl (.slice (some ⟨g, of, none⟩) 5 c)] [] 0 (enV op oa ob oc od rp ra rb rc rd st dl (.slice (some ⟨0, 0, some 0⟩) 5 0)) [(0, hdB [h0, h1, h2, h3, h4])] 1 :=
  (con (v := enV op oa ob oc od rp ra rb rc rd st dl (.slice (some ⟨12, 0, some 0⟩) 5 0)) (out := [(12, hdB [h0, h1, h2, h3, h4])]) (nx' := 13) [hAt (l := [h0, h1, h2, h3, h4]) (i := 0) 25 (by simp) g of c, hLd (l := [h0, h1, h2, h3, h4]) (i := 0) 26 (by simp) hl, hAt (l := [h0, h1, h2, h3, h4]) (i := 1) 45 (by simp) g of c, hLd (l := [h0, h1, h2, h3, h4]) (i := 1) 46 (by simp) hl, hAt (l := [h0, h1, h2, h3, h4]) (i := 2) 65 (by simp) g of c, hLd (l := [h0, h1, h2, h3, h4]) (i := 2) 66 (by simp) hl, hAt (l := [h0, h1, h2, h3, h4]) (i := 3) 85 (by simp) g of c, hLd (l := [h0, h1, h2, h3, h4]) (i := 3) 86 (by simp) hl, hAt (l := [h0, h1, h2, h3, h4]) (i := 4) 105 (by simp) g of c, hLd (l := [h0, h1, h2, h3, h4]) (i := 4) 106 (by simp) hl]).re (d := 13) [12]
theorem doc0 (op oa ob oc od rp ra rb rc rd st dl : Int) {X : Option Addr} (hX : RealA X) : CallJ Tryz.prog A 24 [enV op oa ob oc od rp ra rb rc rd st dl (.slice X 0 c)] [] 0 (enV op oa ob oc od rp ra rb rc rd st dl (.slice none 0 0)) [] 0 := by
  rcases hX with rfl | ⟨g, of, rfl⟩
  · exact (con (nx' := 3) []).drop
  · exact (con (nx' := 3) []).drop
/-- the document's entry -/
theorem doc_J (op oa ob oc od rp ra rb rc rd st dl : Int) {X : Option Addr} {n : Nat} (hX : RealA X) (hn : n = l.length) (h5 : l.length ≤ 5) (hl : ∀ g of, X = some ⟨g, of, none⟩ → HoldAt A g of l) (h0 : l = [] ∨ X ≠ none) :
    CallJ Tryz.prog A 24 [enV op oa ob oc od rp ra rb rc rd st dl (.slice X n c)] [] 0 (enV op oa ob oc od rp ra rb rc rd st dl (.slice none 0 0)) [] 0 ∨ CallJ Tryz.prog A 24 [enV op oa ob oc od rp ra rb rc rd st dl (.slice X n c)] [] 0 (enV op oa ob oc od rp ra rb rc rd st dl (.slice (some ⟨0, 0, some 0⟩) l.length 0)) [(0, hdB l)] 1 := by
  subst hn
  rcases l with _ | ⟨a, _ | ⟨b, _ | ⟨d, _ | ⟨e, _ | ⟨f, _ | ⟨q, r⟩⟩⟩⟩⟩⟩
  · exact .inl (doc0 op oa ob oc od rp ra rb rc rd st dl hX)
  · rcases hX with rfl | ⟨g, of, rfl⟩
    · exact absurd h0 (by simp)
    · exact .inr (doc1 op oa ob oc od rp ra rb rc rd st dl a (hl g of rfl))
  · rcases hX with rfl | ⟨g, of, rfl⟩
    · exact absurd h0 (by simp)
    · exact .inr (doc2 op oa ob oc od rp ra rb rc rd st dl a b (hl g of rfl))
  · rcases hX with rfl | ⟨g, of, rfl⟩
    · exact absurd h0 (by simp)
    · exact .inr (doc3 op oa ob oc od rp ra rb rc rd st dl a b d (hl g of rfl))
  · rcases hX with rfl | ⟨g, of, rfl⟩
    · exact absurd h0 (by simp)
    · exact .inr (doc4 op oa ob oc od rp ra rb rc rd st dl a b d e (hl g of rfl))
  · rcases hX with rfl | ⟨g, of, rfl⟩
    · exact absurd h0 (by simp)
    · exact .inr (doc5 op oa ob oc od rp ra rb rc rd st dl a b d e f (hl g of rfl))
  · simp only [List.length_cons] at h5; omega
end Go.Proofs.YtilfcikhipadpaaGreatDoor
end

section
/- Numbers: what wraps and parts of bytes come to. No program. -/
set_option linter.unusedVariables false
set_option linter.unusedSimpArgs false
namespace Go.Proofs.YtilfcikhipadpaaGreatDoor
open Go.RowKit Go.Lib
theorem and15 {x : Int} (h : 0 ≤ x ∧ x ≤ 255) : bits .and .u8 x 15 = x % 16 := by
  have key : ∀ i : Fin 256, bits .and .u8 (i.val : Nat) 15 = ((i.val : Nat) : Int) % 16 := by decide +kernel
  have := key ⟨x.toNat, by omega⟩
  rwa [show ((x.toNat : Nat) : Int) = x by omega] at this
theorem shr4 {x : Int} (h : 0 ≤ x ∧ x ≤ 255) : x.fdiv (2 ^ min (Int.toNat 4) IntKind.u8.bits) = x / 16 := by
  show x.fdiv 16 = x / 16
  rw [Int.fdiv_eq_ediv_of_nonneg _ (by decide)]
theorem wrap64_id {x : Int} (h : -9223372036854775808 ≤ x ∧ x ≤ 9223372036854775807) : IntKind.i64.wrap x = x := by
  unfold IntKind.wrap
  simp [IntKind.bits, IntKind.signed]
  omega
theorem wrap16_id {x : Int} (h : 0 ≤ x ∧ x ≤ 65535) : IntKind.u16.wrap x = x := by
  unfold IntKind.wrap
  simp [IntKind.bits, IntKind.signed]
  omega
theorem wrap8_id {x : Int} (h : 0 ≤ x ∧ x ≤ 255) : IntKind.u8.wrap x = x := by
  unfold IntKind.wrap
  simp [IntKind.bits, IntKind.signed]
  omega
theorem and8191 {v : Int} (h : 0 ≤ v ∧ v ≤ 65535) : bits .and .u16 v 8191 = v % 8192 := bits_mask .u16 16 (by decide) (fun n h0 h1 => wrap16_id (by omega)) 13 (by decide) v h.1 (by omega)
end Go.Proofs.YtilfcikhipadpaaGreatDoor
end
