/- Several texts of this claim, one behind the other. -/
import Derived.Test.YtilfcikhipadpaaGreatDoorK8b

section
/- slices.IndexFunc over rules: by a loop, reckoned. -/
set_option linter.unusedVariables false
set_option linter.unusedSimpArgs false
namespace Go.Proofs.YtilfcikhipadpaaGreatDoor
open Go.RowKit Go.Lib Rx

def ruL (r : Rule) : List Value := [.int .i64 r.k, .int .u8 r.p, .int .u32 r.sa, .int .i64 r.sb, .int .u32 r.da, .int .i64 r.db, .int .u32 r.e, .int .u16 r.f, .int .u16 r.t, .int .u32 r.ia, .int .u16 r.ip]
theorem ruL_len (r : Rule) : (ruL r).length = 11 := rfl
@[reducible] def ptr (i : Nat) : Value := .pointer (some ⟨i, 0, some 0⟩)
@[reducible] def ruB (rs : List Rule) : Blk := (rs.flatMap ruL, 68, true)
variable {A : Amb} {rs : List Rule} {c : Nat} {p : Rule → Bool} {g : FuncId} {b1 b2 : Blk}
@[reducible] def ixV (rs : List Rule) (c : Nat) (g : FuncId) (i : Nat) : List (Nat × Value) := [(0, .slice (some ⟨0, 0, some 0⟩) rs.length c), (1, .func (.func g) #[] #[ptr 1, ptr 2]), (7, .int .i64 (rs.length : Int)), (8, .int .i64 (i : Int))]
@[reducible] def ixM (rs : List Rule) (b1 b2 : Blk) : List (Nat × Blk) := [(0, ruB rs), (1, b1), (2, b2)]
theorem wrap_next {i : Nat} (h : i < 1000) : IntKind.wrap .i64 ((i : Int) + 1) = ((i + 1 : Nat) : Int) := by
  simp only [IntKind.wrap, IntKind.bits]
  first | omega | (simp; omega)
theorem ix_on (hg : hasBody Tryz.prog g = true) (hp : ∀ r ∈ rs, CallJ Tryz.prog A g [.agg (ruL r).toArray, ptr 1, ptr 2] [(1, b1), (2, b2)] 3 (.bool (p r)) [(1, b1), (2, b2)] 3) (hn : rs.length ≤ 1000) (i : Nat) (hi : i < rs.length) (hno : p rs[i] = false) :
    CodeJ Tryz.prog A (loopOf Tryz.prog 103) 19 (ixV rs c g i) (ixM rs b1 b2) 3 .nrm (ixV rs c g (i + 1)) (ixM rs b1 b2) 3 :=
  Rx.code [Rx.isT 0 (b := decide ((i : Int) < (rs.length : Int))) (by simpa using hi), Rx.idx 7 3 (b := ruB rs) (T := 115) (ty := 0) (ik := .i64) (id := 0) (off := 0) (q := 0) (len := rs.length) (c := c) (j := i) (s := 11) hi,
    Rx.ld 8 3 (T := 68) (ty := 0) (id := 0) (off := 0 + i * 11) (q := 0) (k := 11) (b := ruB rs) (vs := ruL rs[i]) (by show _ ≤ (rs.flatMap ruL).length; rw [flat_len ruL_len]; have := fit_le (c := 11) hi; omega) (by rw [Nat.zero_add]; exact cut_flat ruL_len rs i hi),
    Rx.calls 9 3 0 (hp rs[i] (List.getElem_mem hi)) hg, Rx.no 10 hno, Rx.is 11 (x := .int .i64 (IntKind.wrap .i64 ((i : Int) + 1))) (y := .int .i64 ((i + 1 : Nat) : Int)) (by rw [Value.int.injEq]; exact ⟨rfl, wrap_next (by omega)⟩)]
theorem ix_hit (hg : hasBody Tryz.prog g = true) (hp : ∀ r ∈ rs, CallJ Tryz.prog A g [.agg (ruL r).toArray, ptr 1, ptr 2] [(1, b1), (2, b2)] 3 (.bool (p r)) [(1, b1), (2, b2)] 3) (hn : rs.length ≤ 1000) (i : Nat) (hi : i < rs.length) (hno : p rs[i] = true) :
    CodeJ Tryz.prog A (loopOf Tryz.prog 103) 19 (ixV rs c g i) (ixM rs b1 b2) 3 .ret [(4, .int .i64 (i : Int))] (ixM rs b1 b2) 3 :=
  Rx.code [Rx.isT 0 (b := decide ((i : Int) < (rs.length : Int))) (by simpa using hi), Rx.idx 7 3 (b := ruB rs) (T := 115) (ty := 0) (ik := .i64) (id := 0) (off := 0) (q := 0) (len := rs.length) (c := c) (j := i) (s := 11) hi,
    Rx.ld 8 3 (T := 68) (ty := 0) (id := 0) (off := 0 + i * 11) (q := 0) (k := 11) (b := ruB rs) (vs := ruL rs[i]) (by show _ ≤ (rs.flatMap ruL).length; rw [flat_len ruL_len]; have := fit_le (c := 11) hi; omega) (by rw [Nat.zero_add]; exact cut_flat ruL_len rs i hi),
    Rx.calls 9 3 0 (hp rs[i] (List.getElem_mem hi)) hg, Rx.yes 10 hno]
theorem ix_end : CodeJ Tryz.prog A (loopOf Tryz.prog 103) 19 (ixV rs c g rs.length) (ixM rs b1 b2) 3 (.ex 0) [] (ixM rs b1 b2) 3 :=
  Rx.code [Rx.isF 0 (b := decide ((rs.length : Int) < (rs.length : Int))) (by simp)]
/-- the first that fits -/
theorem ix_yes (hg : hasBody Tryz.prog g = true) (hp : ∀ r ∈ rs, CallJ Tryz.prog A g [.agg (ruL r).toArray, ptr 1, ptr 2] [(1, b1), (2, b2)] 3 (.bool (p r)) [(1, b1), (2, b2)] 3) (hn : rs.length ≤ 1000) (k : Nat) (hk : k < rs.length) (hno : ∀ j (hj : j < k), p (rs[j]'(by omega)) = false) (hy : p rs[k] = true) :
    CallJ Tryz.prog A 103 [.slice (some ⟨0, 0, some 0⟩) rs.length c, .func (.func g) #[] #[ptr 1, ptr 2]] (ixM rs b1 b2) 3 (.int .i64 (k : Int)) (ixM rs b1 b2) 3 :=
  Rx.con [Rx.loops 4 3 0 (loopJ (ixV rs c g) (fun _ => ixM rs b1 b2) k (fun i hi => ix_on hg hp hn i (by omega) (hno i hi)) (d := 0) (ix_hit hg hp hn k hk hy))]
theorem ix_no (hg : hasBody Tryz.prog g = true) (hp : ∀ r ∈ rs, CallJ Tryz.prog A g [.agg (ruL r).toArray, ptr 1, ptr 2] [(1, b1), (2, b2)] 3 (.bool (p r)) [(1, b1), (2, b2)] 3) (hn : rs.length ≤ 1000) (hno : ∀ r ∈ rs, p r = false) :
    CallJ Tryz.prog A 103 [.slice (some ⟨0, 0, some 0⟩) rs.length c, .func (.func g) #[] #[ptr 1, ptr 2]] (ixM rs b1 b2) 3 (.int .i64 (-1)) (ixM rs b1 b2) 3 :=
  Rx.con [Rx.loops 4 3 0 (loopJ (ixV rs c g) (fun _ => ixM rs b1 b2) rs.length (fun i hi => ix_on hg hp hn i hi (hno _ (List.getElem_mem hi))) (d := 0) ix_end)]
/-! ### Static -/
theorem st_1 (r : Rule) (q ei ep : Int) : CallJ Tryz.prog A 57 [.agg (ruL r).toArray, ptr 1, ptr 2] [(1, ([.int .u8 q], 5, false)), (2, ([.int .u32 ei, .int .u16 ep], 31, false))] 3 (.bool (decide (r.k = 3) && decide (r.p = q) && decide (r.e = ei) && decide (r.f = ep))) [(1, ([.int .u8 q], 5, false)), (2, ([.int .u32 ei, .int .u16 ep], 31, false))] 3 := by
  cases h1 : decide (r.k = 3)
  · exact (Rx.con (nx' := 4) [Rx.isF 4 h1]).drop
  cases h2 : decide (r.p = q)
  · exact (Rx.con (nx' := 4) [Rx.isT 4 h1, Rx.isF 9 h2]).drop
  cases h3 : decide (r.e = ei)
  · exact (Rx.con (nx' := 4) [Rx.isT 4 h1, Rx.isT 9 h2, Rx.isF 16 h3]).drop
  exact (Rx.con (nx' := 4) [Rx.isT 4 h1, Rx.isT 9 h2, Rx.isT 16 h3]).drop
@[reducible] def stB (r : Rule) (q ei ep : Int) : Bool := decide (r.k = 3) && decide (r.p = q) && decide (r.e = ei) && decide (r.f = ep)
@[reducible] def tbM (o ip b : Int) (rs : List Rule) (c : Nat) : List (Nat × Blk) := [(0, ([.bool true, .int .u32 o, .int .u32 ip, .int .i64 b, .slice (some ⟨1, 0, some 0⟩) rs.length c], 130, false)), (1, ruB rs)]
theorem ix_at {f : FuncId} {gv v : Value} {n : Nat} (h : CallJ Tryz.prog A f [.slice (some ⟨0, 0, some 0⟩) rs.length c, gv] (ixM rs b1 b2) 3 v (ixM rs b1 b2) 3) (τ : List Nat) (hl : τ.length = 3 := by kernel_rfl) (hnd : τ.all (fun j => Nat.blt j n) = true := by kernel_rfl) (hn : τ.Nodup := by decide)
    (h1 : inV 3 gv = true := by kernel_rfl) (h2 : b1.1.all (inC 3) = true := by kernel_rfl) (h3 : b2.1.all (inC 3) = true := by kernel_rfl) (h4 : inV 3 v = true := by kernel_rfl) :
    CallJ Tryz.prog A f ([Value.slice (some ⟨0, 0, some 0⟩) rs.length c, gv].map (idV (sig τ n))) [(sig τ n 0, ruB rs), idB (sig τ n) (1, b1), idB (sig τ n) (2, b2)] n (idV (sig τ n) v) [(sig τ n 0, ruB rs), idB (sig τ n) (1, b1), idB (sig τ n) (2, b2)] n := by
  have hb : inBlks 3 (ixM rs b1 b2) = true := by
    simp only [inBlks, List.all_cons, List.all_nil, all_flat (p := inC 3) (f := ruL) (fun _ => rfl), h2, h3]
    rfl
  have hm : (ixM rs b1 b2).map (idB (sig τ n)) = [(sig τ n 0, ruB rs), idB (sig τ n) (1, b1), idB (sig τ n) (2, b2)] := by
    show [(sig τ n 0, (rs.flatMap ruL).map (id0 (sig τ n)), _), _, _] = _
    rw [flat_id (f := ruL) (fun _ => rfl)]
  have := h.at (d := 0) τ n (hl := hl) (hnd := hnd) (hn := hn) (h1 := by simp only [List.all_cons, List.all_nil, h1]; rfl) (h2 := hb) (h3 := h4) (h4 := hb)
  rwa [hm] at this
theorem st_yes (q ei ep o ip b : Int) (hn : rs.length ≤ 1000) (k : Nat) (hk : k < rs.length) (hno : ∀ j (hj : j < k), stB (rs[j]'(by omega)) q ei ep = false) (hy : stB rs[k] q ei ep = true) :
    CallJ Tryz.prog A 19 [ptr 0, .int .u8 q, .agg #[.int .u32 ei, .int .u16 ep]] (tbM o ip b rs c) 2 (.tuple #[.agg (ruL rs[k]).toArray, .bool true]) (tbM o ip b rs c) 8 :=
  Rx.con [Rx.calls 27 6 0 (ix_at (n := 6) (ix_yes (c := c) (p := fun r => stB r q ei ep) (g := 57) (by kernel_rfl) (fun r _ => st_1 r q ei ep) hn k hk hno hy) [1, 2, 3]),
    Rx.no 31 (b := decide ((k : Int) < 0)) (by simp), Rx.idx 38 6 (b := ruB rs) (T := 115) (ty := 0) (ik := .i64) (id := 1) (off := 0) (q := 0) (len := rs.length) (c := c) (j := k) (s := 11) hk,
    Rx.ld 39 6 (T := 68) (ty := 0) (id := 1) (off := 0 + k * 11) (q := 0) (k := 11) (b := ruB rs) (vs := ruL rs[k]) (by show _ ≤ (rs.flatMap ruL).length; rw [flat_len ruL_len]; have := fit_le (c := 11) hk; omega) (by rw [Nat.zero_add]; exact cut_flat ruL_len rs k hk),
    Rx.no 45 (b := rs[k].k == 2) (by simp [stB] at hy; simp [hy.1.1.1])]
theorem st_no (q ei ep o ip b : Int) (hn : rs.length ≤ 1000) (hno : ∀ r ∈ rs, stB r q ei ep = false) :
    CallJ Tryz.prog A 19 [ptr 0, .int .u8 q, .agg #[.int .u32 ei, .int .u16 ep]] (tbM o ip b rs c) 2 (.tuple #[.agg (ruL ⟨0, 0, 0, 0, 0, 0, 0, 0, 0, 0, 0⟩).toArray, .bool false]) (tbM o ip b rs c) 6 :=
  Rx.con [Rx.calls 27 6 0 (ix_at (n := 6) (ix_no (c := c) (p := fun r => stB r q ei ep) (g := 57) (by kernel_rfl) (fun r _ => st_1 r q ei ep) hn hno) [1, 2, 3])]
/-! ### Own -/
@[reducible] def owB (r : Rule) (q ei ep : Int) : Bool := (r.k == 3) && ((r.p == q) && ((r.ia == ei) && (r.ip == ep)))
theorem ow_1 (r : Rule) (q ei ep : Int) : CallJ Tryz.prog A 194 [.agg (ruL r).toArray, ptr 1, ptr 2] [(1, ([.int .u8 q], 5, false)), (2, ([.int .u32 ei, .int .u16 ep], 31, false))] 3 (.bool (owB r q ei ep)) [(1, ([.int .u8 q], 5, false)), (2, ([.int .u32 ei, .int .u16 ep], 31, false))] 3 := by
  unfold owB
  cases h1 : r.k == 3
  · exact (Rx.con (nx' := 4) [Rx.isF 5 h1]).drop
  cases h2 : r.p == q
  · exact (Rx.con (nx' := 4) [Rx.isT 5 h1, Rx.isF 11 h2]).drop
  have h3 : ((r.ia == ei) && ((r.ip == ep) && true)) = ((r.ia == ei) && (r.ip == ep)) := by simp
  have := (Rx.con (A := A) (P := Tryz.prog) (f := 194) (args := [.agg (ruL r).toArray, ptr 1, ptr 2]) (sn := [(1, ([.int .u8 q], 5, false)), (2, ([.int .u32 ei, .int .u16 ep], 31, false))]) (nx := 3) (v := .bool ((r.ia == ei) && ((r.ip == ep) && true))) (out := [(1, ([.int .u8 q], 5, false)), (2, ([.int .u32 ei, .int .u16 ep], 31, false))]) (nx' := 4) [Rx.isT 5 h1, Rx.isT 11 h2]).drop
  rw [h3] at this
  exact this
theorem ow_yes (q ei ep o ip b : Int) (hn : rs.length ≤ 1000) (k : Nat) (hk : k < rs.length) (hno : ∀ j (hj : j < k), owB (rs[j]'(by omega)) q ei ep = false) (hy : owB rs[k] q ei ep = true) :
    CallJ Tryz.prog A 152 [ptr 0, .int .u8 q, .agg #[.int .u32 ei, .int .u16 ep]] (tbM o ip b rs c) 2 (.tuple #[.agg (ruL rs[k]).toArray, .bool true]) (tbM o ip b rs c) 8 :=
  Rx.con [Rx.calls 27 6 0 (ix_at (n := 6) (ix_yes (c := c) (p := fun r => owB r q ei ep) (g := 194) (by kernel_rfl) (fun r _ => ow_1 r q ei ep) hn k hk hno hy) [1, 2, 3]),
    Rx.no 31 (b := decide ((k : Int) < 0)) (by simp), Rx.idx 38 6 (b := ruB rs) (T := 115) (ty := 0) (ik := .i64) (id := 1) (off := 0) (q := 0) (len := rs.length) (c := c) (j := k) (s := 11) hk,
    Rx.ld 39 6 (T := 68) (ty := 0) (id := 1) (off := 0 + k * 11) (q := 0) (k := 11) (b := ruB rs) (vs := ruL rs[k]) (by show _ ≤ (rs.flatMap ruL).length; rw [flat_len ruL_len]; have := fit_le (c := 11) hk; omega) (by rw [Nat.zero_add]; exact cut_flat ruL_len rs k hk),
    Rx.no 45 (b := rs[k].k == 2) (by simp [owB] at hy; simp [hy.1])]
theorem ow_no (q ei ep o ip b : Int) (hn : rs.length ≤ 1000) (hno : ∀ r ∈ rs, owB r q ei ep = false) :
    CallJ Tryz.prog A 152 [ptr 0, .int .u8 q, .agg #[.int .u32 ei, .int .u16 ep]] (tbM o ip b rs c) 2 (.tuple #[.agg (ruL ⟨0, 0, 0, 0, 0, 0, 0, 0, 0, 0, 0⟩).toArray, .bool false]) (tbM o ip b rs c) 6 :=
  Rx.con [Rx.calls 27 6 0 (ix_at (n := 6) (ix_no (c := c) (p := fun r => owB r q ei ep) (g := 194) (by kernel_rfl) (fun r _ => ow_1 r q ei ep) hn hno) [1, 2, 3])]
end Go.Proofs.YtilfcikhipadpaaGreatDoor
end

section
/- slices.IndexFunc over rules, of a function with one box: printed from XIxf. -/
set_option linter.unusedVariables false
set_option linter.unusedSimpArgs false
namespace Go.Proofs.YtilfcikhipadpaaGreatDoor
open Go.RowKit Go.Lib Rx
variable {A : Amb} {rs : List Rule} {c : Nat} {p : Rule → Bool} {g : FuncId} {b1 : Blk}
@[reducible] def jxV (rs : List Rule) (c : Nat) (g : FuncId) (i : Nat) : List (Nat × Value) := [(0, .slice (some ⟨0, 0, some 0⟩) rs.length c), (1, .func (.func g) #[] #[ptr 1]), (7, .int .i64 (rs.length : Int)), (8, .int .i64 (i : Int))]
@[reducible] def jxM (rs : List Rule) (b1 : Blk) : List (Nat × Blk) := [(0, ruB rs), (1, b1)]
theorem jx_on (hg : hasBody Tryz.prog g = true) (hp : ∀ r ∈ rs, CallJ Tryz.prog A g [.agg (ruL r).toArray, ptr 1] [(1, b1)] 2 (.bool (p r)) [(1, b1)] 2) (hn : rs.length ≤ 1000) (i : Nat) (hi : i < rs.length) (hno : p rs[i] = false) :
    CodeJ Tryz.prog A (loopOf Tryz.prog 103) 19 (jxV rs c g i) (jxM rs b1) 2 .nrm (jxV rs c g (i + 1)) (jxM rs b1) 2 :=
  Rx.code [Rx.isT 0 (b := decide ((i : Int) < (rs.length : Int))) (by simpa using hi), Rx.idx 7 2 (b := ruB rs) (T := 115) (ty := 0) (ik := .i64) (id := 0) (off := 0) (q := 0) (len := rs.length) (c := c) (j := i) (s := 11) hi,
    Rx.ld 8 2 (T := 68) (ty := 0) (id := 0) (off := 0 + i * 11) (q := 0) (k := 11) (b := ruB rs) (vs := ruL rs[i]) (by show _ ≤ (rs.flatMap ruL).length; rw [flat_len ruL_len]; have := fit_le (c := 11) hi; omega) (by rw [Nat.zero_add]; exact cut_flat ruL_len rs i hi),
    Rx.calls 9 2 0 (hp rs[i] (List.getElem_mem hi)) hg, Rx.no 10 hno, Rx.is 11 (x := .int .i64 (IntKind.wrap .i64 ((i : Int) + 1))) (y := .int .i64 ((i + 1 : Nat) : Int)) (by rw [Value.int.injEq]; exact ⟨rfl, wrap_next (by omega)⟩)]
theorem jx_hit (hg : hasBody Tryz.prog g = true) (hp : ∀ r ∈ rs, CallJ Tryz.prog A g [.agg (ruL r).toArray, ptr 1] [(1, b1)] 2 (.bool (p r)) [(1, b1)] 2) (hn : rs.length ≤ 1000) (i : Nat) (hi : i < rs.length) (hno : p rs[i] = true) :
    CodeJ Tryz.prog A (loopOf Tryz.prog 103) 19 (jxV rs c g i) (jxM rs b1) 2 .ret [(4, .int .i64 (i : Int))] (jxM rs b1) 2 :=
  Rx.code [Rx.isT 0 (b := decide ((i : Int) < (rs.length : Int))) (by simpa using hi), Rx.idx 7 2 (b := ruB rs) (T := 115) (ty := 0) (ik := .i64) (id := 0) (off := 0) (q := 0) (len := rs.length) (c := c) (j := i) (s := 11) hi,
    Rx.ld 8 2 (T := 68) (ty := 0) (id := 0) (off := 0 + i * 11) (q := 0) (k := 11) (b := ruB rs) (vs := ruL rs[i]) (by show _ ≤ (rs.flatMap ruL).length; rw [flat_len ruL_len]; have := fit_le (c := 11) hi; omega) (by rw [Nat.zero_add]; exact cut_flat ruL_len rs i hi),
    Rx.calls 9 2 0 (hp rs[i] (List.getElem_mem hi)) hg, Rx.yes 10 hno]
theorem jx_end : CodeJ Tryz.prog A (loopOf Tryz.prog 103) 19 (jxV rs c g rs.length) (jxM rs b1) 2 (.ex 0) [] (jxM rs b1) 2 :=
  Rx.code [Rx.isF 0 (b := decide ((rs.length : Int) < (rs.length : Int))) (by simp)]
/-- the first that fits -/
theorem jx_yes (hg : hasBody Tryz.prog g = true) (hp : ∀ r ∈ rs, CallJ Tryz.prog A g [.agg (ruL r).toArray, ptr 1] [(1, b1)] 2 (.bool (p r)) [(1, b1)] 2) (hn : rs.length ≤ 1000) (k : Nat) (hk : k < rs.length) (hno : ∀ j (hj : j < k), p (rs[j]'(by omega)) = false) (hy : p rs[k] = true) :
    CallJ Tryz.prog A 103 [.slice (some ⟨0, 0, some 0⟩) rs.length c, .func (.func g) #[] #[ptr 1]] (jxM rs b1) 2 (.int .i64 (k : Int)) (jxM rs b1) 2 :=
  Rx.con [Rx.loops 4 2 0 (loopJ (jxV rs c g) (fun _ => jxM rs b1) k (fun i hi => jx_on hg hp hn i (by omega) (hno i hi)) (d := 0) (jx_hit hg hp hn k hk hy))]
theorem jx_no (hg : hasBody Tryz.prog g = true) (hp : ∀ r ∈ rs, CallJ Tryz.prog A g [.agg (ruL r).toArray, ptr 1] [(1, b1)] 2 (.bool (p r)) [(1, b1)] 2) (hn : rs.length ≤ 1000) (hno : ∀ r ∈ rs, p r = false) :
    CallJ Tryz.prog A 103 [.slice (some ⟨0, 0, some 0⟩) rs.length c, .func (.func g) #[] #[ptr 1]] (jxM rs b1) 2 (.int .i64 (-1)) (jxM rs b1) 2 :=
  Rx.con [Rx.loops 4 2 0 (loopJ (jxV rs c g) (fun _ => jxM rs b1) rs.length (fun i hi => jx_on hg hp hn i hi (hno _ (List.getElem_mem hi))) (d := 0) jx_end)]
theorem jx_at {f : FuncId} {gv v : Value} {n : Nat} (h : CallJ Tryz.prog A f [.slice (some ⟨0, 0, some 0⟩) rs.length c, gv] (jxM rs b1) 2 v (jxM rs b1) 2) (τ : List Nat) (hl : τ.length = 2 := by kernel_rfl) (hnd : τ.all (fun j => Nat.blt j n) = true := by kernel_rfl) (hn : τ.Nodup := by decide)
    (h1 : inV 2 gv = true := by kernel_rfl) (h2 : b1.1.all (inC 2) = true := by kernel_rfl) (h4 : inV 2 v = true := by kernel_rfl) :
    CallJ Tryz.prog A f ([Value.slice (some ⟨0, 0, some 0⟩) rs.length c, gv].map (idV (sig τ n))) [(sig τ n 0, ruB rs), idB (sig τ n) (1, b1)] n (idV (sig τ n) v) [(sig τ n 0, ruB rs), idB (sig τ n) (1, b1)] n := by
  have hb : inBlks 2 (jxM rs b1) = true := by
    simp only [inBlks, List.all_cons, List.all_nil, all_flat (p := inC 2) (f := ruL) (fun _ => rfl), h2]
    rfl
  have hm : (jxM rs b1).map (idB (sig τ n)) = [(sig τ n 0, ruB rs), idB (sig τ n) (1, b1)] := by
    show [(sig τ n 0, (rs.flatMap ruL).map (id0 (sig τ n)), _), _] = _
    rw [flat_id (f := ruL) (fun _ => rfl)]
  have := h.at (d := 0) τ n (hl := hl) (hnd := hnd) (hn := hn) (h1 := by simp only [List.all_cons, List.all_nil, h1]; rfl) (h2 := hb) (h3 := h4) (h4 := hb)
  rwa [hm] at this
/-! ### Source -/
@[reducible] def soB (r : Rule) (q si di : Int) : Bool := (r.k != 3) && (((r.p == 0) || (r.p == q)) && (hasP r.sa r.sb si && hasP r.da r.db di))
theorem so_1 (r : Rule) (hr : r.Ok) (q si sp di dp : Int) (hs : 0 ≤ si ∧ si ≤ 4294967295) (hd : 0 ≤ di ∧ di ≤ 4294967295) : CallJ Tryz.prog A 195 [.agg (ruL r).toArray, ptr 1] [(1, ([.int .u8 q, .int .u32 si, .int .u16 sp, .int .u32 di, .int .u16 dp], 33, false))] 2 (.bool (soB r q si di)) [(1, ([.int .u8 q, .int .u32 si, .int .u16 sp, .int .u32 di, .int .u16 dp], 33, false))] 2 := by
  unfold soB
  have ha := hr.2.1
  have hb := hr.2.2.1
  cases h1 : r.k != 3
  · exact (Rx.con (nx' := 3) [Rx.isF 5 h1]).drop
  cases h2 : r.p == 0
  · cases h3 : r.p == q
    · exact (Rx.con (nx' := 3) [Rx.isT 5 h1, Rx.isF 9 h2, Rx.isF 17 h3]).drop
    cases h4 : hasP r.sa r.sb si
    · exact (Rx.con (nx' := 3) [Rx.isT 5 h1, Rx.isF 9 h2, Rx.isT 17 h3, Rx.does 23 (args := [.agg #[.int .u32 r.sa, .int .i64 r.sb], .int .u32 si]) (fun W _ => addrs_Has r.sa r.sb si W ha hs), Rx.isF 25 h4]).drop
    exact (Rx.con (nx' := 3) [Rx.isT 5 h1, Rx.isF 9 h2, Rx.isT 17 h3, Rx.does 23 (args := [.agg #[.int .u32 r.sa, .int .i64 r.sb], .int .u32 si]) (fun W _ => addrs_Has r.sa r.sb si W ha hs), Rx.isT 25 h4, Rx.does 31 (args := [.agg #[.int .u32 r.da, .int .i64 r.db], .int .u32 di]) (fun W _ => addrs_Has r.da r.db di W hb hd)]).drop
  cases h4 : hasP r.sa r.sb si
  · exact (Rx.con (nx' := 3) [Rx.isT 5 h1, Rx.isT 9 h2, Rx.does 23 (args := [.agg #[.int .u32 r.sa, .int .i64 r.sb], .int .u32 si]) (fun W _ => addrs_Has r.sa r.sb si W ha hs), Rx.isF 25 h4]).drop
  exact (Rx.con (nx' := 3) [Rx.isT 5 h1, Rx.isT 9 h2, Rx.does 23 (args := [.agg #[.int .u32 r.sa, .int .i64 r.sb], .int .u32 si]) (fun W _ => addrs_Has r.sa r.sb si W ha hs), Rx.isT 25 h4, Rx.does 31 (args := [.agg #[.int .u32 r.da, .int .i64 r.db], .int .u32 di]) (fun W _ => addrs_Has r.da r.db di W hb hd)]).drop
@[reducible] def woR (o : Int) (r : Rule) : Rule := cond (r.k == 2) { r with e := o } r
theorem so_yes (q si sp di dp o ip b : Int) (hn : rs.length ≤ 1000) (hok : ∀ r ∈ rs, r.Ok) (hs : 0 ≤ si ∧ si ≤ 4294967295) (hd : 0 ≤ di ∧ di ≤ 4294967295) (k : Nat) (hk : k < rs.length) (hno : ∀ j (hj : j < k), soB (rs[j]'(by omega)) q si di = false) (hy : soB rs[k] q si di = true) :
    CallJ Tryz.prog A 153 [ptr 0, .agg #[.int .u8 q, .int .u32 si, .int .u16 sp, .int .u32 di, .int .u16 dp]] (tbM o ip b rs c) 2 (.tuple #[.agg (ruL (woR o rs[k])).toArray, .bool true]) (tbM o ip b rs c) 7 := by
  unfold woR
  cases h : rs[k].k == 2
  · exact Rx.con [Rx.calls 26 5 0 (jx_at (n := 5) (jx_yes (c := c) (p := fun r => soB r q si di) (g := 195) (by kernel_rfl) (fun r h => so_1 r (hok r h) q si sp di dp hs hd) hn k hk hno hy) [1, 2]),
      Rx.no 30 (b := decide ((k : Int) < 0)) (by simp), Rx.idx 37 5 (b := ruB rs) (T := 115) (ty := 0) (ik := .i64) (id := 1) (off := 0) (q := 0) (len := rs.length) (c := c) (j := k) (s := 11) hk,
      Rx.ld 38 5 (T := 68) (ty := 0) (id := 1) (off := 0 + k * 11) (q := 0) (k := 11) (b := ruB rs) (vs := ruL rs[k]) (by show _ ≤ (rs.flatMap ruL).length; rw [flat_len ruL_len]; have := fit_le (c := 11) hk; omega) (by rw [Nat.zero_add]; exact cut_flat ruL_len rs k hk),
      Rx.no 44 h]
  · exact Rx.con [Rx.calls 26 5 0 (jx_at (n := 5) (jx_yes (c := c) (p := fun r => soB r q si di) (g := 195) (by kernel_rfl) (fun r h => so_1 r (hok r h) q si sp di dp hs hd) hn k hk hno hy) [1, 2]),
      Rx.no 30 (b := decide ((k : Int) < 0)) (by simp), Rx.idx 37 5 (b := ruB rs) (T := 115) (ty := 0) (ik := .i64) (id := 1) (off := 0) (q := 0) (len := rs.length) (c := c) (j := k) (s := 11) hk,
      Rx.ld 38 5 (T := 68) (ty := 0) (id := 1) (off := 0 + k * 11) (q := 0) (k := 11) (b := ruB rs) (vs := ruL rs[k]) (by show _ ≤ (rs.flatMap ruL).length; rw [flat_len ruL_len]; have := fit_le (c := 11) hk; omega) (by rw [Nat.zero_add]; exact cut_flat ruL_len rs k hk),
      Rx.yes 44 h]
theorem so_no (q si sp di dp o ip b : Int) (hn : rs.length ≤ 1000) (hok : ∀ r ∈ rs, r.Ok) (hs : 0 ≤ si ∧ si ≤ 4294967295) (hd : 0 ≤ di ∧ di ≤ 4294967295) (hno : ∀ r ∈ rs, soB r q si di = false) :
    CallJ Tryz.prog A 153 [ptr 0, .agg #[.int .u8 q, .int .u32 si, .int .u16 sp, .int .u32 di, .int .u16 dp]] (tbM o ip b rs c) 2 (.tuple #[.agg (ruL ⟨0, 0, 0, 0, 0, 0, 0, 0, 0, 0, 0⟩).toArray, .bool false]) (tbM o ip b rs c) 5 :=
  Rx.con [Rx.calls 26 5 0 (jx_at (n := 5) (jx_no (c := c) (p := fun r => soB r q si di) (g := 195) (by kernel_rfl) (fun r h => so_1 r (hok r h) q si sp di dp hs hd) hn hno) [1, 2])]
end Go.Proofs.YtilfcikhipadpaaGreatDoor
end

section
/- A run reckoned by the kernel: rows of unknown length: append. No program. -/
set_option linter.unusedVariables false
set_option linter.unusedSimpArgs false
namespace Go.Proofs.YtilfcikhipadpaaGreatDoor
open Go.RowKit Go.Lib
namespace Rx
variable {P : Program} {A : Amb}

/-- what append asks of a slice's type -/
def rowOf (P : Program) (sT : TypeId) : Option (TypeId × Nat × Bool) := match elemA P sT with
  | some (e, i) => match i.zero with
    | some z => some (e, i.size, Nat.beq z.cells.size i.size && Nat.ble i.bytes 100000)
    | none => none
  | none => none
theorem rowOf_spec {sT e : TypeId} {s : Nat} (h : rowOf P sT = some (e, s, true)) : ∃ i z, elemA P sT = some (e, i) ∧ i.zero = some z ∧ i.size = s ∧ (Nat.beq z.cells.size i.size && Nat.ble i.bytes 100000) = true := by
  unfold rowOf at h
  split at h
  · rename_i e' i he
    split at h
    · rename_i z hz
      simp only [Option.some.injEq, Prod.mk.injEq] at h
      obtain ⟨rfl, h2, h3⟩ := h
      exact ⟨i, z, he, hz, h2, h3⟩
    · cases h
  · cases h
theorem memL_two {id j : Nat} (h : Nat.beq j id = false) (a b : Blk) : memL [(id, a), (j, b)] id = some a ∧ memL [(id, a), (j, b)] j = some b := by
  have h2 : Nat.beq id j = false := by
    cases hx : Nat.beq id j
    · rfl
    · rw [Nat.eq_of_beq_eq_true hx] at h; simp at h
  simp [memL, Mem.put, h, h2]
theorem take_all {L : List Value} {n : Nat} (h : L.length = n) : L.take n = L := List.take_of_length_le (by omega)
theorem append_val {sT xT e e3 : TypeId} {s id j m k c2 q2 nx : Nat} {L new : List Value} {e2 : TypeId} {r2 : Bool} (hE : rowOf P sT = some (e, s, true)) (hX : P.underlying xT = some (.slice e3)) (hL : L.length = m * s) (hN : new.length = k * s) (hs : new.all scal = true) (hk : 0 < k ∧ k ≤ 100000) (hm : m ≤ 100000) (hq : Nat.blt q2 2 = true) (hj : Nat.beq j id = false) :
    appendA P [sT, xT] (memL [(id, (L, e, true)), (j, (new, e2, r2))]) nx (.slice (some ⟨id, 0, some 0⟩) m 0) (.slice (some ⟨j, 0, some q2⟩) k c2) = some (.slice (some ⟨nx, 0, some 0⟩) (m + k) 0, [(nx, some (L ++ new, e, true)), (id, none)], nx + 1) := by
  obtain ⟨i, z, h1, h2, h3, h4⟩ := rowOf_spec hE
  obtain ⟨m1, m2⟩ := memL_two hj (L, e, true) (new, e2, r2)
  have hq2 : Nat.beq q2 2 = false := by
    cases hx : Nat.beq q2 2
    · rfl
    · rw [Nat.eq_of_beq_eq_true hx] at hq; simp at hq
  have hsrc : srcA P (memL [(id, (L, e, true)), (j, (new, e2, r2))]) i.size xT (.slice (some ⟨j, 0, some q2⟩) k c2) = some (k, new) := by
    simp only [srcA, hX, hq2, cond, m2, hq, hs, h3, Nat.zero_add, hN, Bool.true_and, Bool.and_true]
    rw [show Nat.ble (k * s) (k * s) = true from Nat.ble_eq_true_of_le (Nat.le_refl _)]
    simp only [cut, List.drop_zero]
    rw [take_all hN]
  simp only [appendA, h1, h2, hsrc, m1]
  rw [h4, show Nat.ble k 100000 = true from Nat.ble_eq_true_of_le hk.2]
  simp only [Bool.and_self, cond]
  have hb : (Nat.blt 0 2 && true && Nat.beq e e && Nat.ble (m * i.size) L.length && Nat.ble m 100000 && roomy 0 0 (m + k)) = true := by
    rw [h3, hL, show Nat.ble (m * s) (m * s) = true from Nat.ble_eq_true_of_le (Nat.le_refl _), show Nat.ble m 100000 = true from Nat.ble_eq_true_of_le hm]
    simp [roomy]
  rw [hb]
  simp only [cond]
  rw [h3, take_all hL]
/-- append of a row to a row -/
def ap (n nx : Nat) {sT xT ty e e3 : TypeId} {s id j m k c2 q2 : Nat} {L new : List Value} {e2 : TypeId} {r2 : Bool} (hL : L.length = m * s) (hN : new.length = k * s) (hs : new.all scal = true) (hk : 0 < k ∧ k ≤ 100000) (hm : m ≤ 100000) (hj : Nat.beq j id = false := by kernel_rfl)
    (hE : rowOf P sT = some (e, s, true) := by kernel_rfl) (hX : P.underlying xT = some (.slice e3) := by kernel_rfl) (hq : Nat.blt q2 2 = true := by kernel_rfl) (hn : Nat.beq j nx = false := by kernel_rfl)
    (hv : [Value.slice (some ⟨id, 0, some 0⟩) m 0, .slice (some ⟨j, 0, some q2⟩) k c2].all (inP (has1 [id, j])) = true := by kernel_rfl) (hall : allSome (evOf [Value.slice (some ⟨id, 0, some 0⟩) m 0, .slice (some ⟨j, 0, some q2⟩) k c2]) (mkO (.call ⟨.builtin .append, #[.tmp 1, .tmp 2], #[sT, xT]⟩) ty) = true := by kernel_rfl) : Ev P A :=
  ovW n nx (.call ⟨.builtin .append, #[.tmp 1, .tmp 2], #[sT, xT]⟩) ty [.slice (some ⟨id, 0, some 0⟩) m 0, .slice (some ⟨j, 0, some q2⟩) k c2] [(id, (L, e, true)), (j, (new, e2, r2))] [id] (.slice (some ⟨nx, 0, some 0⟩) (m + k) 0) [(nx, (L ++ new, e, true))] 1 (log := [(nx, some (L ++ new, e, true)), (id, none)])
    (append_val hE hX hL hN hs hk hm hq hj)
    (fun i b h => by
      have hij : Nat.beq id j = false := by
        cases hx : Nat.beq id j
        · rfl
        · rw [Nat.eq_of_beq_eq_true hx] at hj; simp at hj
      simp only [outF, List.filter, has1, List.any, hj, hij, Nat.beq_refl, Bool.not_true, Bool.not_false, Bool.or_false, List.cons_append, List.nil_append, memL, Mem.put, Mem.add] at h ⊢
      cases h1 : Nat.beq i nx <;> simp only [h1, cond] at h ⊢
      · cases h2 : Nat.beq i id <;> simp only [h2, cond] at h ⊢
        · exact h
        · rw [Nat.eq_of_beq_eq_true h2, hij] at h
          cases h
      · exact h) hv hall
/-- what is left of a row behind all its elements -/
def endV (id s n : Nat) : Value := if n = 0 then .slice (some ⟨id, 0, some 0⟩) 0 0 else .slice (some ⟨id, n * s, some 2⟩) 0 n
theorem end_val {T e : TypeId} {s id n : Nat} {L : List Value} {ty : TypeId} (hE : rowOf P T = some (e, s, true)) (hs : 0 < s) (hL : L.length = n * s) (nx : Nat) :
    opVal P (mkO (.slice T (.tmp 1) (some (.tmp 2)) none none) ty) (evOf [.slice (some ⟨id, 0, some 0⟩) n 0, .int .i64 (n : Int)]) (memL [(id, (L, e, true))]) nx = some (endV id s n, [], nx) := by
  obtain ⟨i, z, h1, h2, h3, h4⟩ := rowOf_spec hE
  have hm : memL [(id, (L, e, true))] id = some (L, e, true) := by simp [memL, Mem.put]
  have hb : (true && Nat.beq e e && Nat.ble n n && endOK 0 0 0 i.size L.length none) = true := by
    rw [show Nat.ble n n = true from Nat.ble_eq_true_of_le (Nat.le_refl _)]
    simp [endOK]
  have key : sliceA P (memL [(id, (L, e, true))]) T (evOf [.slice (some ⟨id, 0, some 0⟩) n 0, .int .i64 (n : Int)]) (.slice (some ⟨id, 0, some 0⟩) n 0) (some (.tmp 2)) none none = some (endV id s n) := by
    show (match elemA P T with | some (e', i) => cutA (memL [(id, (L, e, true))]) i.size e' n n none none (.slice (some ⟨id, 0, some 0⟩) n 0) | none => none) = _
    rw [h1]
    simp only [cutA, hm]
    rw [hb]
    simp only [cond, cut0]
    unfold endV
    by_cases h0 : n = 0
    · subst h0; simp
    · have e1 : Nat.beq n 0 = false := by
        cases hx : Nat.beq n 0
        · rfl
        · exact absurd (Nat.eq_of_beq_eq_true hx) h0
      have e2 : within 0 0 0 i.size (n + 1) L.length = false := by
        simp only [within]
        have : Nat.ble ((0 + (n + 1)) * i.size) L.length = false := by
          cases hx : Nat.ble ((0 + (n + 1)) * i.size) L.length
          · rfl
          · have := Nat.le_of_ble_eq_true hx
            rw [hL, h3] at this
            rw [Nat.zero_add, Nat.succ_mul] at this
            omega
        rw [this]; simp
      rw [e1, e2, if_neg h0, h3]
      simp
  show (match sliceA P (memL [(id, (L, e, true))]) T (evOf [.slice (some ⟨id, 0, some 0⟩) n 0, .int .i64 (n : Int)]) (.slice (some ⟨id, 0, some 0⟩) n 0) (some (.tmp 2)) none none with | some v => some (v, [], nx) | none => _) = _
  rw [key]
/-- s[len(s):] -/
def slE (n nx : Nat) {T ty e : TypeId} {s id k : Nat} {L : List Value} (hL : L.length = k * s) (hE : rowOf P T = some (e, s, true) := by kernel_rfl) (hs : 0 < s := by decide)
    (hv : [Value.slice (some ⟨id, 0, some 0⟩) k 0, .int .i64 (k : Int)].all (inP (has1 [id])) = true := by kernel_rfl) (hall : allSome (evOf [Value.slice (some ⟨id, 0, some 0⟩) k 0, .int .i64 (k : Int)]) (mkO (.slice T (.tmp 1) (some (.tmp 2)) none none) ty) = true := by kernel_rfl) : Ev P A :=
  ovR n nx (.slice T (.tmp 1) (some (.tmp 2)) none none) ty [.slice (some ⟨id, 0, some 0⟩) k 0, .int .i64 (k : Int)] [(id, (L, e, true))] (endV id s k) (end_val hE hs hL nx) hv hall
/-- the same, of a row with elements -/
def slE1 (n nx : Nat) {T ty e : TypeId} {s id k : Nat} {L : List Value} (hL : L.length = k * s) (h0 : k ≠ 0) (hE : rowOf P T = some (e, s, true) := by kernel_rfl) (hs : 0 < s := by decide)
    (hv : [Value.slice (some ⟨id, 0, some 0⟩) k 0, .int .i64 (k : Int)].all (inP (has1 [id])) = true := by kernel_rfl) (hall : allSome (evOf [Value.slice (some ⟨id, 0, some 0⟩) k 0, .int .i64 (k : Int)]) (mkO (.slice T (.tmp 1) (some (.tmp 2)) none none) ty) = true := by kernel_rfl) : Ev P A :=
  ovR n nx (.slice T (.tmp 1) (some (.tmp 2)) none none) ty [.slice (some ⟨id, 0, some 0⟩) k 0, .int .i64 (k : Int)] [(id, (L, e, true))] (.slice (some ⟨id, k * s, some 2⟩) 0 k) (by have := end_val (id := id) (ty := ty) hE hs hL nx; unfold endV at this; rw [if_neg h0] at this; exact this) hv hall
theorem head_val {T e : TypeId} {s id n : Nat} {L : List Value} {ty : TypeId} (hE : rowOf P T = some (e, s, true)) (hL : L.length = n * s) (nx : Nat) :
    opVal P (mkO (.slice T (.tmp 1) none (some (.tmp 2)) none) ty) (evOf [.slice (some ⟨id, 0, some 0⟩) n 0, .int .i64 (n : Int)]) (memL [(id, (L, e, true))]) nx = some (.slice (some ⟨id, 0, some 0⟩) n 0, [], nx) := by
  obtain ⟨i, z, h1, h2, h3, h4⟩ := rowOf_spec hE
  have hm : memL [(id, (L, e, true))] id = some (L, e, true) := by simp [memL, Mem.put]
  have hb : (true && Nat.beq e e && Nat.ble 0 n && endOK 0 0 0 i.size L.length (some n)) = true := by
    have h5 : Nat.ble (n * s) (n * s) = true := Nat.ble_eq_true_of_le (Nat.le_refl _)
    simp only [endOK, within, h3, hL, Nat.zero_add, h5]
    simp
  have key : sliceA P (memL [(id, (L, e, true))]) T (evOf [.slice (some ⟨id, 0, some 0⟩) n 0, .int .i64 (n : Int)]) (.slice (some ⟨id, 0, some 0⟩) n 0) none (some (.tmp 2)) none = some (.slice (some ⟨id, 0, some 0⟩) n 0) := by
    show (match elemA P T with | some (e', i) => cutA (memL [(id, (L, e, true))]) i.size e' 0 n (some n) none (.slice (some ⟨id, 0, some 0⟩) n 0) | none => none) = _
    rw [h1]
    simp only [cutA, hm]
    rw [hb]
    rfl
  show (match sliceA P (memL [(id, (L, e, true))]) T (evOf [.slice (some ⟨id, 0, some 0⟩) n 0, .int .i64 (n : Int)]) (.slice (some ⟨id, 0, some 0⟩) n 0) none (some (.tmp 2)) none with | some v => some (v, [], nx) | none => _) = _
  rw [key]
/-- s[:len(s)] -/
def slH (n nx : Nat) {T ty e : TypeId} {s id k : Nat} {L : List Value} (hL : L.length = k * s) (hE : rowOf P T = some (e, s, true) := by kernel_rfl)
    (hv : [Value.slice (some ⟨id, 0, some 0⟩) k 0, .int .i64 (k : Int)].all (inP (has1 [id])) = true := by kernel_rfl) (hall : allSome (evOf [Value.slice (some ⟨id, 0, some 0⟩) k 0, .int .i64 (k : Int)]) (mkO (.slice T (.tmp 1) none (some (.tmp 2)) none) ty) = true := by kernel_rfl) : Ev P A :=
  ovR n nx (.slice T (.tmp 1) none (some (.tmp 2)) none) ty [.slice (some ⟨id, 0, some 0⟩) k 0, .int .i64 (k : Int)] [(id, (L, e, true))] (.slice (some ⟨id, 0, some 0⟩) k 0) (head_val hE hL nx) hv hall
/-- append of a row to nothing -/
def apN (n nx : Nat) {sT xT ty e e3 : TypeId} {s j k c2 q2 : Nat} {new : List Value} {e2 : TypeId} {r2 : Bool} (hN : new.length = k * s) (hs : new.all scal = true) (hk : 0 < k ∧ k ≤ 100000)
    (hE : rowOf P sT = some (e, s, true) := by kernel_rfl) (hX : P.underlying xT = some (.slice e3) := by kernel_rfl) (hq : Nat.blt q2 2 = true := by kernel_rfl) (hn : Nat.beq j nx = false := by kernel_rfl)
    (hv : [Value.slice none 0 0, .slice (some ⟨j, 0, some q2⟩) k c2].all (inP (has1 [j])) = true := by kernel_rfl) (hall : allSome (evOf [Value.slice none 0 0, .slice (some ⟨j, 0, some q2⟩) k c2]) (mkO (.call ⟨.builtin .append, #[.tmp 1, .tmp 2], #[sT, xT]⟩) ty) = true := by kernel_rfl) : Ev P A :=
  ovW n nx (.call ⟨.builtin .append, #[.tmp 1, .tmp 2], #[sT, xT]⟩) ty [.slice none 0 0, .slice (some ⟨j, 0, some q2⟩) k c2] [(j, (new, e2, r2))] [] (.slice (some ⟨nx, 0, some 0⟩) k 0) [(nx, (new, e, true))] 1 (log := [(nx, some (new, e, true))])
    (by
      obtain ⟨i, z, h1, h2, h3, h4⟩ := rowOf_spec hE
      have hq2 : Nat.beq q2 2 = false := by
        cases hx : Nat.beq q2 2
        · rfl
        · rw [Nat.eq_of_beq_eq_true hx] at hq; simp at hq
      have hm : memL [(j, (new, e2, r2))] j = some (new, e2, r2) := by simp [memL, Mem.put]
      have hsrc : srcA P (memL [(j, (new, e2, r2))]) i.size xT (.slice (some ⟨j, 0, some q2⟩) k c2) = some (k, new) := by
        simp only [srcA, hX, hq2, cond, hm, hq, hs, h3, Nat.zero_add, hN, Bool.true_and, Bool.and_true]
        rw [show Nat.ble (k * s) (k * s) = true from Nat.ble_eq_true_of_le (Nat.le_refl _)]
        simp only [cut, List.drop_zero]
        rw [take_all hN]
      show appendA P [sT, xT] (memL [(j, (new, e2, r2))]) nx (.slice none 0 0) (.slice (some ⟨j, 0, some q2⟩) k c2) = _
      simp only [appendA, h1, h2, hsrc]
      rw [h4, show Nat.ble k 100000 = true from Nat.ble_eq_true_of_le hk.2]
      have h0 : Nat.beq k 0 = false := by
        cases hx : Nat.beq k 0
        · rfl
        · have := Nat.eq_of_beq_eq_true hx; omega
      simp only [Bool.and_self, cond, h0])
    (fun i b h => by
      simp only [outF, List.filter, has1, List.any, Bool.not_false, List.cons_append, List.nil_append, memL, Mem.put, Mem.add] at h ⊢
      cases h1 : Nat.beq i nx <;> simp only [h1, cond] at h ⊢ <;> exact h) hv hall
/-- append of nothing to a row -/
def ap0 (n nx : Nat) {sT xT ty e e3 : TypeId} {s id j m off c2 : Nat} {L : List Value} {bj : Blk} (hL : L.length = m * s) (hm : m ≤ 100000) (hj : Nat.beq j id = false := by kernel_rfl)
    (hE : rowOf P sT = some (e, s, true) := by kernel_rfl) (hX : P.underlying xT = some (.slice e3) := by kernel_rfl) (hn : Nat.beq j nx = false := by kernel_rfl)
    (hv : [Value.slice (some ⟨id, 0, some 0⟩) m 0, .slice (some ⟨j, off, some 2⟩) 0 c2].all (inP (has1 [id, j])) = true := by kernel_rfl) (hall : allSome (evOf [Value.slice (some ⟨id, 0, some 0⟩) m 0, .slice (some ⟨j, off, some 2⟩) 0 c2]) (mkO (.call ⟨.builtin .append, #[.tmp 1, .tmp 2], #[sT, xT]⟩) ty) = true := by kernel_rfl) : Ev P A :=
  ovW n nx (.call ⟨.builtin .append, #[.tmp 1, .tmp 2], #[sT, xT]⟩) ty [.slice (some ⟨id, 0, some 0⟩) m 0, .slice (some ⟨j, off, some 2⟩) 0 c2] [(id, (L, e, true)), (j, bj)] [id] (.slice (some ⟨nx, 0, some 0⟩) m 0) [(nx, (L, e, true))] 1 (log := [(nx, some (L, e, true)), (id, none)])
    (by
      obtain ⟨i, z, h1, h2, h3, h4⟩ := rowOf_spec hE
      obtain ⟨m1, m2⟩ := memL_two hj (L, e, true) bj
      have hsrc : srcA P (memL [(id, (L, e, true)), (j, bj)]) i.size xT (.slice (some ⟨j, off, some 2⟩) 0 c2) = some (0, []) := by
        simp only [srcA, hX]
        rfl
      show appendA P [sT, xT] (memL [(id, (L, e, true)), (j, bj)]) nx (.slice (some ⟨id, 0, some 0⟩) m 0) (.slice (some ⟨j, off, some 2⟩) 0 c2) = _
      simp only [appendA, h1, h2, hsrc, m1]
      rw [h4, show Nat.ble 0 100000 = true from rfl]
      simp only [Bool.and_self, cond]
      have hb : (Nat.blt 0 2 && true && Nat.beq e e && Nat.ble (m * i.size) L.length && Nat.ble m 100000 && roomy 0 0 (m + 0)) = true := by
        rw [h3, hL, show Nat.ble (m * s) (m * s) = true from Nat.ble_eq_true_of_le (Nat.le_refl _), show Nat.ble m 100000 = true from Nat.ble_eq_true_of_le hm]
        simp [roomy]
      rw [hb]
      simp only [cond]
      rw [h3, take_all hL, List.append_nil, Nat.add_zero])
    (fun i b h => by
      have hij : Nat.beq id j = false := by
        cases hx : Nat.beq id j
        · rfl
        · rw [Nat.eq_of_beq_eq_true hx] at hj; simp at hj
      simp only [outF, List.filter, has1, List.any, hj, hij, Nat.beq_refl, Bool.not_true, Bool.not_false, Bool.or_false, List.cons_append, List.nil_append, memL, Mem.put, Mem.add] at h ⊢
      cases h1 : Nat.beq i nx <;> simp only [h1, cond] at h ⊢
      · cases h2 : Nat.beq i id <;> simp only [h2, cond] at h ⊢
        · exact h
        · rw [Nat.eq_of_beq_eq_true h2, hij] at h
          cases h
      · exact h) hv hall
end Rx
end Go.Proofs.YtilfcikhipadpaaGreatDoor
end

section
/- rules: Add, by the executor. -/
set_option linter.unusedVariables false
set_option linter.unusedSimpArgs false
namespace Go.Proofs.YtilfcikhipadpaaGreatDoor
open Go.RowKit Go.Lib Rx
def clE {A : Amb} (n : Nat) (a b : Rule) : Ev Tryz.prog A := does n (args := [.agg (ruL a).toArray, .agg (ruL b).toArray]) (v := .bool (clq a b)) fun W _ => by rw [← clash_val]; exact rx_clash _ _ _ _ _ _ _ _ _ _ _ _ _ _ _ _ _ _ _ _ _ _ W
/-! ### closures: printed (gen/ways.py) -/
def rx_Add1_v (o pi pb : Int) (n c : Nat) (k p sa sb da db e f t ia ip k2 p2 sa2 sb2 da2 db2 e2 f2 t2 ia2 ip2 : Int) : Value := (bif (k == 2) then (bif (k2 == 2) then (.bool (clq { k := k, p := p, sa := sa, sb := sb, da := da, db := db, e := o, f := f, t := t, ia := ia, ip := ip } { k := k2, p := p2, sa := sa2, sb := sb2, da := da2, db := db2, e := o, f := f2, t := t2, ia := ia2, ip := ip2 })) else (.bool (clq { k := k, p := p, sa := sa, sb := sb, da := da, db := db, e := o, f := f, t := t, ia := ia, ip := ip } { k := k2, p := p2, sa := sa2, sb := sb2, da := da2, db := db2, e := e2, f := f2, t := t2, ia := ia2, ip := ip2 }))) else (bif (k2 == 2) then (.bool (clq { k := k, p := p, sa := sa, sb := sb, da := da, db := db, e := e, f := f, t := t, ia := ia, ip := ip } { k := k2, p := p2, sa := sa2, sb := sb2, da := da2, db := db2, e := o, f := f2, t := t2, ia := ia2, ip := ip2 })) else (.bool (clq { k := k, p := p, sa := sa, sb := sb, da := da, db := db, e := e, f := f, t := t, ia := ia, ip := ip } { k := k2, p := p2, sa := sa2, sb := sb2, da := da2, db := db2, e := e2, f := f2, t := t2, ia := ia2, ip := ip2 }))))
theorem rx_Add1 {A : Rx.Amb} (o pi pb : Int) (n c : Nat) (k p sa sb da db e f t ia ip k2 p2 sa2 sb2 da2 db2 e2 f2 t2 ia2 ip2 : Int)  : CallJ Tryz.prog A 94 [.agg #[.int .i64 k, .int .u8 p, .int .u32 sa, .int .i64 sb, .int .u32 da, .int .i64 db, .int .u32 e, .int .u16 f, .int .u16 t, .int .u32 ia, .int .u16 ip], .pointer (some ⟨1, 0, some 0⟩), .pointer (some ⟨2, 0, some 0⟩)] [(1, ([.pointer (some ⟨3, 0, some 0⟩)], 48, false)), (2, ([.int .i64 k2, .int .u8 p2, .int .u32 sa2, .int .i64 sb2, .int .u32 da2, .int .i64 db2, .int .u32 e2, .int .u16 f2, .int .u16 t2, .int .u32 ia2, .int .u16 ip2], 68, false)), (3, ([.bool true, .int .u32 o, .int .u32 pi, .int .i64 pb, .slice (some ⟨0, 0, some 0⟩) n c], 130, false))] 4 (rx_Add1_v o pi pb n c k p sa sb da db e f t ia ip k2 p2 sa2 sb2 da2 db2 e2 f2 t2 ia2 ip2) [(1, ([.pointer (some ⟨3, 0, some 0⟩)], 48, false)), (2, ([.int .i64 k2, .int .u8 p2, .int .u32 sa2, .int .i64 sb2, .int .u32 da2, .int .i64 db2, .int .u32 e2, .int .u16 f2, .int .u16 t2, .int .u32 ia2, .int .u16 ip2], 68, false)), (3, ([.bool true, .int .u32 o, .int .u32 pi, .int .i64 pb, .slice (some ⟨0, 0, some 0⟩) n c], 130, false))] 4 := by
  unfold rx_Add1_v
  cases h1 : (k == 2)
  · cases h2 : (k2 == 2)
    · exact (con (nx' := 9) [no 9 h1, no 20 h2, clE 24 ⟨k, p, sa, sb, da, db, e, f, t, ia, ip⟩ ⟨k2, p2, sa2, sb2, da2, db2, e2, f2, t2, ia2, ip2⟩]).drop
    · exact (con (nx' := 9) [no 9 h1, yes 20 h2, clE 30 ⟨k, p, sa, sb, da, db, e, f, t, ia, ip⟩ ⟨k2, p2, sa2, sb2, da2, db2, o, f2, t2, ia2, ip2⟩]).drop
  · cases h3 : (k2 == 2)
    · exact (con (nx' := 9) [yes 9 h1, no 26 h3, clE 30 ⟨k, p, sa, sb, da, db, o, f, t, ia, ip⟩ ⟨k2, p2, sa2, sb2, da2, db2, e2, f2, t2, ia2, ip2⟩]).drop
    · exact (con (nx' := 9) [yes 9 h1, yes 26 h3, clE 36 ⟨k, p, sa, sb, da, db, o, f, t, ia, ip⟩ ⟨k2, p2, sa2, sb2, da2, db2, o, f2, t2, ia2, ip2⟩]).drop
def rx_Outer1_v (o pi pb : Int) (n c : Nat) (k p sa sb da db e f t ia ip x : Int) : Value := (bif (k == 2) then (.bool (o == x)) else (.bool (e == x)))
theorem rx_Outer1 {A : Rx.Amb} (o pi pb : Int) (n c : Nat) (k p sa sb da db e f t ia ip x : Int)  : CallJ Tryz.prog A 61 [.agg #[.int .i64 k, .int .u8 p, .int .u32 sa, .int .i64 sb, .int .u32 da, .int .i64 db, .int .u32 e, .int .u16 f, .int .u16 t, .int .u32 ia, .int .u16 ip], .pointer (some ⟨1, 0, some 0⟩), .pointer (some ⟨2, 0, some 0⟩)] [(1, ([.pointer (some ⟨3, 0, some 0⟩)], 48, false)), (2, ([.int .u32 x], 28, false)), (3, ([.bool true, .int .u32 o, .int .u32 pi, .int .i64 pb, .slice (some ⟨0, 0, some 0⟩) n c], 130, false))] 4 (rx_Outer1_v o pi pb n c k p sa sb da db e f t ia ip x) [(1, ([.pointer (some ⟨3, 0, some 0⟩)], 48, false)), (2, ([.int .u32 x], 28, false)), (3, ([.bool true, .int .u32 o, .int .u32 pi, .int .i64 pb, .slice (some ⟨0, 0, some 0⟩) n c], 130, false))] 4 := by
  unfold rx_Outer1_v
  cases h1 : (k == 2)
  · exact (con (nx' := 7) [no 9 h1]).drop
  · exact (con (nx' := 7) [yes 9 h1]).drop
theorem add1_val (o pi pb : Int) (n c : Nat) (a b : Rule) : rx_Add1_v o pi pb n c a.k a.p a.sa a.sb a.da a.db a.e a.f a.t a.ia a.ip b.k b.p b.sa b.sb b.da b.db b.e b.f b.t b.ia b.ip = .bool (clq (whoR o a) (whoR o b)) := by
  unfold rx_Add1_v whoR
  cases h1 : a.k == 2 <;> cases h2 : b.k == 2 <;> simp at h1 h2 <;> simp [h1, h2]
theorem outer1_val (o pi pb : Int) (n c : Nat) (a : Rule) (x : Int) : rx_Outer1_v o pi pb n c a.k a.p a.sa a.sb a.da a.db a.e a.f a.t a.ia a.ip x = .bool ((whoR o a).e == x) := by
  unfold rx_Outer1_v whoR
  cases h1 : a.k == 2 <;> simp at h1 <;> simp [h1]
variable {A : Amb} {rs : List Rule} {c : Nat} {p : Rule → Bool} {g : FuncId} {b1 b2 b3 : Blk}
/-! ### slices.IndexFunc, of a function with two boxes and what one of them leads to -/
@[reducible] def kxV (rs : List Rule) (c : Nat) (g : FuncId) (i : Nat) : List (Nat × Value) := [(0, .slice (some ⟨0, 0, some 0⟩) rs.length c), (1, .func (.func g) #[] #[ptr 1, ptr 2]), (7, .int .i64 (rs.length : Int)), (8, .int .i64 (i : Int))]
@[reducible] def kxM (rs : List Rule) (b1 b2 b3 : Blk) : List (Nat × Blk) := [(0, ruB rs), (1, b1), (2, b2), (3, b3)]
theorem kx_on (hg : hasBody Tryz.prog g = true) (hp : ∀ r ∈ rs, CallJ Tryz.prog A g [.agg (ruL r).toArray, ptr 1, ptr 2] [(1, b1), (2, b2), (3, b3)] 4 (.bool (p r)) [(1, b1), (2, b2), (3, b3)] 4) (hn : rs.length ≤ 1000) (i : Nat) (hi : i < rs.length) (hno : p rs[i] = false) :
    CodeJ Tryz.prog A (loopOf Tryz.prog 103) 19 (kxV rs c g i) (kxM rs b1 b2 b3) 4 .nrm (kxV rs c g (i + 1)) (kxM rs b1 b2 b3) 4 :=
  Rx.code [Rx.isT 0 (b := decide ((i : Int) < (rs.length : Int))) (by simpa using hi), Rx.idx 7 4 (b := ruB rs) (T := 115) (ty := 0) (ik := .i64) (id := 0) (off := 0) (q := 0) (len := rs.length) (c := c) (j := i) (s := 11) hi,
    Rx.ld 8 4 (T := 68) (ty := 0) (id := 0) (off := 0 + i * 11) (q := 0) (k := 11) (b := ruB rs) (vs := ruL rs[i]) (by show _ ≤ (rs.flatMap ruL).length; rw [flat_len ruL_len]; have := fit_le (c := 11) hi; omega) (by rw [Nat.zero_add]; exact cut_flat ruL_len rs i hi),
    Rx.calls 9 4 0 (hp rs[i] (List.getElem_mem hi)) hg, Rx.no 10 hno, Rx.is 11 (x := .int .i64 (IntKind.wrap .i64 ((i : Int) + 1))) (y := .int .i64 ((i + 1 : Nat) : Int)) (by rw [Value.int.injEq]; exact ⟨rfl, wrap_next (by omega)⟩)]
theorem kx_hit (hg : hasBody Tryz.prog g = true) (hp : ∀ r ∈ rs, CallJ Tryz.prog A g [.agg (ruL r).toArray, ptr 1, ptr 2] [(1, b1), (2, b2), (3, b3)] 4 (.bool (p r)) [(1, b1), (2, b2), (3, b3)] 4) (hn : rs.length ≤ 1000) (i : Nat) (hi : i < rs.length) (hno : p rs[i] = true) :
    CodeJ Tryz.prog A (loopOf Tryz.prog 103) 19 (kxV rs c g i) (kxM rs b1 b2 b3) 4 .ret [(4, .int .i64 (i : Int))] (kxM rs b1 b2 b3) 4 :=
  Rx.code [Rx.isT 0 (b := decide ((i : Int) < (rs.length : Int))) (by simpa using hi), Rx.idx 7 4 (b := ruB rs) (T := 115) (ty := 0) (ik := .i64) (id := 0) (off := 0) (q := 0) (len := rs.length) (c := c) (j := i) (s := 11) hi,
    Rx.ld 8 4 (T := 68) (ty := 0) (id := 0) (off := 0 + i * 11) (q := 0) (k := 11) (b := ruB rs) (vs := ruL rs[i]) (by show _ ≤ (rs.flatMap ruL).length; rw [flat_len ruL_len]; have := fit_le (c := 11) hi; omega) (by rw [Nat.zero_add]; exact cut_flat ruL_len rs i hi),
    Rx.calls 9 4 0 (hp rs[i] (List.getElem_mem hi)) hg, Rx.yes 10 hno]
theorem kx_end : CodeJ Tryz.prog A (loopOf Tryz.prog 103) 19 (kxV rs c g rs.length) (kxM rs b1 b2 b3) 4 (.ex 0) [] (kxM rs b1 b2 b3) 4 :=
  Rx.code [Rx.isF 0 (b := decide ((rs.length : Int) < (rs.length : Int))) (by simp)]
/-- the first that fits -/
theorem kx_yes (hg : hasBody Tryz.prog g = true) (hp : ∀ r ∈ rs, CallJ Tryz.prog A g [.agg (ruL r).toArray, ptr 1, ptr 2] [(1, b1), (2, b2), (3, b3)] 4 (.bool (p r)) [(1, b1), (2, b2), (3, b3)] 4) (hn : rs.length ≤ 1000) (k : Nat) (hk : k < rs.length) (hno : ∀ j (hj : j < k), p (rs[j]'(by omega)) = false) (hy : p rs[k] = true) :
    CallJ Tryz.prog A 103 [.slice (some ⟨0, 0, some 0⟩) rs.length c, .func (.func g) #[] #[ptr 1, ptr 2]] (kxM rs b1 b2 b3) 4 (.int .i64 (k : Int)) (kxM rs b1 b2 b3) 4 :=
  Rx.con [Rx.loops 4 4 0 (loopJ (kxV rs c g) (fun _ => kxM rs b1 b2 b3) k (fun i hi => kx_on hg hp hn i (by omega) (hno i hi)) (d := 0) (kx_hit hg hp hn k hk hy))]
theorem kx_no (hg : hasBody Tryz.prog g = true) (hp : ∀ r ∈ rs, CallJ Tryz.prog A g [.agg (ruL r).toArray, ptr 1, ptr 2] [(1, b1), (2, b2), (3, b3)] 4 (.bool (p r)) [(1, b1), (2, b2), (3, b3)] 4) (hn : rs.length ≤ 1000) (hno : ∀ r ∈ rs, p r = false) :
    CallJ Tryz.prog A 103 [.slice (some ⟨0, 0, some 0⟩) rs.length c, .func (.func g) #[] #[ptr 1, ptr 2]] (kxM rs b1 b2 b3) 4 (.int .i64 (-1)) (kxM rs b1 b2 b3) 4 :=
  Rx.con [Rx.loops 4 4 0 (loopJ (kxV rs c g) (fun _ => kxM rs b1 b2 b3) rs.length (fun i hi => kx_on hg hp hn i hi (hno _ (List.getElem_mem hi))) (d := 0) kx_end)]
theorem kx_at {f : FuncId} {gv v : Value} {n : Nat} (h : CallJ Tryz.prog A f [.slice (some ⟨0, 0, some 0⟩) rs.length c, gv] (kxM rs b1 b2 b3) 4 v (kxM rs b1 b2 b3) 4) (τ : List Nat) (hl : τ.length = 4 := by kernel_rfl) (hnd : τ.all (fun j => Nat.blt j n) = true := by kernel_rfl) (hn : τ.Nodup := by decide)
    (h1 : inV 4 gv = true := by kernel_rfl) (h2 : b1.1.all (inC 4) = true := by kernel_rfl) (h3 : b2.1.all (inC 4) = true := by kernel_rfl) (h3' : b3.1.all (inC 4) = true := by kernel_rfl) (h4 : inV 4 v = true := by kernel_rfl) :
    CallJ Tryz.prog A f ([Value.slice (some ⟨0, 0, some 0⟩) rs.length c, gv].map (idV (sig τ n))) [(sig τ n 0, ruB rs), idB (sig τ n) (1, b1), idB (sig τ n) (2, b2), idB (sig τ n) (3, b3)] n (idV (sig τ n) v) [(sig τ n 0, ruB rs), idB (sig τ n) (1, b1), idB (sig τ n) (2, b2), idB (sig τ n) (3, b3)] n := by
  have hb : inBlks 4 (kxM rs b1 b2 b3) = true := by
    simp only [inBlks, List.all_cons, List.all_nil, all_flat (p := inC 4) (f := ruL) (fun _ => rfl), h2, h3, h3']
    rfl
  have hm : (kxM rs b1 b2 b3).map (idB (sig τ n)) = [(sig τ n 0, ruB rs), idB (sig τ n) (1, b1), idB (sig τ n) (2, b2), idB (sig τ n) (3, b3)] := by
    show [(sig τ n 0, (rs.flatMap ruL).map (id0 (sig τ n)), _), _, _, _] = _
    rw [flat_id (f := ruL) (fun _ => rfl)]
  have := h.at (d := 0) τ n (hl := hl) (hnd := hnd) (hn := hn) (h1 := by simp only [List.all_cons, List.all_nil, h1]; rfl) (h2 := hb) (h3 := h4) (h4 := hb)
  rwa [hm] at this
/-! ### Add, at the end -/
@[reducible] def taB (o ip b : Int) (v : Value) : Blk := ([.bool true, .int .u32 o, .int .u32 ip, .int .i64 b, v], 130, false)
theorem chk_J (o ip b : Int) (v : Value) (r : Rule) (hip : 0 ≤ ip ∧ ip ≤ 4294967295) (hr : r.Ok) (hv : inC 2 v = true := by kernel_rfl) : CallJ Tryz.prog A 93 [ptr 0, .agg (ruL r).toArray] [(0, taB o ip b v)] 2 (.int .i64 (chq ip b r)) [(0, taB o ip b v)] 2 := by
  rw [← check_val o ip b v r]
  exact rx_Check o ip b v r.k r.p r.sa r.sb r.da r.db r.e r.f r.t r.ia r.ip hip hr hv
theorem adc_J (o ip b : Int) (n c : Nat) (x r : Rule) : CallJ Tryz.prog A 94 [.agg (ruL x).toArray, ptr 1, ptr 2] [(1, ([ptr 3], 48, false)), (2, (ruL r, 68, false)), (3, taB o ip b (.slice (some ⟨0, 0, some 0⟩) n c))] 4 (.bool (clq (whoR o x) (whoR o r))) [(1, ([ptr 3], 48, false)), (2, (ruL r, 68, false)), (3, taB o ip b (.slice (some ⟨0, 0, some 0⟩) n c))] 4 := by
  rw [← add1_val o ip b n c x r]
  exact rx_Add1 o ip b n c _ _ _ _ _ _ _ _ _ _ _ _ _ _ _ _ _ _ _ _ _ _
theorem flat_snoc (rs : List Rule) (r : Rule) : rs.flatMap ruL ++ ruL r = (rs ++ [r]).flatMap ruL := by rw [List.flatMap_append, List.flatMap_cons, List.flatMap_nil, List.append_nil]
end Go.Proofs.YtilfcikhipadpaaGreatDoor
end
