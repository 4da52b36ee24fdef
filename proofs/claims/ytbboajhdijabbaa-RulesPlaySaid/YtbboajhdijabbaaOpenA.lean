/- rules: a slice of acts, as an argument. -/
import Derived.Test.YtbboajhdijabbaaOpenD
set_option linter.unusedVariables false
set_option linter.unusedSimpArgs false
namespace Go.Proofs.Ytbboajhdijabbaa
open Go.RowKit Go.Lib Go.ChangeShapes Go.WideShapes Go.Deep

/-- what is done with a table -/
structure Deed where
  k : Int
  a : Int
  d0 : Int
  d1 : Int
  d2 : Int
  d3 : Int
  d4 : Int
  d5 : Int
  rk : Int
  rp : Int
  rsa : Int
  rsb : Int
  rda : Int
  rdb : Int
  re : Int
  rf : Int
  rt : Int
  ria : Int
  rip : Int
structure Deed.Ok (d : Deed) : Prop where
  hk : 0 ≤ d.k ∧ d.k ≤ 255
  ha : -9223372036854775808 ≤ d.a ∧ d.a ≤ 9223372036854775807
  hd0 : 0 ≤ d.d0 ∧ d.d0 ≤ 255
  hd1 : 0 ≤ d.d1 ∧ d.d1 ≤ 255
  hd2 : 0 ≤ d.d2 ∧ d.d2 ≤ 255
  hd3 : 0 ≤ d.d3 ∧ d.d3 ≤ 255
  hd4 : 0 ≤ d.d4 ∧ d.d4 ≤ 255
  hd5 : 0 ≤ d.d5 ∧ d.d5 ≤ 255
  hrk : -9223372036854775808 ≤ d.rk ∧ d.rk ≤ 9223372036854775807
  hrp : 0 ≤ d.rp ∧ d.rp ≤ 255
  hrsa : 0 ≤ d.rsa ∧ d.rsa ≤ 4294967295
  hrsb : -9223372036854775808 ≤ d.rsb ∧ d.rsb ≤ 9223372036854775807
  hrda : 0 ≤ d.rda ∧ d.rda ≤ 4294967295
  hrdb : -9223372036854775808 ≤ d.rdb ∧ d.rdb ≤ 9223372036854775807
  hre : 0 ≤ d.re ∧ d.re ≤ 4294967295
  hrf : 0 ≤ d.rf ∧ d.rf ≤ 65535
  hrt : 0 ≤ d.rt ∧ d.rt ≤ 65535
  hria : 0 ≤ d.ria ∧ d.ria ≤ 4294967295
  hrip : 0 ≤ d.rip ∧ d.rip ≤ 65535
def Deed.cells (d : Deed) : Array Value := #[.int .u8 d.k, .int .i64 d.a, .int .u8 d.d0, .int .u8 d.d1, .int .u8 d.d2, .int .u8 d.d3, .int .u8 d.d4, .int .u8 d.d5, .int .i64 d.rk, .int .u8 d.rp, .int .u32 d.rsa, .int .i64 d.rsb, .int .u32 d.rda, .int .i64 d.rdb, .int .u32 d.re, .int .u16 d.rf, .int .u16 d.rt, .int .u32 d.ria, .int .u16 d.rip]
def Deed.draft (d : Deed) : Draft := ⟨d.d0, d.d1, d.d2, d.d3, d.d4, d.d5⟩
def Deed.rule (d : Deed) : Rule := ⟨d.rk, d.rp, d.rsa, d.rsb, d.rda, d.rdb, d.re, d.rf, d.rt, d.ria, d.rip⟩
theorem Deed.draft_ok {d : Deed} (h : d.Ok) : d.draft.Ok := ⟨h.hd0, h.hd1, h.hd2, h.hd3, h.hd4, h.hd5⟩
theorem Deed.rule_ok {d : Deed} (h : d.Ok) : d.rule.Ok := ⟨h.hrp, h.hrsa, h.hrda, h.hre, h.hrf, h.hrt, h.hria, h.hrip⟩
/-- a slice of acts in memory -/
def ARow (w : World) (A : Option Addr) (ds : List Deed) : Prop := ∀ i (hi : i < ds.length), ∃ g o, A = some (⟨g, o, none⟩ : Addr) ∧ g < w.heap.size ∧ ∀ j u, (ds[i]).cells[j]? = some u → w.cell? ⟨g, o + i * 19 + j, none⟩ = some u

set_option maxHeartbeats 4000000 in
theorem open_acts {H : Type} {enc : TypeId × Value → H} {W : World} {base : Nat} {spare : Nat → Bool} {held : Bool} {fuel : Nat} {a : Option Addr} {len cap : Nat} {x : DataW H × List MemPlace}
    (h : DataW.trod enc Try.prog W base spare held fuel 63 (Value.slice a len cap).cells.toList = some x) :
    ∃ l : List Deed, len = l.length ∧ ARow W a l ∧ (∀ d ∈ l, d.Ok) ∧ len ≤ 9223372036854775807 := by
  simp only [Value.cells] at h
  rcases open_slice (P := Try.prog) (e := 66) (by kernel_rfl) h with ⟨hcs, _⟩ | ⟨b, l, c, m, n, D, Pl, hcs, hb, hl, hm, hmm, hx, hi⟩
  · simp at hcs
    obtain ⟨rfl, rfl, rfl⟩ := hcs
    exact ⟨[], rfl, fun i hi => absurd hi (Nat.not_lt_zero i), (fun x hx => by cases hx), by omega⟩
  · simp at hcs
    obtain ⟨rfl, rfl, rfl⟩ := hcs
    have hlm : len ≤ m := by rw [hmm]; split <;> omega
    rw [show Try.prog.cellsOf 66 = 19 from by kernel_rfl] at hi
    obtain ⟨ds, h1, h2⟩ := choose_list (α := Deed) (P := fun i d => d.Ok ∧ ∀ j u, d.cells[j]? = some u → W.cell? ((b.add (i * 19)).add j) = some u) len (fun i hil => by
      obtain ⟨cs', hc, ht⟩ := hi i (by omega)
      obtain ⟨_, hcl, hat⟩ := World.cells?_some hc
      obtain ⟨x0, q0, w0⟩ := leaf_int (leafAt_of (n := 8) (i := 0) (u := 5) (by kernel_rfl) ht) Try.underlying5
      obtain ⟨x1, q1, w1⟩ := leaf_int (leafAt_of (n := 8) (i := 1) (u := 3) (by kernel_rfl) ht) Try.underlying3
      obtain ⟨x2, q2, w2⟩ := leaf_int (leafAt_of (n := 8) (i := 2) (u := 5) (by kernel_rfl) ht) Try.underlying5
      obtain ⟨x3, q3, w3⟩ := leaf_int (leafAt_of (n := 8) (i := 3) (u := 5) (by kernel_rfl) ht) Try.underlying5
      obtain ⟨x4, q4, w4⟩ := leaf_int (leafAt_of (n := 8) (i := 4) (u := 5) (by kernel_rfl) ht) Try.underlying5
      obtain ⟨x5, q5, w5⟩ := leaf_int (leafAt_of (n := 8) (i := 5) (u := 5) (by kernel_rfl) ht) Try.underlying5
      obtain ⟨x6, q6, w6⟩ := leaf_int (leafAt_of (n := 8) (i := 6) (u := 5) (by kernel_rfl) ht) Try.underlying5
      obtain ⟨x7, q7, w7⟩ := leaf_int (leafAt_of (n := 8) (i := 7) (u := 5) (by kernel_rfl) ht) Try.underlying5
      obtain ⟨x8, q8, w8⟩ := leaf_int (leafAt_of (n := 8) (i := 8) (u := 3) (by kernel_rfl) ht) Try.underlying3
      obtain ⟨x9, q9, w9⟩ := leaf_int (leafAt_of (n := 8) (i := 9) (u := 5) (by kernel_rfl) ht) Try.underlying5
      obtain ⟨x10, q10, w10⟩ := leaf_int (leafAt_of (n := 8) (i := 10) (u := 23) (by kernel_rfl) ht) Try.underlying23
      obtain ⟨x11, q11, w11⟩ := leaf_int (leafAt_of (n := 8) (i := 11) (u := 3) (by kernel_rfl) ht) Try.underlying3
      obtain ⟨x12, q12, w12⟩ := leaf_int (leafAt_of (n := 8) (i := 12) (u := 23) (by kernel_rfl) ht) Try.underlying23
      obtain ⟨x13, q13, w13⟩ := leaf_int (leafAt_of (n := 8) (i := 13) (u := 3) (by kernel_rfl) ht) Try.underlying3
      obtain ⟨x14, q14, w14⟩ := leaf_int (leafAt_of (n := 8) (i := 14) (u := 23) (by kernel_rfl) ht) Try.underlying23
      obtain ⟨x15, q15, w15⟩ := leaf_int (leafAt_of (n := 8) (i := 15) (u := 26) (by kernel_rfl) ht) Try.underlying26
      obtain ⟨x16, q16, w16⟩ := leaf_int (leafAt_of (n := 8) (i := 16) (u := 26) (by kernel_rfl) ht) Try.underlying26
      obtain ⟨x17, q17, w17⟩ := leaf_int (leafAt_of (n := 8) (i := 17) (u := 23) (by kernel_rfl) ht) Try.underlying23
      obtain ⟨x18, q18, w18⟩ := leaf_int (leafAt_of (n := 8) (i := 18) (u := 26) (by kernel_rfl) ht) Try.underlying26
      refine ⟨⟨x0, x1, x2, x3, x4, x5, x6, x7, x8, x9, x10, x11, x12, x13, x14, x15, x16, x17, x18⟩, ⟨bounds_u8 w0, bounds_i64 w1, bounds_u8 w2, bounds_u8 w3, bounds_u8 w4, bounds_u8 w5, bounds_u8 w6, bounds_u8 w7, bounds_i64 w8, bounds_u8 w9, bounds_u32 w10, bounds_i64 w11, bounds_u32 w12, bounds_i64 w13, bounds_u32 w14, bounds_u16 w15, bounds_u16 w16, bounds_u32 w17, bounds_u16 w18⟩, fun j u hu => ?_⟩
      have hj : j < 19 := by
        have := (Array.getElem?_eq_some_iff.1 hu).1
        simpa [Deed.cells] using this
      rw [hat j hj]
      match j, hj with
      | 0, _ => rw [q0]; exact hu
      | 1, _ => rw [q1]; exact hu
      | 2, _ => rw [q2]; exact hu
      | 3, _ => rw [q3]; exact hu
      | 4, _ => rw [q4]; exact hu
      | 5, _ => rw [q5]; exact hu
      | 6, _ => rw [q6]; exact hu
      | 7, _ => rw [q7]; exact hu
      | 8, _ => rw [q8]; exact hu
      | 9, _ => rw [q9]; exact hu
      | 10, _ => rw [q10]; exact hu
      | 11, _ => rw [q11]; exact hu
      | 12, _ => rw [q12]; exact hu
      | 13, _ => rw [q13]; exact hu
      | 14, _ => rw [q14]; exact hu
      | 15, _ => rw [q15]; exact hu
      | 16, _ => rw [q16]; exact hu
      | 17, _ => rw [q17]; exact hu
      | 18, _ => rw [q18]; exact hu)
    refine ⟨ds, h1.symm, fun i hil => ?_, fun d hd => ?_, by unfold maxLen at hm; omega⟩
    · obtain ⟨_, k2⟩ := h2 i hil
      obtain ⟨_, k0⟩ := h2 0 (by omega)
      obtain ⟨g, o, s⟩ := b
      have hs : s = none := by
        have h7 := k0 0 _ rfl
        simp only [Nat.zero_mul, Addr.add, if_pos] at h7
        cases s with
        | none => rfl
        | some z => simp [World.cell?] at h7; split at h7 <;> simp at h7
      subst hs
      refine ⟨g, o, rfl, ?_, fun j u hu => ?_⟩
      · have h7 := k2 0 (.int .u8 (ds[i]).k) rfl
        rw [Addr.add_lit, Addr.add_lit] at h7
        exact World.block_lt_of_cell? W _ h7
      · have h7 := k2 j u hu
        rw [Addr.add_lit, Addr.add_lit] at h7
        exact h7
    · obtain ⟨i, hi2, rfl⟩ := List.getElem_of_mem hd
      exact (h2 i hi2).1
end Go.Proofs.Ytbboajhdijabbaa
