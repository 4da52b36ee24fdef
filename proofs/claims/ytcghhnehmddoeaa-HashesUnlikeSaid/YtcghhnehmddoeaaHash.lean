/- The package hashes over this program: the number of a tuple, by its bytes. -/
import Derived.Test.YtcghhnehmddoeaaFields
import Derived.Test.YtcghhnehmddoeaaNum
import Derived.Test.YtcghhnehmddoeaaRange
import Derived.Deep.RegionHeld3
set_option linter.unusedVariables false
namespace Go.Proofs.Ytcghhnehmddoeaa
open Go.RowKit Go.Shelf
attribute [local go_sem] Oper.semAt_some

/-- a tuple: its protocol, and two ends -/
structure Tup where
  p : Int
  si : Int
  sp : Int
  di : Int
  dp : Int
def Tup.Ok (t : Tup) : Prop := (0 ≤ t.p ∧ t.p ≤ 255) ∧ (0 ≤ t.si ∧ t.si ≤ 4294967295) ∧ (0 ≤ t.sp ∧ t.sp ≤ 65535) ∧ (0 ≤ t.di ∧ t.di ≤ 4294967295) ∧ (0 ≤ t.dp ∧ t.dp ≤ 65535)
def Tup.cells (t : Tup) : Array Value := #[.int .u8 t.p, .int .u32 t.si, .int .u16 t.sp, .int .u32 t.di, .int .u16 t.dp]
def Tup.bytes (t : Tup) : List UInt8 := put32 t.si ++ (put16 t.sp ++ (put32 t.di ++ put16 t.dp))
theorem Tup.bytes_length (t : Tup) : t.bytes.length = 12 := rfl
def byteInts (l : List UInt8) : List Int := l.map fun b => (b.toNat : Int)
/-- all 13 bytes -/
def Tup.all (t : Tup) : List Int := t.p :: byteInts t.bytes
theorem byteInts_bd (l : List UInt8) : ∀ x ∈ byteInts l, 0 ≤ x ∧ x ≤ 255 := by
  intro x hx
  obtain ⟨b, _, rfl⟩ := List.mem_map.1 hx
  have := b.toNat_lt; omega
theorem Tup.all_bd {t : Tup} (h : t.Ok) : ∀ x ∈ t.all, 0 ≤ x ∧ x ≤ 255 := by
  intro x hx
  rcases List.mem_cons.1 hx with rfl | hx
  · exact h.1
  · exact byteInts_bd _ x hx
theorem Tup.all_length (t : Tup) : t.all.length = 13 := rfl
theorem byteInts_getD (l : List UInt8) (k : Nat) (h : k < l.length) : (byteInts l).getD k 0 = at_ l k := by
  simp [byteInts, at_, List.getD_eq_getElem?_getD, List.getElem?_eq_getElem h]

/-- bytes(t): a box that holds the tuple, and the iterator over it -/
theorem bytes_any (t : Tup) (w : World) :
    Calls Try.prog 57 #[.agg t.cells] w fun e w' => e = .returned (.func (.func 60) #[] #[.pointer (some ⟨w.heap.size, 0, none⟩)]) ∧ w' = w.alloc (.cells t.cells 56) := by
  unfold Tup.cells
  go_enter Try.func57, Try.ntmps57
  go_wp2
  go_ret
  exact ⟨rfl, rfl⟩

theorem split_all {xs : List Int} {k : Nat} (h : k < xs.length) : xs = xs.take k ++ xs.getD k 0 :: xs.drop (k + 1) := by
  rw [List.getD_eq_getElem?_getD, List.getElem?_eq_getElem h]
  simp [← List.drop_eq_getElem_cons h]

set_option maxHeartbeats 1000000 in
theorem bytes1_stops (t : Tup) (ht : t.Ok) (w : World) (B : Nat) (hB : w.heap[B]? = some (.cells t.cells 56 (0, 0))) :
    SeqAll Fence.wide 2 Try.prog 60 #[.pointer (some ⟨B, 0, none⟩)] (fun x : Int => #[.int .u8 x]) B t.all w := by
  intro l J W hbw hJ hJB hY h0
  have hBW : W.heap[B]? = some (.cells t.cells 56 (0, 0)) := (hbw.block B (Array.getElem?_eq_some_iff.1 hB).1).trans hB
  have hJb : ∀ st A C, J st A → Below A.heap.size A C → J st C := fun st A C h hb => hJ st A C none h ⟨hb.os, hb.tape, hb.output, hb.size, fun k hk _ => hb.block k hk⟩ (fun r e => by cases e)
  obtain ⟨⟨p0, p1⟩, ⟨si0, si1⟩, ⟨sp0, sp1⟩, ⟨di0, di1⟩, ⟨dp0, dp1⟩⟩ := ht
  have HY := hide hY; have HJ := hide hJb
  have c0 : W.cell? ⟨B, 0, none⟩ = some (.int .u8 t.p) := by rw [Lib.cell_of_heap hBW]; rfl
  have c1 : W.cell? ⟨B, 1, none⟩ = some (.int .u32 t.si) := by rw [Lib.cell_of_heap hBW]; rfl
  have c2 : W.cell? ⟨B, 2, none⟩ = some (.int .u16 t.sp) := by rw [Lib.cell_of_heap hBW]; rfl
  have c3 : W.cell? ⟨B, 3, none⟩ = some (.int .u32 t.di) := by rw [Lib.cell_of_heap hBW]; rfl
  have c4 : W.cell? ⟨B, 4, none⟩ = some (.int .u16 t.dp) := by rw [Lib.cell_of_heap hBW]; rfl
  clear hY hJb hJ hJB hbw
  refine callsIn_of_wp Try.func60 rfl trivial ?_ rfl
  simp only [Try.ntmps60, List.size_toArray, List.length_cons, List.length_nil, Nat.reduceAdd, Nat.reduceSub, Array.replicate_succ, Array.replicate_zero, List.push_toArray, List.append_toArray, List.nil_append, List.cons_append]
  have hSa := S_append
  have hSz := S_size
  have h32 := put32_length
  have h16 := put16_length
  gi_wp2
  refine wpIn_wide.2 ?_
  go_region_held3 (fun w' => w'.cell? ⟨B, 1, none⟩ = some (.int .u32 t.si) ∧ w'.cell? ⟨B, 2, none⟩ = some (.int .u16 t.sp) ∧ w'.cell? ⟨B, 3, none⟩ = some (.int .u32 t.di) ∧ w'.cell? ⟨B, 4, none⟩ = some (.int .u16 t.dp)) (simp [*])
    (first | (go_at_call 35; (with_reducible refine (Put32 t.si _ si0 si1).mono ?_); rintro e w1 ⟨rfl, b1⟩; have d1 := cellAt b1 c1; have d2 := cellAt b1 c2; have d3 := cellAt b1 c3; have d4 := cellAt b1 c4) | (go_at_call 33; (with_reducible refine (Put16 t.sp _ sp0 sp1).mono ?_); rintro e w2 ⟨rfl, b2⟩; have e1 := cellAt b2 d1; have e2 := cellAt b2 d2; have e3 := cellAt b2 d3; have e4 := cellAt b2 d4) | (go_at_call 35; (with_reducible refine (Put32 t.di _ di0 di1).mono ?_); rintro e w3 ⟨rfl, b3⟩; have f1 := cellAt b3 e1; have f2 := cellAt b3 e2; have f3 := cellAt b3 e3; have f4 := cellAt b3 e4) | (go_at_call 33; (with_reducible refine (Put16 t.dp _ dp0 dp1).mono ?_); rintro e w4 ⟨rfl, b4⟩; have g1 := cellAt b4 f1; have g2 := cellAt b4 f2; have g3 := cellAt b4 f3; have g4 := cellAt b4 f4))
  have bb := bstep (bstep (bstep ((Below.refl W.heap.size W).drew.trans b1) b2) b3) b4
  have g0 := cellAt bb c0
  have hB4 : w4.heap[B]? = some (.cells t.cells 56 (0, 0)) := (bb.block B (Array.getElem?_eq_some_iff.1 hBW).1).trans hBW
  have hJ4 := HJ.out _ _ _ h0 bb
  generalize hs : S (put32 t.si ++ (put16 t.sp ++ (put32 t.di ++ put16 t.dp))) = s
  have ls : L s = t.bytes := by rw [← hs, L_S]; rfl
  have zs : s.size = 12 := by rw [← L_length, ls]; rfl
  clear hSa hSz h32 h16 hs b1 b2 b3 b4 bb d1 d2 d3 d4 e1 e2 e3 e4 f1 f2 f3 f4 c0 c1 c2 c3 c4 h0
  obtain ⟨fn, tmps, assign, body, hy, hR⟩ := HY.out [] t.p (byteInts t.bytes) w4 rfl hJ4
  go_wp2
  gi_wp2
  refine hR.mono ?_
  rintro e W5 ⟨rfl, hJ5, hk5⟩
  clear hy hR g0 hB4 hJ4
  have HLS := hide ls
  clear ls
  gi_wp2
  gi_loopw [4] (fun i wr => ∃ k : Nat, k ≤ 12 ∧ i = .int .i64 k ∧ J (t.p :: (byteInts t.bytes).take k) wr) (fun i _ => 12 - (intOf i).toNat)
  case atStart => exact ⟨0, by omega, rfl, by simpa using hJ5⟩
  case round =>
    obtain ⟨k, hk, rfl, hJk⟩ := hrel
    by_cases hlt : k < 12
    · have hk1 : k < (byteInts t.bytes).length := by show k < 12; exact hlt
      have hsp : t.all = (t.p :: (byteInts t.bytes).take k) ++ (byteInts t.bytes).getD k 0 :: (byteInts t.bytes).drop (k + 1) := by
        show t.p :: byteInts t.bytes = _
        rw [List.cons_append, ← split_all hk1]
      have hsn : (t.p :: (byteInts t.bytes).take k) ++ [(byteInts t.bytes).getD k 0] = t.p :: (byteInts t.bytes).take (k + 1) := by rw [List.cons_append, take_snoc_int _ _ hk1]
      have hks : k < s.size := by omega
      have he : ((s[k]'hks).toNat : Int) = (byteInts t.bytes).getD k 0 := by
        rw [byteInts_getD _ _ (by rw [Tup.bytes_length]; exact hlt), getElem_L s k hks, HLS.out]; rfl
      obtain ⟨x, hx⟩ : ∃ x, x = (byteInts t.bytes).getD k 0 := ⟨_, rfl⟩
      rw [← hx] at hsp hsn he
      obtain ⟨fn, tmps, assign, body, hy, hR⟩ := HY.out _ x _ wr hsp hJk
      have HSN := hide hsn
      have i1 : (k : Int) < (s.size : Int) := by omega
      clear hsp hsn hx
      gi_wp2
      refine hR.mono ?_
      rintro e W6 ⟨rfl, hJ6, hk6⟩
      rw [HSN.out] at hJ6
      clear hy hR
      gi_wp2
      go_roundw
      case rel => exact ⟨k + 1, by omega, by go_num, hJ6⟩
      case measure => simp [intOf]; omega
    · obtain rfl : k = 12 := by omega
      have e : t.p :: (byteInts t.bytes).take 12 = t.all := rfl
      rw [e] at hJk
      gi_wp2
      go_end0
      exact ⟨⟨_, rfl⟩, hJk⟩
end Go.Proofs.Ytcghhnehmddoeaa
