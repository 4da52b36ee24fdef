/- Several texts of this claim, one behind the other. -/
import Derived.Test.YtjeaknipmdfkdaaGreatDoorK7
import Derived.Laws.IdiomStrings
import Derived.BigRegion
import Derived.Test.YtjeaknipmdfkdaaGreatDoorK2
import Derived.Test.YtjeaknipmdfkdaaGreatDoorK28
import Derived.Test.YtjeaknipmdfkdaaGreatDoorK36
import Derived.Test.YtjeaknipmdfkdaaGreatDoorK1
import Derived.BigQuiet
import Derived.Deep.QuietTactic
import Derived.Deep.LoopGhost

section
/- Bytes of a text in a row of the call's own: what a store does, how the row is turned into a text again. -/
set_option linter.unusedVariables false
namespace Go.Proofs.YtjeaknipmdfkdaaGreatDoor
open Go.RowKit

/-- block b is a row of bytes, the first of them those of l, none of these frozen -/
def Bytes (w : World) (b : Nat) (l : List UInt8) : Prop :=
  ∃ cs : Array Value, ∃ lo hi : Nat, w.heap[b]? = some (.cells cs 5 (lo, hi)) ∧ l.length ≤ lo ∧ ∀ j, j < l.length → cs[j]? = some (.int .u8 (at_ l j))

theorem Bytes.cell {w : World} {b : Nat} {l : List UInt8} (h : Bytes w b l) {j : Nat} (hj : j < l.length) : w.cell? ⟨b, j, none⟩ = some (.int .u8 (at_ l j)) := by
  obtain ⟨cs, lo, hi, hb, hl, hc⟩ := h
  rw [Lib.cell_of_heap hb]; exact hc j hj
theorem Bytes.frozen {w : World} {b : Nat} {l : List UInt8} (h : Bytes w b l) {j : Nat} (hj : j < l.length) : w.frozen? ⟨b, j, none⟩ = false := by
  obtain ⟨cs, lo, hi, hb, hl, hc⟩ := h
  simp [World.frozen?, hb]; omega
theorem Bytes.lt {w : World} {b : Nat} {l : List UInt8} (h : Bytes w b l) : b < w.heap.size := by
  obtain ⟨cs, lo, hi, hb, _⟩ := h
  exact (Array.getElem?_eq_some_iff.1 hb).1
theorem Bytes.set_ {w : World} {b : Nat} {l : List UInt8} (h : Bytes w b l) {k : Nat} {x : UInt8} (hk : k < l.length) : Bytes (w.setCell ⟨b, k, none⟩ (.int .u8 (x.toNat : Int))) b (l.set k x) := by
  obtain ⟨cs, lo, hi, hb, hl, hc⟩ := h
  refine ⟨cs.setIfInBounds k (.int .u8 (x.toNat : Int)), lo, hi, ?_, by simpa using hl, fun j hj => ?_⟩
  · simp [World.setCell, Array.getElem?_modify, hb]
  · have hj' : j < l.length := by simpa using hj
    have hcj := hc j hj'
    have hkz : k < cs.size := by have := hc k hk; exact (Array.getElem?_eq_some_iff.1 this).1
    by_cases e : k = j
    · subst e
      rw [Array.getElem?_setIfInBounds_self_of_lt hkz]
      simp [at_, List.getD_eq_getElem?_getD, hk]
    · rw [Array.getElem?_setIfInBounds_ne e, hcj]
      simp [at_, List.getD_eq_getElem?_getD, e]
theorem Bytes.drewN {w : World} {b : Nat} {l : List UInt8} (h : Bytes w b l) (n : Nat) : Bytes (w.drewN n) b l := h
theorem Bytes.below {w w' : World} {b : Nat} {l : List UInt8} (h : Bytes w b l) (hb : Below w.heap.size w w') : Bytes w' b l := by
  obtain ⟨cs, lo, hi, h1, hl, hc⟩ := h
  exact ⟨cs, lo, hi, (hb.block b (Array.getElem?_eq_some_iff.1 h1).1).trans h1, hl, hc⟩

/-- string(b) -/
theorem conv_bytes (w : World) (b cap : Nat) (l : List UInt8) (h : Bytes w b l) :
    (convert 45 9 (.slice (some ⟨b, 0, none⟩) l.length cap)).run Tryz.prog w = .ok (.string (S l)) w := by
  refine run_convert_bytes_back w 45 9 5 ⟨b, 0, none⟩ cap l Tryz.underlying45 Tryz.underlying5 Tryz.underlying9 (fun j hj => ?_)
  have := h.cell hj
  have e : (⟨b, 0, none⟩ : Addr).add j = ⟨b, j, none⟩ := by unfold Addr.add; split <;> simp_all
  rw [e, this]
  simp [at_, List.getD_eq_getElem?_getD, List.getElem?_eq_getElem hj]

/-- []byte(s) -/
theorem conv_string (w : World) (s : ByteArray) :
    ∃ cap W, (convert 9 45 (.string s)).run Tryz.prog w = .ok (.slice (some ⟨w.heap.size, 0, none⟩) s.size cap) W ∧ Bytes W w.heap.size (L s) ∧ Below w.heap.size w W := by
  refine ⟨_, _, run_bytes_of_string w 9 45 5 s Tryz.underlying9 Tryz.underlying45 Tryz.underlying5, ?_, ?_⟩
  · refine ⟨_, _, _, heap_alloc_new w.drew _, ?_, fun j hj => ?_⟩
    · rw [L_length]; unfold bytesRow; rw [Array.size_append, Array.size_map]; exact Nat.le_add_right _ _
    · rw [bytesRow_at s _ j (by simpa [L_length] using hj)]
      simp [at_, L, List.getD_eq_getElem?_getD, List.getElem?_eq_getElem (show j < s.data.toList.length by simpa [L] using hj)]
  · exact (Below.refl _ _).drew.alloc (Nat.le_refl _) _

theorem set_at {l : List UInt8} {k : Nat} (h : k < l.length) : (l.getD k 0).toNat = (at_ l k).toNat := by simp [at_]
end Go.Proofs.YtjeaknipmdfkdaaGreatDoor
end

section
/- The rounds of plain's loop: Tryz.func20, Tryz.ntmps20. -/
set_option linter.unusedVariables false
set_option linter.unusedSimpArgs false
namespace Go.Proofs.YtjeaknipmdfkdaaGreatDoor
open Go.RowKit
attribute [local go_sem] Oper.semAt_some

theorem zeroed {w : World} {b : Nat} {l : List UInt8} (h : Bytes w b l) (hz : 12 ≤ l.length) : Bytes (((w.setCell ⟨b, 8, none⟩ (.int .u8 0)).setCell ⟨b, 10, none⟩ (.int .u8 0)).setCell ⟨b, 11, none⟩ (.int .u8 0)) b (zeroH l) := by
  have h1 : Bytes (w.setCell ⟨b, 8, none⟩ (.int .u8 0)) b (l.set 8 0) := h.set_ (k := 8) (x := 0) (by omega)
  have h2 : Bytes ((w.setCell ⟨b, 8, none⟩ (.int .u8 0)).setCell ⟨b, 10, none⟩ (.int .u8 0)) b ((l.set 8 0).set 10 0) := h1.set_ (k := 10) (x := 0) (by simp; omega)
  exact h2.set_ (k := 11) (x := 0) (by simp; omega)
theorem zeroed2 {w : World} {b k : Nat} {l : List UInt8} (h : Bytes w b l) (hz : k + 1 < l.length) : Bytes ((w.setCell ⟨b, k, none⟩ (.int .u8 0)).setCell ⟨b, k + 1, none⟩ (.int .u8 0)) b ((l.set k 0).set (k + 1) 0) := by
  have h1 : Bytes (w.setCell ⟨b, k, none⟩ (.int .u8 0)) b (l.set k 0) := h.set_ (k := k) (x := 0) (by omega)
  exact h1.set_ (k := k + 1) (x := 0) (by simp; omega)
theorem fixAt_no {l : List UInt8} {i : Nat} (hi : i + 2 ≤ l.length) (h : ¬ (at_ l i = 255 ∧ at_ l (i + 1) = 255)) : fixAt l i = l := by
  have b0 := at_bd l i; have b1 := at_bd l (i + 1)
  have e : fix0 (be16 l i) = be16 l i := by unfold fix0 be16; rw [if_neg (by omega)]
  unfold fixAt
  rw [e, lay_self hi]
theorem fixAt_yes {l : List UInt8} {i : Nat} (hi : i + 2 ≤ l.length) (h : at_ l i = 255 ∧ at_ l (i + 1) = 255) : fixAt l i = (l.set i 0).set (i + 1) 0 := by
  have e : fix0 (be16 l i) = 0 := by unfold fix0 be16; rw [if_pos (by omega)]
  unfold fixAt
  rw [e, lay_zero hi]
theorem fixAt_len {l : List UInt8} {i : Nat} (hi : i + 2 ≤ l.length) : (fixAt l i).length = l.length := lay_length hi
def loopIn10 : Code → Option Code
  | .loop c => some c
  | .seq a b => (loopIn10 a).orElse fun _ => loopIn10 b
  | .block _ c => loopIn10 c
  | .scope c => loopIn10 c
  | .cond _ a b => (loopIn10 a).orElse fun _ => loopIn10 b
  | _ => none
noncomputable def plainBody : Code := (Tryz.f20.body.bind loopIn10).getD .skip

set_option maxRecDepth 1000000 in
set_option maxHeartbeats 16000000 in
theorem pl_r0 (w0 : World) (n cap B X q0 q1 q2 : Nat) (k : Int) (d : ByteArray) (l : List UInt8) (T : TypeId) (u0 u1 u2 u3 u8 u9 u10 u11 u12 u13 u14 u15 u16 u17 u18 u19 u20 u21 u22 u23 u24 u25 u26 u27 u28 u29 u30 u31 u32 u33 u34 u35 u36 u37 u38 u39 u40 u41 u42 u43 u44 u45 u46 u47 u48 u49 u50 u51 u52 u53 u54 u55 u56 u57 u58 u59 u60 u61 u62 u63 u64 u65 u66 u67 u68 u69 u70 u71 u72 u73 u74 u75 u76 u77 u78 u79 u80 u81 u82 u83 u84 u85 : Value) (wr : World) (K : Act → World → Prop) (Q : Exit → Act → World → Prop)
    (hn : n = l.length) (hn2 : (n : Int) ≤ 140737488351232) (hp : q0 + 1 < n) (hX : Cells wr X #[.int .i64 (q0 : Int), .int .i64 (q1 : Int), .int .i64 (q2 : Int)] T) (hB : Bytes wr B l) (hne : X ≠ B) (h0 : w0.heap.size ≤ B) (hb : Below w0.heap.size w0 wr)
    (c1 : ∀ W, Calls Tryz.prog 18 #[.string d] W (Ret (.int .i64 k) W))
    (hQ : ∀ c a d v w, Q (.panic c) (a.put (some d) v) w → Q (.panic c) a w)
    (hgo : ∀ (u34 u35 u36 u37 u38 u39 u40 u41 u42 u43 u44 u45 u46 u47 u48 u49 u50 u51 u52 u53 u54 u55 u56 u57 u58 u59 u60 u61 u62 u63 u64 u65 u66 u67 u68 u69 u70 u71 u72 u73 u74 u75 u76 u77 u78 u79 u80 u81 u82 u83 : Value) wx, Below w0.heap.size w0 wx → Bytes wx B (fixAt l q0) → Cells wx X #[.int .i64 (q0 : Int), .int .i64 (q1 : Int), .int .i64 (q2 : Int)] T → K ⟨#[u0, u1, u2, u3, .slice (some ⟨B, 0, none⟩) n cap, .string d, .pointer (some ⟨X, 0, none⟩), .int .i64 1, u8, u9, u10, u11, u12, u13, u14, u15, u16, u17, u18, u19, u20, u21, u22, u23, u24, u25, u26, u27, u28, u29, u30, u31, u32, u33, u34, u35, u36, u37, u38, u39, u40, u41, u42, u43, u44, u45, u46, u47, u48, u49, u50, u51, u52, u53, u54, u55, u56, u57, u58, u59, u60, u61, u62, u63, u64, u65, u66, u67, u68, u69, u70, u71, u72, u73, u74, u75, u76, u77, u78, u79, u80, u81, u82, u83, u84, u85], []⟩ wx) :
    Code.wp Tryz.prog plainBody (Exit.then K Q) ⟨#[u0, u1, u2, u3, .slice (some ⟨B, 0, none⟩) n cap, .string d, .pointer (some ⟨X, 0, none⟩), .int .i64 0, u8, u9, u10, u11, u12, u13, u14, u15, u16, u17, u18, u19, u20, u21, u22, u23, u24, u25, u26, u27, u28, u29, u30, u31, u32, u33, u34, u35, u36, u37, u38, u39, u40, u41, u42, u43, u44, u45, u46, u47, u48, u49, u50, u51, u52, u53, u54, u55, u56, u57, u58, u59, u60, u61, u62, u63, u64, u65, u66, u67, u68, u69, u70, u71, u72, u73, u74, u75, u76, u77, u78, u79, u80, u81, u82, u83, u84, u85], []⟩ wr := by
  have HG := hide hgo; have HX := hide hX; have HQ := hide hQ; have HBY := hide hB; have HB := hide hb; have C1 := hide c1
  have bb : Below wr.heap.size wr wr := Below.refl _ _
  have x0 : ∀ W, Below wr.heap.size wr W → W.cell? ⟨X, 0, none⟩ = some (.int .i64 (q0 : Int)) := fun W h => (Cells.below h hX).at_ 0
  obtain ⟨p1, hp1⟩ : ∃ z : Nat, z = q0 + 1 := ⟨_, rfl⟩
  have wp1 : IntKind.i64.wrap ((q0 : Int) + 1) = (p1 : Int) := by rw [IntKind.wrap_i64]; omega
  have l0 : (q0 : Int) < (n : Int) := by omega
  have l1 : (p1 : Int) < (n : Int) := by omega
  have m0 : q0 < n := by omega
  have m1 : p1 < n := by omega
  have zl : q0 + 2 ≤ l.length := by omega
  obtain ⟨v0, hv0⟩ : ∃ v, v = at_ l q0 := ⟨_, rfl⟩
  obtain ⟨v1, hv1⟩ : ∃ v, v = at_ l (q0 + 1) := ⟨_, rfl⟩
  have y0 : ∀ W, Below wr.heap.size wr W → W.cell? ⟨B, q0, none⟩ = some (.int .u8 v0) := fun W h => by rw [hv0]; exact (hB.below h).cell (by omega)
  have y1 : ∀ W, Below wr.heap.size wr W → W.cell? ⟨B, p1, none⟩ = some (.int .u8 v1) := fun W h => by rw [hv1, hp1]; exact (hB.below h).cell (by omega)
  have leaf : ((v0 == 255) = false ∧ fixAt l q0 = l) ∨ ((v0 == 255) = true ∧ (v1 == 255) = false ∧ fixAt l q0 = l) ∨ ((v0 == 255) = true ∧ (v1 == 255) = true ∧ fixAt l q0 = (l.set q0 0).set (q0 + 1) 0) := by
    by_cases e0 : at_ l q0 = 255
    · by_cases e1 : at_ l (q0 + 1) = 255
      · exact Or.inr (Or.inr ⟨by rw [hv0, e0]; rfl, by rw [hv1, e1]; rfl, fixAt_yes zl ⟨e0, e1⟩⟩)
      · exact Or.inr (Or.inl ⟨by rw [hv0, e0]; rfl, by rw [hv1]; simpa using e1, fixAt_no zl (fun h => e1 h.2)⟩)
    · exact Or.inl ⟨by rw [hv0]; simpa using e0, fixAt_no zl (fun h => e0 h.1)⟩
  have HP := hide (And.intro hp1 (And.intro zl (And.intro hn h0)))
  clear hgo hX hB hb c1 hQ hp1 hv0 hv1 zl hn hn2 hp
  rcases leaf with ⟨g0, gf⟩ | ⟨g0, g1, gf⟩ | ⟨g0, g1, gf⟩
  rotate_left 2
  · rw [gf] at HG
    have HGF := hide gf
    clear gf
    conv => arg 2; whnf
    go_upto_region 10 with fail
    have bX : Cells wr X #[.int .i64 (q0 : Int), .int .i64 (q1 : Int), .int .i64 (q2 : Int)] T := Cells.below bb HX.out
    have bY : Bytes wr B l := HBY.out.below bb
    have c0 : wr.cell? ⟨B, q0, none⟩ = some (.int .u8 v0) := y0 _ bb
    have c2 : wr.cell? ⟨B, p1, none⟩ = some (.int .u8 v1) := y1 _ bb
    have f0 : wr.frozen? ⟨B, q0, none⟩ = false := bY.frozen (by have := HP.out; omega)
    have f2 : wr.frozen? ⟨B, p1, none⟩ = false := bY.frozen (by have := HP.out; omega)
    have sA : Cells wr.drew X #[.int .i64 (q0 : Int), .int .i64 (q1 : Int), .int .i64 (q2 : Int)] T := Cells.drew bX
    have bz := bY.set_ (k := q0) (x := 0) (by have := HP.out; omega)
    have c3 := bz.cell (j := p1) (by rw [List.length_set]; have := HP.out; omega)
    have f3 := bz.frozen (j := p1) (by rw [List.length_set]; have := HP.out; omega)
    rw [show (((0 : UInt8).toNat : Nat) : Int) = 0 from rfl] at c3 f3
    have BY := hide bY; have BX := hide bX
    clear bY y0 y1 x0 bz bX
    focus
      refine wp_region_J [] (fun W => Cells W X #[.int .i64 (q0 : Int), .int .i64 (q1 : Int), .int .i64 (q2 : Int)] T) (by kernel_rfl) (sA) (fun hS0 => ?_)
      refine wpAnyJ_take (i := 0) (v := ?v0_1) rfl (by kernel_rfl) (by kernel_rfl) (by kernel_rfl) (by kernel_rfl) (fun c a w h => HQ.out c a _ _ w h) (Or.inl (And.intro (by kernel_rfl) ?q0_1)) hS0 ?r0_1; (case q0_1 => (intro w hx; have a0 := hx.at_ 0; (try dsimp only); (try go_simp); (try with_reducible rfl)))
      (try simp only [Act.put, putS])
      refine wpAnyJ_take (i := 1) (v := ?v1_2) rfl (by kernel_rfl) (by kernel_rfl) (by kernel_rfl) (by kernel_rfl) (fun c a w h => HQ.out c a _ _ w h) (Or.inl (And.intro (by kernel_rfl) ?q1_2)) hS0 ?r1_2; (case q1_2 => (intro w hx; have a0 := hx.at_ 0; (try dsimp only); (try go_simp); (try with_reducible rfl)))
      (try simp only [Act.put, putS])
      refine wpAnyJ_take (i := 2) (v := ?v2_3) rfl (by kernel_rfl) (by kernel_rfl) (by kernel_rfl) (by kernel_rfl) (fun c a w h => HQ.out c a _ _ w h) (Or.inl (And.intro (by kernel_rfl) ?q2_3)) hS0 ?r2_3; (case q2_3 => (intro w hx; have a0 := hx.at_ 0; (try dsimp only); (try go_simp); (try with_reducible rfl)))
      (try simp only [Act.put, putS])
      refine wpAnyJ_take (i := 3) (v := ?v3_4) rfl (by kernel_rfl) (by kernel_rfl) (by kernel_rfl) (by kernel_rfl) (fun c a w h => HQ.out c a _ _ w h) (Or.inl (And.intro (by kernel_rfl) ?q3_4)) hS0 ?r3_4; (case q3_4 => (intro w hx; have a0 := hx.at_ 0; (try dsimp only); (try go_simp); (try with_reducible rfl)))
      (try simp only [Act.put, putS])
      refine wpAnyJ_take (i := 4) (v := ?v4_5) rfl (by kernel_rfl) (by kernel_rfl) (by kernel_rfl) (by kernel_rfl) (fun c a w h => HQ.out c a _ _ w h) (Or.inl (And.intro (by kernel_rfl) ?q4_5)) hS0 ?r4_5; (case q4_5 => (intro w hx; have a0 := hx.at_ 0; (try dsimp only); (try go_simp); (try with_reducible rfl)))
      (try simp only [Act.put, putS])
      refine wpAnyJ_take (i := 5) (v := ?v5_6) rfl (by kernel_rfl) (by kernel_rfl) (by kernel_rfl) (by kernel_rfl) (fun c a w h => HQ.out c a _ _ w h) (Or.inl (And.intro (by kernel_rfl) ?q5_6)) hS0 ?r5_6; (case q5_6 => (intro w hx; have a0 := hx.at_ 0; (try dsimp only); (try go_simp); (try with_reducible rfl)))
      (try simp only [Act.put, putS])
      refine wpAnyJ_take (i := 6) (v := ?v6_7) rfl (by kernel_rfl) (by kernel_rfl) (by kernel_rfl) (by kernel_rfl) (fun c a w h => HQ.out c a _ _ w h) (Or.inl (And.intro (by kernel_rfl) ?q6_7)) hS0 ?r6_7; (case q6_7 => (intro w hx; have a0 := hx.at_ 0; (try dsimp only); (try go_simp); (try with_reducible rfl)))
      (try simp only [Act.put, putS])
      refine wpAnyJ_take (i := 7) (v := ?v7_8) rfl (by kernel_rfl) (by kernel_rfl) (by kernel_rfl) (by kernel_rfl) (fun c a w h => HQ.out c a _ _ w h) (Or.inl (And.intro (by kernel_rfl) ?q7_8)) hS0 ?r7_8; (case q7_8 => (intro w hx; have a0 := hx.at_ 0; (try dsimp only); (try go_simp); (try with_reducible rfl)))
      (try simp only [Act.put, putS])
      refine wpAnyJ_take (i := 8) (v := ?v8_9) rfl (by kernel_rfl) (by kernel_rfl) (by kernel_rfl) (by kernel_rfl) (fun c a w h => HQ.out c a _ _ w h) (Or.inl (And.intro (by kernel_rfl) ?q8_9)) hS0 ?r8_9; (case q8_9 => (intro w hx; have a0 := hx.at_ 0; (try dsimp only); (try go_simp); (try with_reducible rfl)))
      (try simp only [Act.put, putS])
      refine wpAnyJ_take (i := 9) (v := ?v9_10) rfl (by kernel_rfl) (by kernel_rfl) (by kernel_rfl) (by kernel_rfl) (fun c a w h => HQ.out c a _ _ w h) (Or.inl (And.intro (by kernel_rfl) ?q9_10)) hS0 ?r9_10; (case q9_10 => (intro w hx; have a0 := hx.at_ 0; (try dsimp only); (try go_simp); (try with_reducible rfl)))
      (try simp only [Act.put, putS])
      refine rJ [10] ?_
      refine (AllReadyJ.cons rfl (fun K hK => ?_) AllReadyJ.nil)
      rw [if_pos (by kernel_rfl)]
      (try simp only [putG])
      (focus go_simp)
      refine hK.out _ _ ?hs (fun hS0 => ?_)
      case hs => (first | with_reducible exact hS0 | with_reducible exact Cells.drew (Cells.other BX.out hne _ _) | with_reducible exact Cells.drew (Cells.other (Cells.other BX.out hne _ _) hne _ _) | with_reducible exact Cells.other hS0 hne _ _)
      clear hK K
      (try simp only [Act.put, putS])
      refine wpAnyJ_take (i := 11) (v := ?v11_11) rfl (by kernel_rfl) (by kernel_rfl) (by kernel_rfl) (by kernel_rfl) (fun c a w h => HQ.out c a _ _ w h) (Or.inl (And.intro (by kernel_rfl) ?q11_11)) hS0 ?r11_11; (case q11_11 => (intro w hx; have a0 := hx.at_ 0; (try dsimp only); (try go_simp); (try with_reducible rfl)))
      (try simp only [Act.put, putS])
      refine rJ [12] ?_
      refine (AllReadyJ.cons rfl (fun K hK => ?_) AllReadyJ.nil)
      rw [if_pos (by kernel_rfl)]
      (try simp only [putG])
      (focus go_simp)
      refine hK.out _ _ ?hs (fun hS0 => ?_)
      case hs => (first | with_reducible exact hS0 | with_reducible exact Cells.drew (Cells.other BX.out hne _ _) | with_reducible exact Cells.drew (Cells.other (Cells.other BX.out hne _ _) hne _ _) | with_reducible exact Cells.other hS0 hne _ _)
      clear hK K
      (try simp only [Act.put, putS])
      refine wpAnyJ_done (by kernel_rfl) ?_ _
    go_wp2_with fail
    have hp := HP.out
    have zz := zeroed2 (k := q0) BY.out (by omega)
    rw [← hp.1] at zz
    refine HG.out _ _ _ _ _ _ _ _ _ _ _ _ _ _ _ _ _ _ _ _ _ _ _ _ _ _ _ _ _ _ _ _ _ _ _ _ _ _ _ _ _ _ _ _ _ _ _ _ _ _ _ ?_ ?_ ?_
    · exact Below.drew (Below.setCell (Below.setCell (bstep HB.out bb) (p := ⟨B, q0, none⟩) hp.2.2.2 (.int .u8 0)) (p := ⟨B, p1, none⟩) hp.2.2.2 (.int .u8 0))
    · rw [← hp.1]; exact zz
    · exact Cells.drew (Cells.other (Cells.other BX.out hne _ _) hne _ _)
  all_goals
    rw [gf] at HG
    conv => arg 2; whnf
    go_wp2_with fail
    refine HG.out _ _ _ _ _ _ _ _ _ _ _ _ _ _ _ _ _ _ _ _ _ _ _ _ _ _ _ _ _ _ _ _ _ _ _ _ _ _ _ _ _ _ _ _ _ _ _ _ _ _ _ (bstep HB.out bb) (HBY.out.below bb) (Cells.below bb HX.out)
set_option maxRecDepth 1000000 in
set_option maxHeartbeats 16000000 in
theorem pl_r1 (w0 : World) (n cap B X q0 q1 q2 : Nat) (k : Int) (d : ByteArray) (l : List UInt8) (T : TypeId) (u0 u1 u2 u3 u8 u9 u10 u11 u12 u13 u14 u15 u16 u17 u18 u19 u20 u21 u22 u23 u24 u25 u26 u27 u28 u29 u30 u31 u32 u33 u34 u35 u36 u37 u38 u39 u40 u41 u42 u43 u44 u45 u46 u47 u48 u49 u50 u51 u52 u53 u54 u55 u56 u57 u58 u59 u60 u61 u62 u63 u64 u65 u66 u67 u68 u69 u70 u71 u72 u73 u74 u75 u76 u77 u78 u79 u80 u81 u82 u83 u84 u85 : Value) (wr : World) (K : Act → World → Prop) (Q : Exit → Act → World → Prop)
    (hn : n = l.length) (hn2 : (n : Int) ≤ 140737488351232) (hp : q1 + 1 < n) (hX : Cells wr X #[.int .i64 (q0 : Int), .int .i64 (q1 : Int), .int .i64 (q2 : Int)] T) (hB : Bytes wr B l) (hne : X ≠ B) (h0 : w0.heap.size ≤ B) (hb : Below w0.heap.size w0 wr)
    (c1 : ∀ W, Calls Tryz.prog 18 #[.string d] W (Ret (.int .i64 k) W))
    (hQ : ∀ c a d v w, Q (.panic c) (a.put (some d) v) w → Q (.panic c) a w)
    (hgo : ∀ (u34 u35 u36 u37 u38 u39 u40 u41 u42 u43 u44 u45 u46 u47 u48 u49 u50 u51 u52 u53 u54 u55 u56 u57 u58 u59 u60 u61 u62 u63 u64 u65 u66 u67 u68 u69 u70 u71 u72 u73 u74 u75 u76 u77 u78 u79 u80 u81 u82 u83 : Value) wx, Below w0.heap.size w0 wx → Bytes wx B (fixAt l q1) → Cells wx X #[.int .i64 (q0 : Int), .int .i64 (q1 : Int), .int .i64 (q2 : Int)] T → K ⟨#[u0, u1, u2, u3, .slice (some ⟨B, 0, none⟩) n cap, .string d, .pointer (some ⟨X, 0, none⟩), .int .i64 2, u8, u9, u10, u11, u12, u13, u14, u15, u16, u17, u18, u19, u20, u21, u22, u23, u24, u25, u26, u27, u28, u29, u30, u31, u32, u33, u34, u35, u36, u37, u38, u39, u40, u41, u42, u43, u44, u45, u46, u47, u48, u49, u50, u51, u52, u53, u54, u55, u56, u57, u58, u59, u60, u61, u62, u63, u64, u65, u66, u67, u68, u69, u70, u71, u72, u73, u74, u75, u76, u77, u78, u79, u80, u81, u82, u83, u84, u85], []⟩ wx) :
    Code.wp Tryz.prog plainBody (Exit.then K Q) ⟨#[u0, u1, u2, u3, .slice (some ⟨B, 0, none⟩) n cap, .string d, .pointer (some ⟨X, 0, none⟩), .int .i64 1, u8, u9, u10, u11, u12, u13, u14, u15, u16, u17, u18, u19, u20, u21, u22, u23, u24, u25, u26, u27, u28, u29, u30, u31, u32, u33, u34, u35, u36, u37, u38, u39, u40, u41, u42, u43, u44, u45, u46, u47, u48, u49, u50, u51, u52, u53, u54, u55, u56, u57, u58, u59, u60, u61, u62, u63, u64, u65, u66, u67, u68, u69, u70, u71, u72, u73, u74, u75, u76, u77, u78, u79, u80, u81, u82, u83, u84, u85], []⟩ wr := by
  have HG := hide hgo; have HX := hide hX; have HQ := hide hQ; have HBY := hide hB; have HB := hide hb; have C1 := hide c1
  have bb : Below wr.heap.size wr wr := Below.refl _ _
  have x1 : ∀ W, Below wr.heap.size wr W → W.cell? ⟨X, 1, none⟩ = some (.int .i64 (q1 : Int)) := fun W h => (Cells.below h hX).at_ 1
  obtain ⟨p1, hp1⟩ : ∃ z : Nat, z = q1 + 1 := ⟨_, rfl⟩
  have wp1 : IntKind.i64.wrap ((q1 : Int) + 1) = (p1 : Int) := by rw [IntKind.wrap_i64]; omega
  have l0 : (q1 : Int) < (n : Int) := by omega
  have l1 : (p1 : Int) < (n : Int) := by omega
  have m0 : q1 < n := by omega
  have m1 : p1 < n := by omega
  have zl : q1 + 2 ≤ l.length := by omega
  obtain ⟨v0, hv0⟩ : ∃ v, v = at_ l q1 := ⟨_, rfl⟩
  obtain ⟨v1, hv1⟩ : ∃ v, v = at_ l (q1 + 1) := ⟨_, rfl⟩
  have y0 : ∀ W, Below wr.heap.size wr W → W.cell? ⟨B, q1, none⟩ = some (.int .u8 v0) := fun W h => by rw [hv0]; exact (hB.below h).cell (by omega)
  have y1 : ∀ W, Below wr.heap.size wr W → W.cell? ⟨B, p1, none⟩ = some (.int .u8 v1) := fun W h => by rw [hv1, hp1]; exact (hB.below h).cell (by omega)
  have leaf : ((v0 == 255) = false ∧ fixAt l q1 = l) ∨ ((v0 == 255) = true ∧ (v1 == 255) = false ∧ fixAt l q1 = l) ∨ ((v0 == 255) = true ∧ (v1 == 255) = true ∧ fixAt l q1 = (l.set q1 0).set (q1 + 1) 0) := by
    by_cases e0 : at_ l q1 = 255
    · by_cases e1 : at_ l (q1 + 1) = 255
      · exact Or.inr (Or.inr ⟨by rw [hv0, e0]; rfl, by rw [hv1, e1]; rfl, fixAt_yes zl ⟨e0, e1⟩⟩)
      · exact Or.inr (Or.inl ⟨by rw [hv0, e0]; rfl, by rw [hv1]; simpa using e1, fixAt_no zl (fun h => e1 h.2)⟩)
    · exact Or.inl ⟨by rw [hv0]; simpa using e0, fixAt_no zl (fun h => e0 h.1)⟩
  have HP := hide (And.intro hp1 (And.intro zl (And.intro hn h0)))
  clear hgo hX hB hb c1 hQ hp1 hv0 hv1 zl hn hn2 hp
  rcases leaf with ⟨g0, gf⟩ | ⟨g0, g1, gf⟩ | ⟨g0, g1, gf⟩
  rotate_left 2
  · rw [gf] at HG
    have HGF := hide gf
    clear gf
    conv => arg 2; whnf
    go_upto_region 10 with fail
    have bX : Cells wr X #[.int .i64 (q0 : Int), .int .i64 (q1 : Int), .int .i64 (q2 : Int)] T := Cells.below bb HX.out
    have bY : Bytes wr B l := HBY.out.below bb
    have c0 : wr.cell? ⟨B, q1, none⟩ = some (.int .u8 v0) := y0 _ bb
    have c2 : wr.cell? ⟨B, p1, none⟩ = some (.int .u8 v1) := y1 _ bb
    have f0 : wr.frozen? ⟨B, q1, none⟩ = false := bY.frozen (by have := HP.out; omega)
    have f2 : wr.frozen? ⟨B, p1, none⟩ = false := bY.frozen (by have := HP.out; omega)
    have sA : Cells wr.drew X #[.int .i64 (q0 : Int), .int .i64 (q1 : Int), .int .i64 (q2 : Int)] T := Cells.drew bX
    have bz := bY.set_ (k := q1) (x := 0) (by have := HP.out; omega)
    have c3 := bz.cell (j := p1) (by rw [List.length_set]; have := HP.out; omega)
    have f3 := bz.frozen (j := p1) (by rw [List.length_set]; have := HP.out; omega)
    rw [show (((0 : UInt8).toNat : Nat) : Int) = 0 from rfl] at c3 f3
    have BY := hide bY; have BX := hide bX
    clear bY y0 y1 x1 bz bX
    focus
      refine wp_region_J [] (fun W => Cells W X #[.int .i64 (q0 : Int), .int .i64 (q1 : Int), .int .i64 (q2 : Int)] T) (by kernel_rfl) (sA) (fun hS0 => ?_)
      refine wpAnyJ_take (i := 0) (v := ?v0_12) rfl (by kernel_rfl) (by kernel_rfl) (by kernel_rfl) (by kernel_rfl) (fun c a w h => HQ.out c a _ _ w h) (Or.inl (And.intro (by kernel_rfl) ?q0_12)) hS0 ?r0_12; (case q0_12 => (intro w hx; have a0 := hx.at_ 1; (try dsimp only); (try go_simp); (try with_reducible rfl)))
      (try simp only [Act.put, putS])
      refine wpAnyJ_take (i := 1) (v := ?v1_13) rfl (by kernel_rfl) (by kernel_rfl) (by kernel_rfl) (by kernel_rfl) (fun c a w h => HQ.out c a _ _ w h) (Or.inl (And.intro (by kernel_rfl) ?q1_13)) hS0 ?r1_13; (case q1_13 => (intro w hx; have a0 := hx.at_ 1; (try dsimp only); (try go_simp); (try with_reducible rfl)))
      (try simp only [Act.put, putS])
      refine wpAnyJ_take (i := 2) (v := ?v2_14) rfl (by kernel_rfl) (by kernel_rfl) (by kernel_rfl) (by kernel_rfl) (fun c a w h => HQ.out c a _ _ w h) (Or.inl (And.intro (by kernel_rfl) ?q2_14)) hS0 ?r2_14; (case q2_14 => (intro w hx; have a0 := hx.at_ 1; (try dsimp only); (try go_simp); (try with_reducible rfl)))
      (try simp only [Act.put, putS])
      refine wpAnyJ_take (i := 3) (v := ?v3_15) rfl (by kernel_rfl) (by kernel_rfl) (by kernel_rfl) (by kernel_rfl) (fun c a w h => HQ.out c a _ _ w h) (Or.inl (And.intro (by kernel_rfl) ?q3_15)) hS0 ?r3_15; (case q3_15 => (intro w hx; have a0 := hx.at_ 1; (try dsimp only); (try go_simp); (try with_reducible rfl)))
      (try simp only [Act.put, putS])
      refine wpAnyJ_take (i := 4) (v := ?v4_16) rfl (by kernel_rfl) (by kernel_rfl) (by kernel_rfl) (by kernel_rfl) (fun c a w h => HQ.out c a _ _ w h) (Or.inl (And.intro (by kernel_rfl) ?q4_16)) hS0 ?r4_16; (case q4_16 => (intro w hx; have a0 := hx.at_ 1; (try dsimp only); (try go_simp); (try with_reducible rfl)))
      (try simp only [Act.put, putS])
      refine wpAnyJ_take (i := 5) (v := ?v5_17) rfl (by kernel_rfl) (by kernel_rfl) (by kernel_rfl) (by kernel_rfl) (fun c a w h => HQ.out c a _ _ w h) (Or.inl (And.intro (by kernel_rfl) ?q5_17)) hS0 ?r5_17; (case q5_17 => (intro w hx; have a0 := hx.at_ 1; (try dsimp only); (try go_simp); (try with_reducible rfl)))
      (try simp only [Act.put, putS])
      refine wpAnyJ_take (i := 6) (v := ?v6_18) rfl (by kernel_rfl) (by kernel_rfl) (by kernel_rfl) (by kernel_rfl) (fun c a w h => HQ.out c a _ _ w h) (Or.inl (And.intro (by kernel_rfl) ?q6_18)) hS0 ?r6_18; (case q6_18 => (intro w hx; have a0 := hx.at_ 1; (try dsimp only); (try go_simp); (try with_reducible rfl)))
      (try simp only [Act.put, putS])
      refine wpAnyJ_take (i := 7) (v := ?v7_19) rfl (by kernel_rfl) (by kernel_rfl) (by kernel_rfl) (by kernel_rfl) (fun c a w h => HQ.out c a _ _ w h) (Or.inl (And.intro (by kernel_rfl) ?q7_19)) hS0 ?r7_19; (case q7_19 => (intro w hx; have a0 := hx.at_ 1; (try dsimp only); (try go_simp); (try with_reducible rfl)))
      (try simp only [Act.put, putS])
      refine wpAnyJ_take (i := 8) (v := ?v8_20) rfl (by kernel_rfl) (by kernel_rfl) (by kernel_rfl) (by kernel_rfl) (fun c a w h => HQ.out c a _ _ w h) (Or.inl (And.intro (by kernel_rfl) ?q8_20)) hS0 ?r8_20; (case q8_20 => (intro w hx; have a0 := hx.at_ 1; (try dsimp only); (try go_simp); (try with_reducible rfl)))
      (try simp only [Act.put, putS])
      refine wpAnyJ_take (i := 9) (v := ?v9_21) rfl (by kernel_rfl) (by kernel_rfl) (by kernel_rfl) (by kernel_rfl) (fun c a w h => HQ.out c a _ _ w h) (Or.inl (And.intro (by kernel_rfl) ?q9_21)) hS0 ?r9_21; (case q9_21 => (intro w hx; have a0 := hx.at_ 1; (try dsimp only); (try go_simp); (try with_reducible rfl)))
      (try simp only [Act.put, putS])
      refine rJ [10] ?_
      refine (AllReadyJ.cons rfl (fun K hK => ?_) AllReadyJ.nil)
      rw [if_pos (by kernel_rfl)]
      (try simp only [putG])
      (focus go_simp)
      refine hK.out _ _ ?hs (fun hS0 => ?_)
      case hs => (first | with_reducible exact hS0 | with_reducible exact Cells.drew (Cells.other BX.out hne _ _) | with_reducible exact Cells.drew (Cells.other (Cells.other BX.out hne _ _) hne _ _) | with_reducible exact Cells.other hS0 hne _ _)
      clear hK K
      (try simp only [Act.put, putS])
      refine wpAnyJ_take (i := 11) (v := ?v11_22) rfl (by kernel_rfl) (by kernel_rfl) (by kernel_rfl) (by kernel_rfl) (fun c a w h => HQ.out c a _ _ w h) (Or.inl (And.intro (by kernel_rfl) ?q11_22)) hS0 ?r11_22; (case q11_22 => (intro w hx; have a0 := hx.at_ 1; (try dsimp only); (try go_simp); (try with_reducible rfl)))
      (try simp only [Act.put, putS])
      refine rJ [12] ?_
      refine (AllReadyJ.cons rfl (fun K hK => ?_) AllReadyJ.nil)
      rw [if_pos (by kernel_rfl)]
      (try simp only [putG])
      (focus go_simp)
      refine hK.out _ _ ?hs (fun hS0 => ?_)
      case hs => (first | with_reducible exact hS0 | with_reducible exact Cells.drew (Cells.other BX.out hne _ _) | with_reducible exact Cells.drew (Cells.other (Cells.other BX.out hne _ _) hne _ _) | with_reducible exact Cells.other hS0 hne _ _)
      clear hK K
      (try simp only [Act.put, putS])
      refine wpAnyJ_done (by kernel_rfl) ?_ _
    go_wp2_with fail
    have hp := HP.out
    have zz := zeroed2 (k := q1) BY.out (by omega)
    rw [← hp.1] at zz
    refine HG.out _ _ _ _ _ _ _ _ _ _ _ _ _ _ _ _ _ _ _ _ _ _ _ _ _ _ _ _ _ _ _ _ _ _ _ _ _ _ _ _ _ _ _ _ _ _ _ _ _ _ _ ?_ ?_ ?_
    · exact Below.drew (Below.setCell (Below.setCell (bstep HB.out bb) (p := ⟨B, q1, none⟩) hp.2.2.2 (.int .u8 0)) (p := ⟨B, p1, none⟩) hp.2.2.2 (.int .u8 0))
    · rw [← hp.1]; exact zz
    · exact Cells.drew (Cells.other (Cells.other BX.out hne _ _) hne _ _)
  all_goals
    rw [gf] at HG
    conv => arg 2; whnf
    go_wp2_with fail
    refine HG.out _ _ _ _ _ _ _ _ _ _ _ _ _ _ _ _ _ _ _ _ _ _ _ _ _ _ _ _ _ _ _ _ _ _ _ _ _ _ _ _ _ _ _ _ _ _ _ _ _ _ _ (bstep HB.out bb) (HBY.out.below bb) (Cells.below bb HX.out)
set_option maxRecDepth 1000000 in
set_option maxHeartbeats 16000000 in
theorem pl_r2 (w0 : World) (n cap B X q0 q1 q2 : Nat) (k : Int) (d : ByteArray) (l : List UInt8) (T : TypeId) (u0 u1 u2 u3 u8 u9 u10 u11 u12 u13 u14 u15 u16 u17 u18 u19 u20 u21 u22 u23 u24 u25 u26 u27 u28 u29 u30 u31 u32 u33 u34 u35 u36 u37 u38 u39 u40 u41 u42 u43 u44 u45 u46 u47 u48 u49 u50 u51 u52 u53 u54 u55 u56 u57 u58 u59 u60 u61 u62 u63 u64 u65 u66 u67 u68 u69 u70 u71 u72 u73 u74 u75 u76 u77 u78 u79 u80 u81 u82 u83 u84 u85 : Value) (wr : World) (K : Act → World → Prop) (Q : Exit → Act → World → Prop)
    (hn : n = l.length) (hn2 : (n : Int) ≤ 140737488351232) (hp : q2 + 1 < n) (hk : decide (0 < k) = true) (hX : Cells wr X #[.int .i64 (q0 : Int), .int .i64 (q1 : Int), .int .i64 (q2 : Int)] T) (hB : Bytes wr B l) (hne : X ≠ B) (h0 : w0.heap.size ≤ B) (hb : Below w0.heap.size w0 wr)
    (c1 : ∀ W, Calls Tryz.prog 18 #[.string d] W (Ret (.int .i64 k) W))
    (hQ : ∀ c a d v w, Q (.panic c) (a.put (some d) v) w → Q (.panic c) a w)
    (hgo : ∀ (u34 u35 u36 u37 u38 u39 u40 u41 u42 u43 u44 u45 u46 u47 u48 u49 u50 u51 u52 u53 u54 u55 u56 u57 u58 u59 u60 u61 u62 u63 u64 u65 u66 u67 u68 u69 u70 u71 u72 u73 u74 u75 u76 u77 u78 u79 u80 u81 u82 u83 : Value) wx, Below w0.heap.size w0 wx → Bytes wx B (fixAt l q2) → Cells wx X #[.int .i64 (q0 : Int), .int .i64 (q1 : Int), .int .i64 (q2 : Int)] T → K ⟨#[u0, u1, u2, u3, .slice (some ⟨B, 0, none⟩) n cap, .string d, .pointer (some ⟨X, 0, none⟩), .int .i64 3, u8, u9, u10, u11, u12, u13, u14, u15, u16, u17, u18, u19, u20, u21, u22, u23, u24, u25, u26, u27, u28, u29, u30, u31, u32, u33, u34, u35, u36, u37, u38, u39, u40, u41, u42, u43, u44, u45, u46, u47, u48, u49, u50, u51, u52, u53, u54, u55, u56, u57, u58, u59, u60, u61, u62, u63, u64, u65, u66, u67, u68, u69, u70, u71, u72, u73, u74, u75, u76, u77, u78, u79, u80, u81, u82, u83, u84, u85], []⟩ wx) :
    Code.wp Tryz.prog plainBody (Exit.then K Q) ⟨#[u0, u1, u2, u3, .slice (some ⟨B, 0, none⟩) n cap, .string d, .pointer (some ⟨X, 0, none⟩), .int .i64 2, u8, u9, u10, u11, u12, u13, u14, u15, u16, u17, u18, u19, u20, u21, u22, u23, u24, u25, u26, u27, u28, u29, u30, u31, u32, u33, u34, u35, u36, u37, u38, u39, u40, u41, u42, u43, u44, u45, u46, u47, u48, u49, u50, u51, u52, u53, u54, u55, u56, u57, u58, u59, u60, u61, u62, u63, u64, u65, u66, u67, u68, u69, u70, u71, u72, u73, u74, u75, u76, u77, u78, u79, u80, u81, u82, u83, u84, u85], []⟩ wr := by
  have HG := hide hgo; have HX := hide hX; have HQ := hide hQ; have HBY := hide hB; have HB := hide hb; have C1 := hide c1
  have bb : Below wr.heap.size wr wr := Below.refl _ _
  have x2 : ∀ W, Below wr.heap.size wr W → W.cell? ⟨X, 2, none⟩ = some (.int .i64 (q2 : Int)) := fun W h => (Cells.below h hX).at_ 2
  obtain ⟨p1, hp1⟩ : ∃ z : Nat, z = q2 + 1 := ⟨_, rfl⟩
  have wp1 : IntKind.i64.wrap ((q2 : Int) + 1) = (p1 : Int) := by rw [IntKind.wrap_i64]; omega
  have l0 : (q2 : Int) < (n : Int) := by omega
  have l1 : (p1 : Int) < (n : Int) := by omega
  have m0 : q2 < n := by omega
  have m1 : p1 < n := by omega
  have zl : q2 + 2 ≤ l.length := by omega
  obtain ⟨v0, hv0⟩ : ∃ v, v = at_ l q2 := ⟨_, rfl⟩
  obtain ⟨v1, hv1⟩ : ∃ v, v = at_ l (q2 + 1) := ⟨_, rfl⟩
  have y0 : ∀ W, Below wr.heap.size wr W → W.cell? ⟨B, q2, none⟩ = some (.int .u8 v0) := fun W h => by rw [hv0]; exact (hB.below h).cell (by omega)
  have y1 : ∀ W, Below wr.heap.size wr W → W.cell? ⟨B, p1, none⟩ = some (.int .u8 v1) := fun W h => by rw [hv1, hp1]; exact (hB.below h).cell (by omega)
  have leaf : ((v0 == 255) = false ∧ fixAt l q2 = l) ∨ ((v0 == 255) = true ∧ (v1 == 255) = false ∧ fixAt l q2 = l) ∨ ((v0 == 255) = true ∧ (v1 == 255) = true ∧ fixAt l q2 = (l.set q2 0).set (q2 + 1) 0) := by
    by_cases e0 : at_ l q2 = 255
    · by_cases e1 : at_ l (q2 + 1) = 255
      · exact Or.inr (Or.inr ⟨by rw [hv0, e0]; rfl, by rw [hv1, e1]; rfl, fixAt_yes zl ⟨e0, e1⟩⟩)
      · exact Or.inr (Or.inl ⟨by rw [hv0, e0]; rfl, by rw [hv1]; simpa using e1, fixAt_no zl (fun h => e1 h.2)⟩)
    · exact Or.inl ⟨by rw [hv0]; simpa using e0, fixAt_no zl (fun h => e0 h.1)⟩
  have HP := hide (And.intro hp1 (And.intro zl (And.intro hn h0)))
  clear hgo hX hB hb c1 hQ hp1 hv0 hv1 zl hn hn2 hp
  rcases leaf with ⟨g0, gf⟩ | ⟨g0, g1, gf⟩ | ⟨g0, g1, gf⟩
  rotate_left 2
  · rw [gf] at HG
    have HGF := hide gf
    clear gf
    conv => arg 2; whnf
    go_upto_region 10 with (go_at_call 18; (with_reducible refine (C1.out _).mono ?_); rintro e w1 ⟨rfl, b1⟩; have bb := bstep (by assumption : Below wr.heap.size wr _) b1; clear b1)
    have bX : Cells w1 X #[.int .i64 (q0 : Int), .int .i64 (q1 : Int), .int .i64 (q2 : Int)] T := Cells.below bb HX.out
    have bY : Bytes w1 B l := HBY.out.below bb
    have c0 : w1.cell? ⟨B, q2, none⟩ = some (.int .u8 v0) := y0 _ bb
    have c2 : w1.cell? ⟨B, p1, none⟩ = some (.int .u8 v1) := y1 _ bb
    have f0 : w1.frozen? ⟨B, q2, none⟩ = false := bY.frozen (by have := HP.out; omega)
    have f2 : w1.frozen? ⟨B, p1, none⟩ = false := bY.frozen (by have := HP.out; omega)
    have sA : Cells w1.drew X #[.int .i64 (q0 : Int), .int .i64 (q1 : Int), .int .i64 (q2 : Int)] T := Cells.drew bX
    have bz := bY.set_ (k := q2) (x := 0) (by have := HP.out; omega)
    have c3 := bz.cell (j := p1) (by rw [List.length_set]; have := HP.out; omega)
    have f3 := bz.frozen (j := p1) (by rw [List.length_set]; have := HP.out; omega)
    rw [show (((0 : UInt8).toNat : Nat) : Int) = 0 from rfl] at c3 f3
    have BY := hide bY; have BX := hide bX
    clear bY y0 y1 x2 bz bX
    focus
      refine wp_region_J [] (fun W => Cells W X #[.int .i64 (q0 : Int), .int .i64 (q1 : Int), .int .i64 (q2 : Int)] T) (by kernel_rfl) (sA) (fun hS0 => ?_)
      refine wpAnyJ_take (i := 0) (v := ?v0_23) rfl (by kernel_rfl) (by kernel_rfl) (by kernel_rfl) (by kernel_rfl) (fun c a w h => HQ.out c a _ _ w h) (Or.inl (And.intro (by kernel_rfl) ?q0_23)) hS0 ?r0_23; (case q0_23 => (intro w hx; have a0 := hx.at_ 2; (try dsimp only); (try go_simp); (try with_reducible rfl)))
      (try simp only [Act.put, putS])
      refine wpAnyJ_take (i := 1) (v := ?v1_24) rfl (by kernel_rfl) (by kernel_rfl) (by kernel_rfl) (by kernel_rfl) (fun c a w h => HQ.out c a _ _ w h) (Or.inl (And.intro (by kernel_rfl) ?q1_24)) hS0 ?r1_24; (case q1_24 => (intro w hx; have a0 := hx.at_ 2; (try dsimp only); (try go_simp); (try with_reducible rfl)))
      (try simp only [Act.put, putS])
      refine wpAnyJ_take (i := 2) (v := ?v2_25) rfl (by kernel_rfl) (by kernel_rfl) (by kernel_rfl) (by kernel_rfl) (fun c a w h => HQ.out c a _ _ w h) (Or.inl (And.intro (by kernel_rfl) ?q2_25)) hS0 ?r2_25; (case q2_25 => (intro w hx; have a0 := hx.at_ 2; (try dsimp only); (try go_simp); (try with_reducible rfl)))
      (try simp only [Act.put, putS])
      refine wpAnyJ_take (i := 3) (v := ?v3_26) rfl (by kernel_rfl) (by kernel_rfl) (by kernel_rfl) (by kernel_rfl) (fun c a w h => HQ.out c a _ _ w h) (Or.inl (And.intro (by kernel_rfl) ?q3_26)) hS0 ?r3_26; (case q3_26 => (intro w hx; have a0 := hx.at_ 2; (try dsimp only); (try go_simp); (try with_reducible rfl)))
      (try simp only [Act.put, putS])
      refine wpAnyJ_take (i := 4) (v := ?v4_27) rfl (by kernel_rfl) (by kernel_rfl) (by kernel_rfl) (by kernel_rfl) (fun c a w h => HQ.out c a _ _ w h) (Or.inl (And.intro (by kernel_rfl) ?q4_27)) hS0 ?r4_27; (case q4_27 => (intro w hx; have a0 := hx.at_ 2; (try dsimp only); (try go_simp); (try with_reducible rfl)))
      (try simp only [Act.put, putS])
      refine wpAnyJ_take (i := 5) (v := ?v5_28) rfl (by kernel_rfl) (by kernel_rfl) (by kernel_rfl) (by kernel_rfl) (fun c a w h => HQ.out c a _ _ w h) (Or.inl (And.intro (by kernel_rfl) ?q5_28)) hS0 ?r5_28; (case q5_28 => (intro w hx; have a0 := hx.at_ 2; (try dsimp only); (try go_simp); (try with_reducible rfl)))
      (try simp only [Act.put, putS])
      refine wpAnyJ_take (i := 6) (v := ?v6_29) rfl (by kernel_rfl) (by kernel_rfl) (by kernel_rfl) (by kernel_rfl) (fun c a w h => HQ.out c a _ _ w h) (Or.inl (And.intro (by kernel_rfl) ?q6_29)) hS0 ?r6_29; (case q6_29 => (intro w hx; have a0 := hx.at_ 2; (try dsimp only); (try go_simp); (try with_reducible rfl)))
      (try simp only [Act.put, putS])
      refine wpAnyJ_take (i := 7) (v := ?v7_30) rfl (by kernel_rfl) (by kernel_rfl) (by kernel_rfl) (by kernel_rfl) (fun c a w h => HQ.out c a _ _ w h) (Or.inl (And.intro (by kernel_rfl) ?q7_30)) hS0 ?r7_30; (case q7_30 => (intro w hx; have a0 := hx.at_ 2; (try dsimp only); (try go_simp); (try with_reducible rfl)))
      (try simp only [Act.put, putS])
      refine wpAnyJ_take (i := 8) (v := ?v8_31) rfl (by kernel_rfl) (by kernel_rfl) (by kernel_rfl) (by kernel_rfl) (fun c a w h => HQ.out c a _ _ w h) (Or.inl (And.intro (by kernel_rfl) ?q8_31)) hS0 ?r8_31; (case q8_31 => (intro w hx; have a0 := hx.at_ 2; (try dsimp only); (try go_simp); (try with_reducible rfl)))
      (try simp only [Act.put, putS])
      refine wpAnyJ_take (i := 9) (v := ?v9_32) rfl (by kernel_rfl) (by kernel_rfl) (by kernel_rfl) (by kernel_rfl) (fun c a w h => HQ.out c a _ _ w h) (Or.inl (And.intro (by kernel_rfl) ?q9_32)) hS0 ?r9_32; (case q9_32 => (intro w hx; have a0 := hx.at_ 2; (try dsimp only); (try go_simp); (try with_reducible rfl)))
      (try simp only [Act.put, putS])
      refine rJ [10] ?_
      refine (AllReadyJ.cons rfl (fun K hK => ?_) AllReadyJ.nil)
      rw [if_pos (by kernel_rfl)]
      (try simp only [putG])
      (focus go_simp)
      refine hK.out _ _ ?hs (fun hS0 => ?_)
      case hs => (first | with_reducible exact hS0 | with_reducible exact Cells.drew (Cells.other BX.out hne _ _) | with_reducible exact Cells.drew (Cells.other (Cells.other BX.out hne _ _) hne _ _) | with_reducible exact Cells.other hS0 hne _ _)
      clear hK K
      (try simp only [Act.put, putS])
      refine wpAnyJ_take (i := 11) (v := ?v11_33) rfl (by kernel_rfl) (by kernel_rfl) (by kernel_rfl) (by kernel_rfl) (fun c a w h => HQ.out c a _ _ w h) (Or.inl (And.intro (by kernel_rfl) ?q11_33)) hS0 ?r11_33; (case q11_33 => (intro w hx; have a0 := hx.at_ 2; (try dsimp only); (try go_simp); (try with_reducible rfl)))
      (try simp only [Act.put, putS])
      refine rJ [12] ?_
      refine (AllReadyJ.cons rfl (fun K hK => ?_) AllReadyJ.nil)
      rw [if_pos (by kernel_rfl)]
      (try simp only [putG])
      (focus go_simp)
      refine hK.out _ _ ?hs (fun hS0 => ?_)
      case hs => (first | with_reducible exact hS0 | with_reducible exact Cells.drew (Cells.other BX.out hne _ _) | with_reducible exact Cells.drew (Cells.other (Cells.other BX.out hne _ _) hne _ _) | with_reducible exact Cells.other hS0 hne _ _)
      clear hK K
      (try simp only [Act.put, putS])
      refine wpAnyJ_done (by kernel_rfl) ?_ _
    go_wp2_with fail
    have hp := HP.out
    have zz := zeroed2 (k := q2) BY.out (by omega)
    rw [← hp.1] at zz
    refine HG.out _ _ _ _ _ _ _ _ _ _ _ _ _ _ _ _ _ _ _ _ _ _ _ _ _ _ _ _ _ _ _ _ _ _ _ _ _ _ _ _ _ _ _ _ _ _ _ _ _ _ _ ?_ ?_ ?_
    · exact Below.drew (Below.setCell (Below.setCell (bstep HB.out bb) (p := ⟨B, q2, none⟩) hp.2.2.2 (.int .u8 0)) (p := ⟨B, p1, none⟩) hp.2.2.2 (.int .u8 0))
    · rw [← hp.1]; exact zz
    · exact Cells.drew (Cells.other (Cells.other BX.out hne _ _) hne _ _)
  all_goals
    rw [gf] at HG
    conv => arg 2; whnf
    go_wp2_with (go_at_call 18; (with_reducible refine (C1.out _).mono ?_); rintro e w1 ⟨rfl, b1⟩; have bb := bstep (by assumption : Below wr.heap.size wr _) b1; clear b1)
    refine HG.out _ _ _ _ _ _ _ _ _ _ _ _ _ _ _ _ _ _ _ _ _ _ _ _ _ _ _ _ _ _ _ _ _ _ _ _ _ _ _ _ _ _ _ _ _ _ _ _ _ _ _ (bstep HB.out bb) (HBY.out.below bb) (Cells.below bb HX.out)
set_option maxRecDepth 1000000 in
set_option maxHeartbeats 16000000 in
theorem pl_r3 (w0 : World) (n cap B X q0 q1 q2 : Nat) (k : Int) (d : ByteArray) (l : List UInt8) (T : TypeId) (u0 u1 u2 u3 u8 u9 u10 u11 u12 u13 u14 u15 u16 u17 u18 u19 u20 u21 u22 u23 u24 u25 u26 u27 u28 u29 u30 u31 u32 u33 u34 u35 u36 u37 u38 u39 u40 u41 u42 u43 u44 u45 u46 u47 u48 u49 u50 u51 u52 u53 u54 u55 u56 u57 u58 u59 u60 u61 u62 u63 u64 u65 u66 u67 u68 u69 u70 u71 u72 u73 u74 u75 u76 u77 u78 u79 u80 u81 u82 u83 u84 u85 : Value) (wr : World) (K : Act → World → Prop) (Q : Exit → Act → World → Prop)
    (hn : n = l.length) (hn2 : (n : Int) ≤ 140737488351232) (hk : decide (0 < k) = false) (hX : Cells wr X #[.int .i64 (q0 : Int), .int .i64 (q1 : Int), .int .i64 (q2 : Int)] T) (hB : Bytes wr B l) (hne : X ≠ B) (h0 : w0.heap.size ≤ B) (hb : Below w0.heap.size w0 wr)
    (c1 : ∀ W, Calls Tryz.prog 18 #[.string d] W (Ret (.int .i64 k) W))
    (hQ : ∀ c a d v w, Q (.panic c) (a.put (some d) v) w → Q (.panic c) a w)
    (hgo : ∀ (u34 u35 u36 u37 u38 u39 u40 u41 u42 u43 u44 u45 u46 u47 u48 u49 u50 u51 u52 u53 u54 u55 u56 u57 u58 u59 u60 u61 u62 u63 u64 u65 u66 u67 u68 u69 u70 u71 u72 u73 u74 u75 u76 u77 u78 u79 u80 u81 u82 u83 : Value) wx, Below w0.heap.size w0 wx → Bytes wx B l → Cells wx X #[.int .i64 (q0 : Int), .int .i64 (q1 : Int), .int .i64 (q2 : Int)] T → K ⟨#[u0, u1, u2, u3, .slice (some ⟨B, 0, none⟩) n cap, .string d, .pointer (some ⟨X, 0, none⟩), .int .i64 3, u8, u9, u10, u11, u12, u13, u14, u15, u16, u17, u18, u19, u20, u21, u22, u23, u24, u25, u26, u27, u28, u29, u30, u31, u32, u33, u34, u35, u36, u37, u38, u39, u40, u41, u42, u43, u44, u45, u46, u47, u48, u49, u50, u51, u52, u53, u54, u55, u56, u57, u58, u59, u60, u61, u62, u63, u64, u65, u66, u67, u68, u69, u70, u71, u72, u73, u74, u75, u76, u77, u78, u79, u80, u81, u82, u83, u84, u85], []⟩ wx) :
    Code.wp Tryz.prog plainBody (Exit.then K Q) ⟨#[u0, u1, u2, u3, .slice (some ⟨B, 0, none⟩) n cap, .string d, .pointer (some ⟨X, 0, none⟩), .int .i64 2, u8, u9, u10, u11, u12, u13, u14, u15, u16, u17, u18, u19, u20, u21, u22, u23, u24, u25, u26, u27, u28, u29, u30, u31, u32, u33, u34, u35, u36, u37, u38, u39, u40, u41, u42, u43, u44, u45, u46, u47, u48, u49, u50, u51, u52, u53, u54, u55, u56, u57, u58, u59, u60, u61, u62, u63, u64, u65, u66, u67, u68, u69, u70, u71, u72, u73, u74, u75, u76, u77, u78, u79, u80, u81, u82, u83, u84, u85], []⟩ wr := by
  have HG := hide hgo; have HX := hide hX; have HQ := hide hQ; have HBY := hide hB; have HB := hide hb; have C1 := hide c1
  have bb : Below wr.heap.size wr wr := Below.refl _ _
  have x2 : ∀ W, Below wr.heap.size wr W → W.cell? ⟨X, 2, none⟩ = some (.int .i64 (q2 : Int)) := fun W h => (Cells.below h hX).at_ 2
  clear hgo hX hB hb c1 hQ hn hn2
  conv => arg 2; whnf
  go_wp2_with (go_at_call 18; (with_reducible refine (C1.out _).mono ?_); rintro e w1 ⟨rfl, b1⟩; have bb := bstep (by assumption : Below wr.heap.size wr _) b1; clear b1)
  refine HG.out _ _ _ _ _ _ _ _ _ _ _ _ _ _ _ _ _ _ _ _ _ _ _ _ _ _ _ _ _ _ _ _ _ _ _ _ _ _ _ _ _ _ _ _ _ _ _ _ _ _ _ (bstep HB.out bb) (HBY.out.below bb) (Cells.below bb HX.out)
end Go.Proofs.YtjeaknipmdfkdaaGreatDoor
end

section
/- plain walked. -/
set_option linter.unusedVariables false
set_option linter.unusedSimpArgs false
namespace Go.Proofs.YtjeaknipmdfkdaaGreatDoor
open Go.RowKit
attribute [local go_sem] Oper.semAt_some

theorem Below.put3 {w w' : World} {b : Nat} (h : Below w.heap.size w w') (hb : w.heap.size ≤ b) (x y z : Value) : Below w.heap.size w (((w'.setCell ⟨b, 8, none⟩ x).setCell ⟨b, 10, none⟩ y).setCell ⟨b, 11, none⟩ z) :=
  Below.setCell (Below.setCell (Below.setCell h (p := ⟨b, 8, none⟩) hb x) (p := ⟨b, 10, none⟩) hb y) (p := ⟨b, 11, none⟩) hb z
set_option maxRecDepth 1000000 in
set_option maxHeartbeats 16000000 in
theorem plain_go (s d : ByteArray) (o o8 k q0 q1 q2 : Nat) (y : Int) (z0 z1 z2 z3 : List UInt8) (w : World) (hs : s.size ≤ 140737488351232) (h12 : 12 ≤ s.size) (i0 : 0 < s.size) (e0 : (((s[0]'i0).toNat : Nat) : Int) = y) (eb : wrap64 (wrap64 (bits .and .u8 y 15) * 4) = (o : Int))
    (w2 : IntKind.i64.wrap ((o : Int) + 2) = (q0 : Int)) (w8 : IntKind.i64.wrap ((o : Int) + 8) = (o8 : Int)) (w10 : IntKind.i64.wrap ((o8 : Int) + 10) = (q1 : Int)) (wk : IntKind.i64.wrap ((o8 : Int) + (k : Int)) = (q2 : Int))
    (h0 : q0 + 1 < s.size) (h1 : q1 + 1 < s.size) (h2 : 0 < k → q2 + 1 < s.size) (f0 : z0 = zeroH (L s)) (f1 : z1 = fixAt z0 q0) (f2 : z2 = fixAt z1 q1) (f3 : z3 = if 0 < k then fixAt z2 q2 else z2)
    (c1 : ∀ W, Calls Tryz.prog 16 #[.string s] W (Ret (.string d) W)) (c2 : ∀ W, Calls Tryz.prog 18 #[.string d] W (Ret (.int .i64 (k : Int)) W)) :
    Calls Tryz.prog 20 #[.string s] w (Ret (.string (S z3)) w) := by
  have L0 : z0.length = s.size := by rw [f0, zero_len, L_length]
  have L1 : z1.length = s.size := by rw [f1, fixAt_len (by omega), L0]
  have L2 : z2.length = s.size := by rw [f2, fixAt_len (by omega), L1]
  have L3 : z3.length = s.size := by
    rw [f3]
    split
    · have := h2 (by assumption)
      rw [fixAt_len (by omega), L2]
    · exact L2
  have HL := hide (And.intro L0 (And.intro L1 (And.intro L2 L3)))
  have HF := hide (And.intro f0 (And.intro f1 (And.intro f2 f3)))
  have HQ := hide (And.intro h0 (And.intro h1 h2))
  clear L0 L1 L2 L3 f0 f1 f2 f3 h0 h1 h2
  obtain ⟨cap, W, hcv, hB, hb⟩ := conv_string w s
  have C1 := hide c1; have C2 := hide c2; have HB := hide hB; have HBb := hide hb; have HSS := hide hs; have H12 := hide h12
  have j1 : (8 : Int) < (s.size : Int) := by omega
  have j2 : (10 : Int) < (s.size : Int) := by omega
  have j3 : (11 : Int) < (s.size : Int) := by omega
  have j0 : (0 : Int) < (s.size : Int) := by omega
  have hz : (L s).length = s.size := L_length s
  have x8 := hB.cell (j := 8) (by omega)
  have x10 := hB.cell (j := 10) (by omega)
  have x11 := hB.cell (j := 11) (by omega)
  have g8 := hB.frozen (j := 8) (by omega)
  have g10 := hB.frozen (j := 10) (by omega)
  have g11 := hB.frozen (j := 11) (by omega)
  clear c1 c2 hB hb hz hs h12
  go_enter Tryz.func20, Tryz.ntmps20
  go_wp2_with fail
  (with_reducible refine (C1.out _).mono ?_)
  rintro e w1 ⟨rfl, b1⟩
  have hZ := zeroed HB.out (by rw [L_length]; exact H12.out)
  rw [← HF.out.1] at hZ
  have lB := HB.out.lt
  have b2 := Below.put3 HBb.out (Nat.le_refl _) (.int .u8 0) (.int .u8 0) (.int .u8 0)
  have hZ1 := hZ.below b1
  have lz : w.heap.size < w1.heap.size := hZ1.lt
  have b3 := bstep b2 b1
  have HZ1 := hide hZ1; have B3 := hide b3; have LZ := hide lz
  clear hZ hZ1 b2 b3 b1 lB lz x8 x10 x11 g8 g10 g11 hcv
  go_wp2_with fail
  (with_reducible refine (C2.out _).mono ?_)
  rintro e w2 ⟨rfl, b4⟩
  have hZ2 := (HZ1.out.below b4)
  have b5 := bstep B3.out b4
  have l5 := hZ2.lt
  have hX := Cells.new w2 #[.int .i64 (q0 : Int), .int .i64 (q1 : Int), .int .i64 (q2 : Int)] 105
  have hZ3 := hZ2.below (fresh_below w2 (.cells #[.int .i64 (q0 : Int), .int .i64 (q1 : Int), .int .i64 (q2 : Int)] 105))
  have b6 := bstep b5 (fresh_below w2 (.cells #[.int .i64 (q0 : Int), .int .i64 (q1 : Int), .int .i64 (q2 : Int)] 105))
  have hne : w2.heap.size ≠ w.heap.size := by omega
  have HX := hide hX; have HZ3 := hide hZ3; have B6 := hide b6; have HNE := hide hne
  clear hX hZ3 b6 hne l5 b5 hZ2 HZ1 B3 LZ b4
  go_wp2_with fail
  go_loopg [7] 3 (fun k' p wr => ((k' = 3 ∧ p = .int .i64 0 ∧ Bytes wr w.heap.size z0) ∨ (k' = 2 ∧ p = .int .i64 1 ∧ Bytes wr w.heap.size z1) ∨ (k' = 1 ∧ p = .int .i64 2 ∧ Bytes wr w.heap.size z2) ∨ (k' = 0 ∧ p = .int .i64 3 ∧ Bytes wr w.heap.size z3)) ∧ Cells wr w2.heap.size #[.int .i64 (q0 : Int), .int .i64 (q1 : Int), .int .i64 (q2 : Int)] 105 ∧ Below w.heap.size w wr)
  case atStart => exact ⟨Or.inl ⟨rfl, rfl, HZ3.out⟩, HX.out, B6.out⟩
  case round =>
    obtain ⟨⟨hk, rfl, hBy⟩ | ⟨hk, rfl, hBy⟩ | ⟨hk, rfl, hBy⟩ | ⟨hk, rfl, hBy⟩, hXc, hL⟩ := hrel
    · change Code.wp Tryz.prog plainBody (Exit.then _ _) _ _
      refine pl_r0 w s.size cap w.heap.size w2.heap.size q0 q1 q2 k d z0 105 _ _ _ _ _ _ _ _ _ _ _ _ _ _ _ _ _ _ _ _ _ _ _ _ _ _ _ _ _ _ _ _ _ _ _ _ _ _ _ _ _ _ _ _ _ _ _ _ _ _ _ _ _ _ _ _ _ _ _ _ _ _ _ _ _ _ _ _ _ _ _ _ _ _ _ _ _ _ _ _ _ _ wr _ _ HL.out.1.symm (by have := HSS.out; omega) HQ.out.1 hXc hBy HNE.out (Nat.le_refl _) hL C2.out (fun _ _ _ _ _ h => h) ?_
      intro v34 v35 v36 v37 v38 v39 v40 v41 v42 v43 v44 v45 v46 v47 v48 v49 v50 v51 v52 v53 v54 v55 v56 v57 v58 v59 v60 v61 v62 v63 v64 v65 v66 v67 v68 v69 v70 v71 v72 v73 v74 v75 v76 v77 v78 v79 v80 v81 v82 v83 wx g1 g2 g3
      rw [← HF.out.2.1] at g2
      go_step
      go_roundg (gk - 1)
      case measure => omega
      case rel => exact ⟨Or.inr (Or.inl ⟨by omega, rfl, g2⟩), g3, g1⟩
    · change Code.wp Tryz.prog plainBody (Exit.then _ _) _ _
      refine pl_r1 w s.size cap w.heap.size w2.heap.size q0 q1 q2 k d z1 105 _ _ _ _ _ _ _ _ _ _ _ _ _ _ _ _ _ _ _ _ _ _ _ _ _ _ _ _ _ _ _ _ _ _ _ _ _ _ _ _ _ _ _ _ _ _ _ _ _ _ _ _ _ _ _ _ _ _ _ _ _ _ _ _ _ _ _ _ _ _ _ _ _ _ _ _ _ _ _ _ _ _ wr _ _ HL.out.2.1.symm (by have := HSS.out; omega) HQ.out.2.1 hXc hBy HNE.out (Nat.le_refl _) hL C2.out (fun _ _ _ _ _ h => h) ?_
      intro v34 v35 v36 v37 v38 v39 v40 v41 v42 v43 v44 v45 v46 v47 v48 v49 v50 v51 v52 v53 v54 v55 v56 v57 v58 v59 v60 v61 v62 v63 v64 v65 v66 v67 v68 v69 v70 v71 v72 v73 v74 v75 v76 v77 v78 v79 v80 v81 v82 v83 wx g1 g2 g3
      rw [← HF.out.2.2.1] at g2
      go_step
      go_roundg (gk - 1)
      case measure => omega
      case rel => exact ⟨Or.inr (Or.inr (Or.inl ⟨by omega, rfl, g2⟩)), g3, g1⟩
    · change Code.wp Tryz.prog plainBody (Exit.then _ _) _ _
      have f3 := HF.out.2.2.2
      by_cases hk0 : 0 < k
      · rw [if_pos hk0] at f3
        have F3 := hide f3
        clear f3
        refine pl_r2 w s.size cap w.heap.size w2.heap.size q0 q1 q2 k d z2 105 _ _ _ _ _ _ _ _ _ _ _ _ _ _ _ _ _ _ _ _ _ _ _ _ _ _ _ _ _ _ _ _ _ _ _ _ _ _ _ _ _ _ _ _ _ _ _ _ _ _ _ _ _ _ _ _ _ _ _ _ _ _ _ _ _ _ _ _ _ _ _ _ _ _ _ _ _ _ _ _ _ _ wr _ _ HL.out.2.2.1.symm (by have := HSS.out; omega) (HQ.out.2.2 hk0) (decide_eq_true (by omega)) hXc hBy HNE.out (Nat.le_refl _) hL C2.out (fun _ _ _ _ _ h => h) ?_
        intro v34 v35 v36 v37 v38 v39 v40 v41 v42 v43 v44 v45 v46 v47 v48 v49 v50 v51 v52 v53 v54 v55 v56 v57 v58 v59 v60 v61 v62 v63 v64 v65 v66 v67 v68 v69 v70 v71 v72 v73 v74 v75 v76 v77 v78 v79 v80 v81 v82 v83 wx g1 g2 g3
        rw [← F3.out] at g2
        go_step
        go_roundg (gk - 1)
        case measure => omega
        case rel => exact ⟨Or.inr (Or.inr (Or.inr ⟨by omega, rfl, g2⟩)), g3, g1⟩
      · rw [if_neg hk0] at f3
        have F3 := hide f3
        clear f3
        refine pl_r3 w s.size cap w.heap.size w2.heap.size q0 q1 q2 k d z2 105 _ _ _ _ _ _ _ _ _ _ _ _ _ _ _ _ _ _ _ _ _ _ _ _ _ _ _ _ _ _ _ _ _ _ _ _ _ _ _ _ _ _ _ _ _ _ _ _ _ _ _ _ _ _ _ _ _ _ _ _ _ _ _ _ _ _ _ _ _ _ _ _ _ _ _ _ _ _ _ _ _ _ wr _ _ HL.out.2.2.1.symm (by have := HSS.out; omega) (decide_eq_false (by omega)) hXc hBy HNE.out (Nat.le_refl _) hL C2.out (fun _ _ _ _ _ h => h) ?_
        intro v34 v35 v36 v37 v38 v39 v40 v41 v42 v43 v44 v45 v46 v47 v48 v49 v50 v51 v52 v53 v54 v55 v56 v57 v58 v59 v60 v61 v62 v63 v64 v65 v66 v67 v68 v69 v70 v71 v72 v73 v74 v75 v76 v77 v78 v79 v80 v81 v82 v83 wx g1 g2 g3
        rw [← F3.out] at g2
        go_step
        go_roundg (gk - 1)
        case measure => omega
        case rel => exact ⟨Or.inr (Or.inr (Or.inr ⟨by omega, rfl, g2⟩)), g3, g1⟩
    · have hcw := conv_bytes wr w.heap.size cap z3 hBy
      rw [HL.out.2.2.2] at hcw
      have LL := hide hL
      clear hL hBy hXc
      go_wp2_with fail
      go_ret
      exact ⟨rfl, LL.out⟩
theorem plainW (s : ByteArray) (w : World) (hs : s.size ≤ 140737488351232) (h : PlainOk s) : Calls Tryz.prog 20 #[.string s] w (Ret (.string (plainS s)) w) := by
  obtain ⟨h8, h28, ⟨o, o1, o2, o3, o4, o5⟩, hk⟩ := h
  have r1 : (ipRest s).size ≤ s.size := by
    unfold ipRest
    split
    · rw [ByteArray.size_extract]; omega
    · exact Nat.zero_le _
  have c1 := fun W => dataE s (ipRest s) (emData s) W hs rfl h8 (by omega) rfl
  have c2 := fun W => sumInE (emData s) W (by omega)
  have hb := at_bd (L s) 0
  unfold plainS
  rw [← o2]
  generalize emSumIn (L (emData s)) = k at *
  have eb : wrap64 (wrap64 (bits .and .u8 (at_ (L s) 0) 15) * 4) = (o : Int) := by
    rw [o1]
    generalize at_ (L s) 0 = y at *
    rw [u8_and15 y hb.1 (by omega)]
    unfold wrap64
    omega
  exact plain_go s (emData s) o (o + 8) k (o + 2) (o + 18) (o + 8 + k) (at_ (L s) 0) (zeroH (L s)) (fixAt (zeroH (L s)) (o + 2)) (fixAt (fixAt (zeroH (L s)) (o + 2)) (o + 18)) _ w hs (by omega) (by omega) (by rw [getElem_L s 0 (by omega)]; rfl) eb
    (by rw [IntKind.wrap_i64]; omega) (by rw [IntKind.wrap_i64]; omega) (by rw [IntKind.wrap_i64]; omega) (by rw [IntKind.wrap_i64]; omega) (by omega) (by omega) (by omega) rfl rfl rfl rfl c1 c2
end Go.Proofs.YtjeaknipmdfkdaaGreatDoor
end
