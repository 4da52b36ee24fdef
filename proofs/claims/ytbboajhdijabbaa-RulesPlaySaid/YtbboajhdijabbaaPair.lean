/- rules: a table and the document's, side by side. -/
import Derived.Test.YtbboajhdijabbaaRule21
import Derived.Test.YtbboajhdijabbaaRdoc8
set_option linter.unusedVariables false
set_option linter.unusedSimpArgs false
namespace Go.Proofs.Ytbboajhdijabbaa
open Go.RowKit Go.Lib
attribute [local go_sem] Oper.semAt_some

/-- a table (with the rules l) and the document's (with l'), both made since w0; nothing that lay then has changed -/
structure Pair (w0 : World) (B B' : Nat) (o ip b : Int) (l l' : List Rule) (W : World) : Prop where
  both : ∃ v v', TS W B o ip b l v ∧ DS W B' o ip b l' v' ∧ (∀ g, v.ownBlock = some g → w0.heap.size ≤ g ∧ g ≠ B' ∧ v'.ownBlock ≠ some g) ∧ (∀ g, v'.ownBlock = some g → w0.heap.size ≤ g ∧ g ≠ B)
  ne : B ≠ B'
  b1 : w0.heap.size ≤ B
  b2 : w0.heap.size ≤ B'
  bw : Below w0.heap.size w0 W
theorem Pair.below {w0 W W' : World} {B B' : Nat} {o ip b : Int} {l l' : List Rule} (h : Pair w0 B B' o ip b l l' W) (k : Below W.heap.size W W') : Pair w0 B B' o ip b l l' W' := by
  obtain ⟨⟨v, v', h1, h2, h3, h4⟩, ne, b1, b2, bw⟩ := h
  exact ⟨⟨v, v', h1.below k, h2.below k, h3, h4⟩, ne, b1, b2, bstep bw k⟩
/-- what an allocation between leaves: a table that was copied -/
theorem Pair.start {w0 W1 W2 : World} {B B' : Nat} {o ip b : Int} (h : TS W1 B o ip b [] (.slice none 0 0)) (h1 : Below w0.heap.size w0 W1) (hB : w0.heap.size ≤ B) (k : DS W2 B' o ip b [] (.slice none 0 0)) (h2 : Below W1.heap.size W1 W2) (hB' : W1.heap.size ≤ B') : Pair w0 B B' o ip b [] [] W2 :=
  ⟨⟨_, _, h.below h2, k, (fun _ e => by cases e), (fun _ e => by cases e)⟩, (by have := Cells.lt h.tbl; omega), hB, Nat.le_trans h1.size hB', bstep h1 h2⟩
theorem Pair.post {w0 W W' : World} {B B' : Nat} {o ip b : Int} {l l' l1 : List Rule} {v v' : Value} {rv : Value} {e : Ending} (h1 : TS W B o ip b l v) (h2 : DS W B' o ip b l' v') (h3 : ∀ g, v.ownBlock = some g → w0.heap.size ≤ g ∧ g ≠ B' ∧ v'.ownBlock ≠ some g) (h4 : ∀ g, v'.ownBlock = some g → w0.heap.size ≤ g ∧ g ≠ B) (ne : B ≠ B') (b1 : w0.heap.size ≤ B) (b2 : w0.heap.size ≤ B') (bw : Below w0.heap.size w0 W) (k : Post W B o ip b v l1 rv e W') : e = .returned rv ∧ Pair w0 B B' o ip b l1 l' W' := by
  obtain ⟨rfl, v1, k1, k2, k3⟩ := k
  refine ⟨rfl, ⟨v1, v', k1, h2.only k2 (fun e => ?_) (fun g hg e => ?_), fun g hg => ?_, h4⟩, ne, b1, b2, bw.trans (k2.below (fun g e => ?_) bw.size)⟩
  · rcases e with e | e
    · exact ne e.symm
    · exact (h3 _ e).2.1 rfl
  · rcases e with e | e
    · exact (h4 g hg).2 e
    · exact (h3 g e).2.2 hg
  · rcases k3 g hg with q | q
    · exact h3 g q
    · refine ⟨Nat.le_trans bw.size q, ?_, fun e => ?_⟩
      · have : B' < W.heap.size := Cells.lt h2.tbl
        omega
      · have : g < W.heap.size := h2.row.row e
        omega
  · rcases e with e | e
    · rw [e]; exact b1
    · exact (h3 g e).1
theorem Pair.dpost {w0 W W' : World} {B B' : Nat} {o ip b : Int} {l l' l1 : List Rule} {v v' : Value} {rv : Value} {e : Ending} (h1 : TS W B o ip b l v) (h2 : DS W B' o ip b l' v') (h3 : ∀ g, v.ownBlock = some g → w0.heap.size ≤ g ∧ g ≠ B' ∧ v'.ownBlock ≠ some g) (h4 : ∀ g, v'.ownBlock = some g → w0.heap.size ≤ g ∧ g ≠ B) (ne : B ≠ B') (b1 : w0.heap.size ≤ B) (b2 : w0.heap.size ≤ B') (bw : Below w0.heap.size w0 W) (k : DPost W B' o ip b v' l1 rv e W') : e = .returned rv ∧ Pair w0 B B' o ip b l l1 W' := by
  obtain ⟨rfl, v1, k1, k2, k3⟩ := k
  refine ⟨rfl, ⟨v, v1, h1.only k2 (fun e => ?_) (fun g hg e => ?_), k1, fun g hg => ⟨(h3 g hg).1, (h3 g hg).2.1, fun e => ?_⟩, fun g hg => ?_⟩, ne, b1, b2, bw.trans (k2.below (fun g e => ?_) bw.size)⟩
  · rcases e with e | e
    · exact ne e
    · exact (h4 _ e).2 rfl
  · rcases e with e | e
    · exact (h3 g hg).2.1 e
    · exact (h3 g hg).2.2 e
  · rcases k3 g e with q | q
    · exact (h3 g hg).2.2 q
    · have : g < W.heap.size := h1.row.row hg
      omega
  · rcases k3 g hg with q | q
    · exact h4 g q
    · refine ⟨Nat.le_trans bw.size q, ?_⟩
      have : B < W.heap.size := Cells.lt h1.tbl
      omega
  · rcases e with e | e
    · rw [e]; exact b2
    · exact (h4 g e).1

section
variable {w0 : World} {B B' : Nat} {o ip b : Int} {l l' : List Rule}
theorem p_Add (i : Int) (r : Rule) (hip : 0 ≤ ip ∧ ip ≤ 4294967295) (hr : r.Ok) (hl : l.length ≤ 1000) (W : World) (h : Pair w0 B B' o ip b l l' W) :
    Calls Try.prog 14 #[.pointer (some ⟨B, 0, none⟩), .int .i64 i, .agg r.cells] W fun e W' => e = .returned (.int .i64 (addC o ip b l i r)) ∧ Pair w0 B B' o ip b (addL o ip b l i r) l' W' := by
  obtain ⟨⟨v, v', h1, h2, h3, h4⟩, ne, b1, b2, bw⟩ := h
  exact (t_Add W B o ip b v l i r h1 hip hr hl).mono fun e W' k => Pair.post h1 h2 h3 h4 ne b1 b2 bw k
theorem p_Delete (i : Int) (hl : l.length ≤ 1000) (W : World) (h : Pair w0 B B' o ip b l l' W) :
    Calls Try.prog 26 #[.pointer (some ⟨B, 0, none⟩), .int .i64 i] W fun e W' => e = .returned (.int .i64 (delC l i)) ∧ Pair w0 B B' o ip b (delL l i) l' W' := by
  obtain ⟨⟨v, v', h1, h2, h3, h4⟩, ne, b1, b2, bw⟩ := h
  exact (t_Delete W B o ip b v l i h1 hl).mono fun e W' k => Pair.post h1 h2 h3 h4 ne b1 b2 bw k
theorem p_DAdd (i : Int) (r : Rule) (hip : 0 ≤ ip ∧ ip ≤ 4294967295) (hr : r.Ok) (hm : ∀ x ∈ l', mayR ip b x = true) (hl : l'.length ≤ 1000) (W : World) (h : Pair w0 B B' o ip b l l' W) :
    Calls Try.prog 15 #[.pointer (some ⟨B', 0, none⟩), .int .i64 i, .agg r.cells] W fun e W' => e = .returned (.int .i64 (addC o ip b l' i r)) ∧ Pair w0 B B' o ip b l (addL o ip b l' i r) W' := by
  obtain ⟨⟨v, v', h1, h2, h3, h4⟩, ne, b1, b2, bw⟩ := h
  rw [← addD_eq hm, ← addDL_eq hm]
  exact (d_Add W B' o ip b v' l' i r h2 hip hr hl).mono fun e W' k => Pair.dpost h1 h2 h3 h4 ne b1 b2 bw k
theorem p_DDelete (i : Int) (hl : l'.length ≤ 1000) (W : World) (h : Pair w0 B B' o ip b l l' W) :
    Calls Try.prog 31 #[.pointer (some ⟨B', 0, none⟩), .int .i64 i] W fun e W' => e = .returned (.int .i64 (delC l' i)) ∧ Pair w0 B B' o ip b l (delL l' i) W' := by
  obtain ⟨⟨v, v', h1, h2, h3, h4⟩, ne, b1, b2, bw⟩ := h
  exact (d_Delete W B' o ip b v' l' i h2 hl).mono fun e W' k => Pair.dpost h1 h2 h3 h4 ne b1 b2 bw k
theorem Pair.ret {f : FuncId} {args : Array Value} {rv : Value} {W : World} (h : Pair w0 B B' o ip b l l' W) (c : Calls Try.prog f args W (Ret rv W)) : Calls Try.prog f args W fun e W' => e = .returned rv ∧ Pair w0 B B' o ip b l l' W' := c.mono fun e W' k => ⟨k.1, h.below k.2⟩
theorem p_Check (r : Rule) (hip : 0 ≤ ip ∧ ip ≤ 4294967295) (hr : r.Ok) (W : World) (h : Pair w0 B B' o ip b l l' W) :
    Calls Try.prog 12 #[.pointer (some ⟨B, 0, none⟩), .agg r.cells] W fun e W' => e = .returned (.int .i64 (chkR ip b r)) ∧ Pair w0 B B' o ip b l l' W' := by
  have hh := h; obtain ⟨⟨v, v', h1, h2, h3, h4⟩, ne, b1, b2, bw⟩ := h
  exact hh.ret (t_Check W B o ip b v r h1.tbl hip hr)
theorem p_DCheck (r : Rule) (hip : 0 ≤ ip ∧ ip ≤ 4294967295) (hr : r.Ok) (W : World) (h : Pair w0 B B' o ip b l l' W) :
    Calls Try.prog 13 #[.pointer (some ⟨B', 0, none⟩), .agg r.cells] W fun e W' => e = .returned (.int .i64 (chkR ip b r)) ∧ Pair w0 B B' o ip b l l' W' := by
  have hh := h; obtain ⟨⟨v, v', h1, h2, h3, h4⟩, ne, b1, b2, bw⟩ := h
  exact hh.ret (d_Check W B' o ip b v' r h2.tbl hip hr)
theorem p_Inner (a : Int) (hip : 0 ≤ ip ∧ ip ≤ 4294967295) (ha : 0 ≤ a ∧ a ≤ 4294967295) (W : World) (h : Pair w0 B B' o ip b l l' W) :
    Calls Try.prog 16 #[.pointer (some ⟨B, 0, none⟩), .int .u32 a] W fun e W' => e = .returned (.bool (hasP ip b a)) ∧ Pair w0 B B' o ip b l l' W' := by
  have hh := h; obtain ⟨⟨v, v', h1, h2, h3, h4⟩, ne, b1, b2, bw⟩ := h
  exact hh.ret (t_Inner W B o ip b a v h1.tbl hip ha)
theorem p_DInner (a : Int) (hip : 0 ≤ ip ∧ ip ≤ 4294967295) (ha : 0 ≤ a ∧ a ≤ 4294967295) (W : World) (h : Pair w0 B B' o ip b l l' W) :
    Calls Try.prog 17 #[.pointer (some ⟨B', 0, none⟩), .int .u32 a] W fun e W' => e = .returned (.bool (hasP ip b a)) ∧ Pair w0 B B' o ip b l l' W' := by
  have hh := h; obtain ⟨⟨v, v', h1, h2, h3, h4⟩, ne, b1, b2, bw⟩ := h
  exact hh.ret (d_Inner W B' o ip b a v' h2.tbl hip ha)
theorem p_Outer (a : Int) (hl : l.length ≤ 1000) (W : World) (h : Pair w0 B B' o ip b l l' W) :
    Calls Try.prog 18 #[.pointer (some ⟨B, 0, none⟩), .int .u32 a] W fun e W' => e = .returned (.bool (outR o l a)) ∧ Pair w0 B B' o ip b l l' W' := by
  have hh := h; obtain ⟨⟨v, v', h1, h2, h3, h4⟩, ne, b1, b2, bw⟩ := h
  exact hh.ret (t_Outer W B o ip b v l a h1 hl)
theorem p_DOuter (a : Int) (hl : l'.length ≤ 1000) (W : World) (h : Pair w0 B B' o ip b l l' W) :
    Calls Try.prog 19 #[.pointer (some ⟨B', 0, none⟩), .int .u32 a] W fun e W' => e = .returned (.bool (outR o l' a)) ∧ Pair w0 B B' o ip b l l' W' := by
  have hh := h; obtain ⟨⟨v, v', h1, h2, h3, h4⟩, ne, b1, b2, bw⟩ := h
  exact hh.ret (d_Outer W B' o ip b v' l' a h2 hl)
end
end Go.Proofs.Ytbboajhdijabbaa
