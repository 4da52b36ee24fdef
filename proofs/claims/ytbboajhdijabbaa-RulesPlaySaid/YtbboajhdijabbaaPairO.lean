/- rules: a table and the document's, side by side: in a round, of blocks that may be written. -/
import Derived.Test.YtbboajhdijabbaaPair
import Derived.Test.YtbboajhdijabbaaRlaw8
import Derived.Test.YtbboajhdijabbaaRlaw4
set_option linter.unusedVariables false
set_option linter.unusedSimpArgs false
namespace Go.Proofs.Ytbboajhdijabbaa
open Go.RowKit Go.Lib
attribute [local go_sem] Oper.semAt_some

/-- a table (with the rules l) and the document's (with l'); since w0 only blocks of F have changed; each of theirs is one of F or was made since -/
structure PairO (F : Nat → Prop) (w0 : World) (B B' : Nat) (o ip b : Int) (l l' : List Rule) (W : World) : Prop where
  both : ∃ v v', TS W B o ip b l v ∧ DS W B' o ip b l' v' ∧ (∀ g, v.ownBlock = some g → (F g ∨ w0.heap.size ≤ g) ∧ g ≠ B' ∧ v'.ownBlock ≠ some g) ∧ (∀ g, v'.ownBlock = some g → (F g ∨ w0.heap.size ≤ g) ∧ g ≠ B)
  ne : B ≠ B'
  b1 : F B ∨ w0.heap.size ≤ B
  b2 : F B' ∨ w0.heap.size ≤ B'
  bw : Only F w0 W
theorem PairO.below {F : Nat → Prop} {w0 W W' : World} {B B' : Nat} {o ip b : Int} {l l' : List Rule} (h : PairO F w0 B B' o ip b l l' W) (k : Below W.heap.size W W') : PairO F w0 B B' o ip b l l' W' := by
  obtain ⟨⟨v, v', h1, h2, h3, h4⟩, ne, b1, b2, bw⟩ := h
  exact ⟨⟨v, v', h1.below k, h2.below k, h3, h4⟩, ne, b1, b2, Only.then bw k⟩
theorem PairO.post {F : Nat → Prop} {w0 W W' : World} {B B' : Nat} {o ip b : Int} {l l' l1 : List Rule} {v v' : Value} {rv : Value} {e : Ending} (h1 : TS W B o ip b l v) (h2 : DS W B' o ip b l' v') (h3 : ∀ g, v.ownBlock = some g → (F g ∨ w0.heap.size ≤ g) ∧ g ≠ B' ∧ v'.ownBlock ≠ some g) (h4 : ∀ g, v'.ownBlock = some g → (F g ∨ w0.heap.size ≤ g) ∧ g ≠ B) (ne : B ≠ B') (b1 : F B ∨ w0.heap.size ≤ B) (b2 : F B' ∨ w0.heap.size ≤ B') (bw : Only F w0 W) (k : Post W B o ip b v l1 rv e W') : e = .returned rv ∧ PairO F w0 B B' o ip b l1 l' W' := by
  obtain ⟨rfl, v1, k1, k2, k3⟩ := k
  refine ⟨rfl, ⟨v1, v', k1, h2.only k2 (fun e => ?_) (fun g hg e => ?_), fun g hg => ?_, h4⟩, ne, b1, b2, Only.join bw k2 fun i hi e => ?_⟩
  · rcases e with e | e
    · exact ne e.symm
    · exact (h3 _ e).2.1 rfl
  · rcases e with e | e
    · exact (h4 g hg).2 e
    · exact (h3 g e).2.2 hg
  · rcases k3 g hg with q | q
    · exact h3 g q
    · refine ⟨Or.inr (Nat.le_trans bw.size q), ?_, fun e => ?_⟩
      · have : B' < W.heap.size := Cells.lt h2.tbl
        omega
      · have : g < W.heap.size := h2.row.row e
        omega
  · rcases e with e | e
    · rcases b1 with q | q
      · rw [e]; exact q
      · omega
    · rcases (h3 i e).1 with q | q
      · exact q
      · omega
theorem PairO.dpost {F : Nat → Prop} {w0 W W' : World} {B B' : Nat} {o ip b : Int} {l l' l1 : List Rule} {v v' : Value} {rv : Value} {e : Ending} (h1 : TS W B o ip b l v) (h2 : DS W B' o ip b l' v') (h3 : ∀ g, v.ownBlock = some g → (F g ∨ w0.heap.size ≤ g) ∧ g ≠ B' ∧ v'.ownBlock ≠ some g) (h4 : ∀ g, v'.ownBlock = some g → (F g ∨ w0.heap.size ≤ g) ∧ g ≠ B) (ne : B ≠ B') (b1 : F B ∨ w0.heap.size ≤ B) (b2 : F B' ∨ w0.heap.size ≤ B') (bw : Only F w0 W) (k : DPost W B' o ip b v' l1 rv e W') : e = .returned rv ∧ PairO F w0 B B' o ip b l l1 W' := by
  obtain ⟨rfl, v1, k1, k2, k3⟩ := k
  refine ⟨rfl, ⟨v, v1, h1.only k2 (fun e => ?_) (fun g hg e => ?_), k1, fun g hg => ⟨(h3 g hg).1, (h3 g hg).2.1, fun e => ?_⟩, fun g hg => ?_⟩, ne, b1, b2, Only.join bw k2 fun i hi e => ?_⟩
  · rcases e with e | e
    · exact ne e
    · exact (h4 _ e).2 rfl
  · rcases e with e | e
    · exact (h3 g hg).2.1 e
    · exact (h3 g hg).2.2 e
  · rcases k3 g e with q | q
    · exact (h3 g hg).2.2 q
    · have : g < W.heap.size := h1.row.row hg
      omega
  · rcases k3 g hg with q | q
    · exact h4 g q
    · refine ⟨Or.inr (Nat.le_trans bw.size q), ?_⟩
      have : B < W.heap.size := Cells.lt h1.tbl
      omega
  · rcases e with e | e
    · rcases b2 with q | q
      · rw [e]; exact q
      · omega
    · rcases (h4 i e).1 with q | q
      · exact q
      · omega
/-- a round's blocks: those of the two tables -/
theorem PairO.begin {w0 W W' : World} {B B' : Nat} {o ip b : Int} {l l' : List Rule} (h : Pair w0 B B' o ip b l l' W) (k : Below W.heap.size W W') : ∃ F : Nat → Prop, PairO F W' B B' o ip b l l' W' ∧ (∀ g, F g → w0.heap.size ≤ g ∧ g < W.heap.size) := by
  obtain ⟨⟨v, v', h1, h2, h3, h4⟩, ne, b1, b2, bw⟩ := h
  refine ⟨fun g => g = B ∨ g = B' ∨ v.ownBlock = some g ∨ v'.ownBlock = some g, ⟨⟨v, v', h1.below k, h2.below k, fun g hg => ⟨Or.inl (Or.inr (Or.inr (Or.inl hg))), (h3 g hg).2⟩, fun g hg => ⟨Or.inl (Or.inr (Or.inr (Or.inr hg))), (h4 g hg).2⟩⟩, ne, Or.inl (Or.inl rfl), Or.inl (Or.inr (Or.inl rfl)), Only.refl _ _⟩, fun g hg => ?_⟩
  rcases hg with rfl | rfl | hg | hg
  · exact ⟨b1, Cells.lt h1.tbl⟩
  · exact ⟨b2, Cells.lt h2.tbl⟩
  · exact ⟨(h3 g hg).1, h1.row.row hg⟩
  · exact ⟨(h4 g hg).1, h2.row.row hg⟩
theorem PairO.down {F : Nat → Prop} {w0 w1 W : World} {B B' : Nat} {o ip b : Int} {l l' : List Rule} (h : PairO F w1 B B' o ip b l l' W) (hF : ∀ g, F g → w0.heap.size ≤ g) (k : Below w0.heap.size w0 w1) : Pair w0 B B' o ip b l l' W := by
  obtain ⟨⟨v, v', h1, h2, h3, h4⟩, ne, b1, b2, bw⟩ := h
  have up : ∀ g, F g ∨ w1.heap.size ≤ g → w0.heap.size ≤ g := fun g e => by
    rcases e with e | e
    · exact hF g e
    · exact Nat.le_trans k.size e
  exact ⟨⟨v, v', h1, h2, fun g hg => ⟨up g (h3 g hg).1, (h3 g hg).2⟩, fun g hg => ⟨up g (h4 g hg).1, (h4 g hg).2⟩⟩, ne, up B b1, up B' b2, k.trans (bw.below (fun g e => hF g e) k.size)⟩
/-- a copy takes the table's place; then the old one is written, and no other -/
theorem PairO.copied {F : Nat → Prop} {w0 W W1 W2 : World} {B B' B2 : Nat} {o ip b : Int} {l l' l2 : List Rule} {v v' v2 : Value} (h1 : TS W B o ip b l v) (h2 : DS W B' o ip b l' v') (h3 : ∀ g, v.ownBlock = some g → (F g ∨ w0.heap.size ≤ g) ∧ g ≠ B' ∧ v'.ownBlock ≠ some g) (h4 : ∀ g, v'.ownBlock = some g → (F g ∨ w0.heap.size ≤ g) ∧ g ≠ B) (ne : B ≠ B') (b1 : F B ∨ w0.heap.size ≤ B) (b2 : F B' ∨ w0.heap.size ≤ B') (bw : Only F w0 W)
    (c1 : TS W1 B2 o ip b l v2) (c2 : Below W.heap.size W W1) (c3 : W.heap.size ≤ B2) (c4 : Fresh W.heap.size v2) (k : Held W1 v B o ip b l2 W2) : PairO F w0 B2 B' o ip b l l' W2 := by
  have hB : B < W.heap.size := Cells.lt h1.tbl
  have hB' : B' < W.heap.size := Cells.lt h2.tbl
  have hv : ∀ g, v.ownBlock = some g → g < W.heap.size := fun g hg => h1.row.row hg
  have hv' : ∀ g, v'.ownBlock = some g → g < W.heap.size := fun g hg => h2.row.row hg
  have hs := bw.size
  refine ⟨⟨v2, v', c1.only k.only (fun e => ?_) (fun g hg e => ?_), (h2.below c2).only k.only (fun e => ?_) (fun g hg e => ?_), fun g hg => ⟨Or.inr ?_, ?_, fun e => ?_⟩, fun g hg => ⟨(h4 g hg).1, ?_⟩⟩, ?_, Or.inr (by omega), b2, Only.join bw (Only.join (Only.of_below c2 (Nat.le_refl _)) k.only fun i hi e => e) fun i hi e => ?_⟩
  · rcases e with e | e
    · omega
    · have := hv _ e; omega
  · have := c4 g hg
    rcases e with e | e
    · omega
    · have := hv _ e; omega
  · rcases e with e | e
    · exact ne e.symm
    · exact (h3 _ e).2.1 rfl
  · rcases e with e | e
    · exact (h4 g hg).2 e
    · exact (h3 g e).2.2 hg
  · have := c4 g hg; omega
  · have := c4 g hg; omega
  · have := c4 g hg; have := hv' g e; omega
  · have := hv' g hg; omega
  · omega
  · rcases e with e | e
    · rcases b1 with q | q
      · rw [e]; exact q
      · omega
    · rcases (h3 i e).1 with q | q
      · exact q
      · omega
theorem q_alike {F : Nat → Prop} {w0 : World} {B B' : Nat} {l : List Rule} (hl : Good l) (d : Draft) (hd : d.Ok) (W : World) (h : PairO F w0 B B' 151587081 167772160 8 l l W) :
    Calls Try.prog 33 #[.pointer (some ⟨B, 0, none⟩), .pointer (some ⟨B', 0, none⟩), .agg d.cells] W fun e W' => e = .returned (.bool true) ∧ PairO F w0 B B' 151587081 167772160 8 l l W' := by
  have hh := h
  obtain ⟨⟨v, v', h1, h2, h3, h4⟩, ne, b1, b2, bw⟩ := h
  exact (l_alike W B B' l v v' h1 h2 hl.ok (by have := hl.len; omega) _ _ _ _ _ _ hd.h1 hd.h2 hd.h3 hd.h4 hd.h5).mono fun e W' k => ⟨k.1, hh.below k.2⟩

section
variable {F : Nat → Prop} {w0 : World} {B B' : Nat} {o ip b : Int} {l l' : List Rule}
theorem q_Add (i : Int) (r : Rule) (hip : 0 ≤ ip ∧ ip ≤ 4294967295) (hr : r.Ok) (hl : l.length ≤ 1000) (W : World) (h : PairO F w0 B B' o ip b l l' W) :
    Calls Try.prog 14 #[.pointer (some ⟨B, 0, none⟩), .int .i64 i, .agg r.cells] W fun e W' => e = .returned (.int .i64 (addC o ip b l i r)) ∧ PairO F w0 B B' o ip b (addL o ip b l i r) l' W' := by
  obtain ⟨⟨v, v', h1, h2, h3, h4⟩, ne, b1, b2, bw⟩ := h
  exact (t_Add W B o ip b v l i r h1 hip hr hl).mono fun e W' k => PairO.post h1 h2 h3 h4 ne b1 b2 bw k
theorem q_Delete (i : Int) (hl : l.length ≤ 1000) (W : World) (h : PairO F w0 B B' o ip b l l' W) :
    Calls Try.prog 26 #[.pointer (some ⟨B, 0, none⟩), .int .i64 i] W fun e W' => e = .returned (.int .i64 (delC l i)) ∧ PairO F w0 B B' o ip b (delL l i) l' W' := by
  obtain ⟨⟨v, v', h1, h2, h3, h4⟩, ne, b1, b2, bw⟩ := h
  exact (t_Delete W B o ip b v l i h1 hl).mono fun e W' k => PairO.post h1 h2 h3 h4 ne b1 b2 bw k
theorem q_DAdd (i : Int) (r : Rule) (hip : 0 ≤ ip ∧ ip ≤ 4294967295) (hr : r.Ok) (hm : ∀ x ∈ l', mayR ip b x = true) (hl : l'.length ≤ 1000) (W : World) (h : PairO F w0 B B' o ip b l l' W) :
    Calls Try.prog 15 #[.pointer (some ⟨B', 0, none⟩), .int .i64 i, .agg r.cells] W fun e W' => e = .returned (.int .i64 (addC o ip b l' i r)) ∧ PairO F w0 B B' o ip b l (addL o ip b l' i r) W' := by
  obtain ⟨⟨v, v', h1, h2, h3, h4⟩, ne, b1, b2, bw⟩ := h
  rw [← addD_eq hm, ← addDL_eq hm]
  exact (d_Add W B' o ip b v' l' i r h2 hip hr hl).mono fun e W' k => PairO.dpost h1 h2 h3 h4 ne b1 b2 bw k
theorem q_DDelete (i : Int) (hl : l'.length ≤ 1000) (W : World) (h : PairO F w0 B B' o ip b l l' W) :
    Calls Try.prog 31 #[.pointer (some ⟨B', 0, none⟩), .int .i64 i] W fun e W' => e = .returned (.int .i64 (delC l' i)) ∧ PairO F w0 B B' o ip b l (delL l' i) W' := by
  obtain ⟨⟨v, v', h1, h2, h3, h4⟩, ne, b1, b2, bw⟩ := h
  exact (d_Delete W B' o ip b v' l' i h2 hl).mono fun e W' k => PairO.dpost h1 h2 h3 h4 ne b1 b2 bw k
theorem PairO.ret {f : FuncId} {args : Array Value} {rv : Value} {W : World} (h : PairO F w0 B B' o ip b l l' W) (c : Calls Try.prog f args W (Ret rv W)) : Calls Try.prog f args W fun e W' => e = .returned rv ∧ PairO F w0 B B' o ip b l l' W' := c.mono fun e W' k => ⟨k.1, h.below k.2⟩
theorem q_Check (r : Rule) (hip : 0 ≤ ip ∧ ip ≤ 4294967295) (hr : r.Ok) (W : World) (h : PairO F w0 B B' o ip b l l' W) :
    Calls Try.prog 12 #[.pointer (some ⟨B, 0, none⟩), .agg r.cells] W fun e W' => e = .returned (.int .i64 (chkR ip b r)) ∧ PairO F w0 B B' o ip b l l' W' := by
  have hh := h; obtain ⟨⟨v, v', h1, h2, h3, h4⟩, ne, b1, b2, bw⟩ := h
  exact hh.ret (t_Check W B o ip b v r h1.tbl hip hr)
theorem q_DCheck (r : Rule) (hip : 0 ≤ ip ∧ ip ≤ 4294967295) (hr : r.Ok) (W : World) (h : PairO F w0 B B' o ip b l l' W) :
    Calls Try.prog 13 #[.pointer (some ⟨B', 0, none⟩), .agg r.cells] W fun e W' => e = .returned (.int .i64 (chkR ip b r)) ∧ PairO F w0 B B' o ip b l l' W' := by
  have hh := h; obtain ⟨⟨v, v', h1, h2, h3, h4⟩, ne, b1, b2, bw⟩ := h
  exact hh.ret (d_Check W B' o ip b v' r h2.tbl hip hr)
theorem q_Inner (a : Int) (hip : 0 ≤ ip ∧ ip ≤ 4294967295) (ha : 0 ≤ a ∧ a ≤ 4294967295) (W : World) (h : PairO F w0 B B' o ip b l l' W) :
    Calls Try.prog 16 #[.pointer (some ⟨B, 0, none⟩), .int .u32 a] W fun e W' => e = .returned (.bool (hasP ip b a)) ∧ PairO F w0 B B' o ip b l l' W' := by
  have hh := h; obtain ⟨⟨v, v', h1, h2, h3, h4⟩, ne, b1, b2, bw⟩ := h
  exact hh.ret (t_Inner W B o ip b a v h1.tbl hip ha)
theorem q_DInner (a : Int) (hip : 0 ≤ ip ∧ ip ≤ 4294967295) (ha : 0 ≤ a ∧ a ≤ 4294967295) (W : World) (h : PairO F w0 B B' o ip b l l' W) :
    Calls Try.prog 17 #[.pointer (some ⟨B', 0, none⟩), .int .u32 a] W fun e W' => e = .returned (.bool (hasP ip b a)) ∧ PairO F w0 B B' o ip b l l' W' := by
  have hh := h; obtain ⟨⟨v, v', h1, h2, h3, h4⟩, ne, b1, b2, bw⟩ := h
  exact hh.ret (d_Inner W B' o ip b a v' h2.tbl hip ha)
theorem q_Outer (a : Int) (hl : l.length ≤ 1000) (W : World) (h : PairO F w0 B B' o ip b l l' W) :
    Calls Try.prog 18 #[.pointer (some ⟨B, 0, none⟩), .int .u32 a] W fun e W' => e = .returned (.bool (outR o l a)) ∧ PairO F w0 B B' o ip b l l' W' := by
  have hh := h; obtain ⟨⟨v, v', h1, h2, h3, h4⟩, ne, b1, b2, bw⟩ := h
  exact hh.ret (t_Outer W B o ip b v l a h1 hl)
theorem q_DOuter (a : Int) (hl : l'.length ≤ 1000) (W : World) (h : PairO F w0 B B' o ip b l l' W) :
    Calls Try.prog 19 #[.pointer (some ⟨B', 0, none⟩), .int .u32 a] W fun e W' => e = .returned (.bool (outR o l' a)) ∧ PairO F w0 B B' o ip b l l' W' := by
  have hh := h; obtain ⟨⟨v, v', h1, h2, h3, h4⟩, ne, b1, b2, bw⟩ := h
  exact hh.ret (d_Outer W B' o ip b v' l' a h2 hl)
end
end Go.Proofs.Ytbboajhdijabbaa
