/- Several texts of this claim, one behind the other. -/
import Derived.Test.YtilfcikhipadpaaDoorM9

section
/- rules: Add, refused; Add. -/
set_option linter.unusedVariables false
set_option linter.unusedSimpArgs false
namespace Go.Proofs.YtilfcikhipadpaaDoor
open Go.RowKit Go.Lib
attribute [local go_sem] Oper.semAt_some

set_option maxHeartbeats 4000000 in
set_option maxRecDepth 100000 in
theorem t_Add_no (w : World) (B : Nat) (o ip b : Int) (v : Value) (l : List Rule) (i : Int) (r : Rule) (h : TS w B o ip b l v) (hip : 0 ≤ ip ∧ ip ≤ 4294967295) (hr : r.Ok) (hl : l.length ≤ 1000) (rc : Int) (hrc : rc = addC o ip b l i r) (hne : rc ≠ 0) :
    Calls Tryd.prog 22 #[.pointer (some ⟨B, 0, none⟩), .int .i64 i, .agg r.cells] w (Ret (.int .i64 rc) w) := by
  obtain ⟨A, c, hv⟩ := slice_of h.row
  have c0 : ∀ W, Below w.heap.size w W → Calls Tryd.prog 30 #[.pointer (some ⟨B, 0, none⟩), .agg r.cells] W (Ret (.int .i64 (chkR ip b r)) W) := fun W hW => t_Check W B o ip b v r (Tbl.below h.tbl hW) hip hr
  have c1 : ∀ W, Below w.heap.size w W → ∀ tb rb T, Cells W tb #[.pointer (some ⟨B, 0, none⟩)] T → Cells W rb r.cells 77 → Calls Tryd.prog 31 #[v, .func (.func 32) #[] #[.pointer (some ⟨tb, 0, none⟩), .pointer (some ⟨rb, 0, none⟩)]] W (Ret (.bool (l.any fun x => clashR (wholeR o x) (wholeR o r))) W) := fun W hW tb rb T h1 h2 =>
    ContainsFuncRR (fun x => clashR (wholeR o x) (wholeR o r)) 32 #[.pointer (some ⟨tb, 0, none⟩), .pointer (some ⟨rb, 0, none⟩)] (enters_of Tryd.func32 (by kernel_rfl) rfl) v l W (RR.below h.row hW) (fun W' x _ hb => (t_Add1 W' B o ip b v x r tb rb T (Tbl.below (Tbl.below h.tbl hW) hb) (Cells.below hb h1) (Cells.below hb h2)).mono fun e w2 k => ⟨k.1, bstep hb k.2⟩) (by omega)
  have hT := h.tbl
  unfold addC at hrc
  unfold chkR at c0
  generalize mayR ip b r = m at *
  generalize (l.any fun x => clashR (wholeR o x) (wholeR o r)) = q at *
  obtain ⟨n, hnn⟩ : ∃ n, n = l.length := ⟨_, rfl⟩
  rw [hv, ← hnn] at c1 hT
  rw [← hnn] at hrc hv
  unfold Rule.cells at *
  have C1 := hide c1; have HT := hide hT; have HN := hide hne
  clear hv c1 h hr hnn hT hne hl
  cases m <;> cases q
  all_goals
    have C0 := hide c0; have HV := hide hrc
    clear c0 hrc
    try simp only [if_true, Bool.false_eq_true, if_false] at C0
    go_enter Tryd.func22, Tryd.ntmps22
    have t3 := Cells.new w #[.pointer (some ⟨B, 0, none⟩)] 57
    replace t3 := Cells.below (fresh_below (w.alloc (.cells #[.pointer (some ⟨B, 0, none⟩)] 57)) (.cells #[.int .i64 r.k, .int .u8 r.p, .int .u32 r.sa, .int .i64 r.sb, .int .u32 r.da, .int .i64 r.db, .int .u32 r.e, .int .u16 r.f, .int .u16 r.t, .int .u32 r.ia, .int .u16 r.ip] 77)) t3
    have t5 := Cells.new (w.alloc (.cells #[.pointer (some ⟨B, 0, none⟩)] 57)) #[.int .i64 r.k, .int .u8 r.p, .int .u32 r.sa, .int .i64 r.sb, .int .u32 r.da, .int .i64 r.db, .int .u32 r.e, .int .u16 r.f, .int .u16 r.t, .int .u32 r.ia, .int .u16 r.ip] 77
    have l0 : Below w.heap.size w ((w.alloc (.cells #[.pointer (some ⟨B, 0, none⟩)] 57)).alloc (.cells #[.int .i64 r.k, .int .u8 r.p, .int .u32 r.sa, .int .i64 r.sb, .int .u32 r.da, .int .i64 r.db, .int .u32 r.e, .int .u16 r.f, .int .u16 r.t, .int .u32 r.ia, .int .u16 r.ip] 77)) := bstep (fresh_below _ _) (fresh_below _ _)
    rw [World.size_alloc] at t5
    have L0 := hide l0; have T3 := hide t3; have T5 := hide t5
    clear l0 t3 t5
    go_upto_region 1 with fail
    have l0 := L0.out; have t3 := T3.out; have t5 := T5.out
    clear L0 T3 T5
    generalize ((w.alloc (.cells #[.pointer (some ⟨B, 0, none⟩)] 57)).alloc (.cells #[.int .i64 r.k, .int .u8 r.p, .int .u32 r.sa, .int .i64 r.sb, .int .u32 r.da, .int .i64 r.db, .int .u32 r.e, .int .u16 r.f, .int .u16 r.t, .int .u32 r.ia, .int .u16 r.ip] 77)) = w1 at *
    have hT1 := Cells.below l0 HT.out
    have qhT1_0 : ∀ W', Below w1.heap.size w1 W' → World.cell? W' ⟨B, 0, none⟩ = some (.bool true) := fun W' h => Cells.at_ (Cells.below h hT1) 0
    have qhT1_1 : ∀ W', Below w1.heap.size w1 W' → World.cell? W' ⟨B, 1, none⟩ = some (.int .u32 o) := fun W' h => Cells.at_ (Cells.below h hT1) 1
    have qhT1_2 : ∀ W', Below w1.heap.size w1 W' → World.cell? W' ⟨B, 2, none⟩ = some (.int .u32 ip) := fun W' h => Cells.at_ (Cells.below h hT1) 2
    have qhT1_3 : ∀ W', Below w1.heap.size w1 W' → World.cell? W' ⟨B, 3, none⟩ = some (.int .i64 b) := fun W' h => Cells.at_ (Cells.below h hT1) 3
    have qhT1_4 : ∀ W', Below w1.heap.size w1 W' → World.cell? W' ⟨B, 4, none⟩ = some (.slice A n c) := fun W' h => Cells.at_ (Cells.below h hT1) 4
    have qt3_0 : ∀ W', Below w1.heap.size w1 W' → World.cell? W' ⟨w.heap.size, 0, none⟩ = some (.pointer (some ⟨B, 0, none⟩)) := fun W' h => Cells.at_ (Cells.below h t3) 0
    have qt5_0 : ∀ W', Below w1.heap.size w1 W' → World.cell? W' ⟨w.heap.size + 1, 0, none⟩ = some (.int .i64 r.k) := fun W' h => Cells.at_ (Cells.below h t5) 0
    have qt5_1 : ∀ W', Below w1.heap.size w1 W' → World.cell? W' ⟨w.heap.size + 1, 1, none⟩ = some (.int .u8 r.p) := fun W' h => Cells.at_ (Cells.below h t5) 1
    have qt5_2 : ∀ W', Below w1.heap.size w1 W' → World.cell? W' ⟨w.heap.size + 1, 2, none⟩ = some (.int .u32 r.sa) := fun W' h => Cells.at_ (Cells.below h t5) 2
    have qt5_3 : ∀ W', Below w1.heap.size w1 W' → World.cell? W' ⟨w.heap.size + 1, 3, none⟩ = some (.int .i64 r.sb) := fun W' h => Cells.at_ (Cells.below h t5) 3
    have qt5_4 : ∀ W', Below w1.heap.size w1 W' → World.cell? W' ⟨w.heap.size + 1, 4, none⟩ = some (.int .u32 r.da) := fun W' h => Cells.at_ (Cells.below h t5) 4
    have qt5_5 : ∀ W', Below w1.heap.size w1 W' → World.cell? W' ⟨w.heap.size + 1, 5, none⟩ = some (.int .i64 r.db) := fun W' h => Cells.at_ (Cells.below h t5) 5
    have qt5_6 : ∀ W', Below w1.heap.size w1 W' → World.cell? W' ⟨w.heap.size + 1, 6, none⟩ = some (.int .u32 r.e) := fun W' h => Cells.at_ (Cells.below h t5) 6
    have qt5_7 : ∀ W', Below w1.heap.size w1 W' → World.cell? W' ⟨w.heap.size + 1, 7, none⟩ = some (.int .u16 r.f) := fun W' h => Cells.at_ (Cells.below h t5) 7
    have qt5_8 : ∀ W', Below w1.heap.size w1 W' → World.cell? W' ⟨w.heap.size + 1, 8, none⟩ = some (.int .u16 r.t) := fun W' h => Cells.at_ (Cells.below h t5) 8
    have qt5_9 : ∀ W', Below w1.heap.size w1 W' → World.cell? W' ⟨w.heap.size + 1, 9, none⟩ = some (.int .u32 r.ia) := fun W' h => Cells.at_ (Cells.below h t5) 9
    have qt5_10 : ∀ W', Below w1.heap.size w1 W' → World.cell? W' ⟨w.heap.size + 1, 10, none⟩ = some (.int .u16 r.ip) := fun W' h => Cells.at_ (Cells.below h t5) 10
    have bb : Below w1.heap.size w1 w1 := Below.refl _ _
    have bA : ∀ W o, Below w1.heap.size w1 W → Below w1.heap.size w1 (W.alloc o) := fun W o h => bstep h (fresh_below W o)
    have T3 := hide t3; have T5 := hide t5; have L0 := hide l0
    clear l0 t3 t5 hT1
    go_wp2_with (first | (go_at_call 30; (with_reducible refine (C0.out _ (bstep L0.out (by assumption))).mono ?_); rintro e2 w2 ⟨rfl, b2⟩; have b2' := bstep (by assumption : Below w1.heap.size w1 _) b2; clear b2) | (go_at_call 31; (with_reducible refine (C1.out _ (bstep L0.out (by assumption)) _ _ 57 (Cells.below (by assumption) T3.out) (Cells.below (by assumption) T5.out)).mono ?_); rintro e2 w2 ⟨rfl, b2⟩; have b2' := bstep (by assumption : Below w1.heap.size w1 _) b2; clear b2))
    all_goals
      clear qhT1_0 qhT1_1 qhT1_2 qhT1_3 qhT1_4 qt3_0 qt5_0 qt5_1 qt5_2 qt5_3 qt5_4 qt5_5 qt5_6 qt5_7 qt5_8 qt5_9 qt5_10 T3 T5 C0 C1 HT
      first
      | (exfalso; have hv := HV.out; have hn := HN.out; rw [hv] at hn; clear hv HV HN; simp at hn; omega)
      | (go_ret; refine ⟨ret_int ?_, bstep L0.out (by assumption)⟩; have hv := HV.out; have hn := HN.out; rw [hv]; clear hv HV HN hn; clear bb bA L0; first | rfl | (simp; done) | (simp; omega) | (rw [if_neg (by simp)]; (repeat (first | rw [if_pos (by omega)] | rw [if_neg (by omega)])); first | rfl | simp))

theorem t_Add (w : World) (B : Nat) (o ip b : Int) (v : Value) (l : List Rule) (i : Int) (r : Rule) (h : TS w B o ip b l v) (hip : 0 ≤ ip ∧ ip ≤ 4294967295) (hr : r.Ok) (hl : l.length ≤ 1000) :
    Calls Tryd.prog 22 #[.pointer (some ⟨B, 0, none⟩), .int .i64 i, .agg r.cells] w (Post w B o ip b v (addL o ip b l i r) (.int .i64 (addC o ip b l i r))) := by
  by_cases hz : addC o ip b l i r = 0
  · unfold addL
    rw [if_pos hz, hz]
    unfold addC at hz
    have hm : mayR ip b r = true := by
      cases e : mayR ip b r with
      | true => rfl
      | false => rw [if_pos e] at hz; cases hz
    rw [if_neg (by rw [hm]; simp)] at hz
    by_cases h1 : i < 0 ∨ (l.length : Int) < i
    · rw [if_pos h1] at hz; cases hz
    rw [if_neg h1] at hz
    by_cases h2 : 32 ≤ l.length
    · rw [if_pos h2] at hz; cases hz
    rw [if_neg h2] at hz
    by_cases h3 : (l.any fun x => clashR (wholeR o x) (wholeR o r)) = true
    · rw [if_pos h3] at hz; cases hz
    obtain ⟨k, rfl⟩ := Int.eq_ofNat_of_zero_le (show 0 ≤ i by omega)
    exact t_Add_yes w B o ip b v l k r h hip hr hm (by omega) (by omega) (by simpa using h3)
  · unfold addL
    rw [if_neg hz]
    refine (t_Add_no w B o ip b v l i r h hip hr hl _ rfl hz).mono ?_
    rintro e w' ⟨rfl, hb⟩
    exact Post.keep h hb
end Go.Proofs.YtilfcikhipadpaaDoor
end

section
/- rules: Delete, List. -/
set_option linter.unusedVariables false
set_option linter.unusedSimpArgs false
namespace Go.Proofs.YtilfcikhipadpaaDoor
open Go.RowKit Go.Lib
attribute [local go_sem] Oper.semAt_some

def delC (l : List Rule) (i : Int) : Int := if i < 0 ∨ (l.length : Int) ≤ i then 2 else 0
def delL (l : List Rule) (i : Int) : List Rule := if i < 0 ∨ (l.length : Int) ≤ i then l else l.take i.toNat ++ l.drop (i.toNat + 1)

end Go.Proofs.YtilfcikhipadpaaDoor
end
