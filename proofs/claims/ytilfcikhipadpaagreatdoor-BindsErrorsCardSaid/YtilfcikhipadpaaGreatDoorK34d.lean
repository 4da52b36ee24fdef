/- Several texts of this claim, one behind the other. -/
import Derived.KernelRfl
import Derived.Test.YtilfcikhipadpaaGreatDoorK33d
import Derived.Test.YtilfcikhipadpaaGreatDoorProg
import Derived.Test.YtilfcikhipadpaaGreatDoorRows
import Derived.Deep.Upon
import Derived.Deep.CutRange
import Derived.Maps.OwnOps
import Derived.Maps.OwnSet
import Derived.Maps.StringElems

section
/- binds: the chapter's plans: bound. -/
set_option linter.unusedVariables false
namespace Go.Proofs.YtilfcikhipadpaaGreatDoor
open Go.RowKit Go.Lib
theorem rx_bound (w : World) (hT : Lasts w) : Calls Tryz.prog 9 #[] w (Ret (.bool true) w) :=
  have t : ∀ n, Rx.Ev Tryz.prog (Rx.Amb.of w) := fun n => Rx.does n (args := [.int .i64 1, .int .u8 0]) fun W h => tk_First W 1 0 (hT.below h)
  Rx.run (args := []) [t 1698, t 2403, t 2781, t 3615]
end Go.Proofs.YtilfcikhipadpaaGreatDoor
end

section
/- BindsOwn: its walk. -/
set_option linter.unusedVariables false
set_option linter.unusedSimpArgs false
namespace Go.Proofs.YtilfcikhipadpaaGreatDoor
open Go.RowKit Go.Lib Rx
/-- the rulings that came in, in all worlds behind -/
theorem rulg_at {w : World} {g of : Nat} {l : List Rulg} (h : rulgK.Has w (some ⟨g, of, none⟩) l) : RulgAt (Amb.of w) g of l := fun W hW j hj k u hu => by
  obtain ⟨g', o', e, hg, hc⟩ := (h.below hW) (by omega)
  simp only [Option.some.injEq, Addr.mk.injEq, and_true] at e
  obtain ⟨rfl, rfl⟩ := e
  exact hc j hj k u hu
theorem tabs_at {w : World} {X : Option Addr} {n c : Nat} {l : List Rulg} (hX : RealA X) (hn : n = l.length) (h : rulgK.Has w X l) (hok : ∀ d ∈ l, d.Ok) : TabsSay (Amb.of w) X n c := by
  subst hn
  rcases hX with rfl | ⟨g, of, rfl⟩
  · by_cases hl : 0 < l.length
    · obtain ⟨_, _, e, _⟩ := h hl; cases e
    · rw [show l.length = 0 by omega]; exact w_Tables0
  · exact w_Tables (rulg_at h) hok
@[reducible] def taP (t r : Nat) (rs : List Rule) : Nat × Blk := (t, taB oC ipC 8 (.slice (some ⟨r, 0, some 0⟩) rs.length 0))
@[reducible] def daP (t r : Nat) (rs : List Rule) : Nat × Blk := (t, daB oC ipC 8 (.slice (some ⟨r, 0, some 0⟩) rs.length 0))
theorem tabs_ne {A : Amb} {X : Option Addr} {n c : Nat} {rs : List Rule} (h : CallJ Tryz.prog A 14 [.slice X n c] [] 0 (.tuple #[ptr 0, ptr 1]) (bothM rs) 4) (hX : RealA X) (k : Nat) : CallJ Tryz.prog A 14 [.slice X n c] [] k (.tuple #[ptr k, ptr (1 + k)]) [taP k (2 + k) rs, daP (1 + k) (3 + k) rs, (2 + k, ruB rs), (3 + k, ruB rs)] (k + 4) := by
  have hi : inBlks 4 (bothM rs) = true := by
    simp only [inBlks, List.all_cons, List.all_nil, all_flat (p := inC 4) (f := ruL) (fun _ => rfl)]
    rfl
  have h1 : ([Value.slice X n c].all (inV 0)) = true := by rcases hX with rfl | ⟨g, of, rfl⟩ <;> rfl
  have q := CallJ.at (d := 4) (k := 0) h [] k (h1 := h1) (h4 := hi)
  have e1 : (bothM rs).map (idB (sig [] k)) = [taP k (2 + k) rs, daP (1 + k) (3 + k) rs, (2 + k, ruB rs), (3 + k, ruB rs)] := by
    simp only [List.map_cons, List.map_nil, idB, flat_id (f := ruL) (fun _ => rfl), id0, idS, idA, sig, List.getElem?_nil, List.length_nil, Nat.sub_zero, Nat.zero_add]
  have e2 : [Value.slice X n c].map (idV (sig [] k)) = [.slice X n c] := by rcases hX with rfl | ⟨g, of, rfl⟩ <;> rfl
  have e3 : idV (sig [] k) (.tuple #[ptr 0, ptr 1]) = .tuple #[ptr k, ptr (1 + k)] := by
    simp only [idV, id1, id0, idS, idA, List.map_cons, List.map_nil, sig, List.getElem?_nil, List.length_nil, Nat.sub_zero, Nat.zero_add]
  rw [e1, e2, e3] at q
  exact q
theorem tabs_nil {A : Amb} {X : Option Addr} {n c : Nat} (h : CallJ Tryz.prog A 14 [.slice X n c] [] 0 (.tuple #[ptr 0, ptr 1]) bothM0 2) (hX : RealA X) (k : Nat) : CallJ Tryz.prog A 14 [.slice X n c] [] k (.tuple #[ptr k, ptr (1 + k)]) [(k, taB oC ipC 8 (.slice none 0 0)), (1 + k, daB oC ipC 8 (.slice none 0 0))] (k + 2) := by
  have h1 : ([Value.slice X n c].all (inV 0)) = true := by rcases hX with rfl | ⟨g, of, rfl⟩ <;> rfl
  have q := CallJ.at (d := 2) (k := 0) h [] k (h1 := h1)
  have e2 : [Value.slice X n c].map (idV (sig [] k)) = [.slice X n c] := by rcases hX with rfl | ⟨g, of, rfl⟩ <;> rfl
  have e1 : bothM0.map (idB (sig [] k)) = [(k, taB oC ipC 8 (.slice none 0 0)), (1 + k, daB oC ipC 8 (.slice none 0 0))] := by
    simp only [List.map_cons, List.map_nil, idB, id0, idS, idA, sig, List.getElem?_nil, List.length_nil, Nat.sub_zero, Nat.zero_add]
  have e3 : idV (sig [] k) (.tuple #[ptr 0, ptr 1]) = .tuple #[ptr k, ptr (1 + k)] := by
    simp only [idV, id1, id0, idS, idA, List.map_cons, List.map_nil, sig, List.getElem?_nil, List.length_nil, Nat.sub_zero, Nat.zero_add]
  rw [e1, e2, e3] at q
  exact q
end Go.Proofs.YtilfcikhipadpaaGreatDoor
end

section
/- tuples.words, as the program lays it: whether a protocol is there; tuples.May. -/
set_option linter.unusedVariables false
set_option linter.unusedSimpArgs false
namespace Go.Proofs.YtilfcikhipadpaaGreatDoor
open Go.RowKit Go.Maps
attribute [local go_sem] Oper.semAt_some

/-- the protocols' words, as they lie -/
def Wds (w : World) : Prop :=
  ∃ b n, w.cell? ⟨1, 0, none⟩ = some (.map (some b)) ∧ w.ownsMap (H := Unit) Tryz.prog 5 (plainElem Tryz.prog 9) b n Rows.laid_porter_tuples_words
theorem Wds.below {w w' : World} (h : Wds w) (k : Below w.heap.size w w') : Wds w' := by
  obtain ⟨b, n, hc, es, clock, hb, hF⟩ := h
  exact ⟨b, n, cellAt k hc, es, clock, (k.block b (Array.getElem?_eq_some_iff.1 hb).1).trans hb, hF⟩
/-- one of the three -/
def isProto (p : Int) : Bool := p == 1 || (p == 6 || p == 17)
def wordB (t : Nat) : Bool := Maps.has (Rows.laid_porter_tuples_words (H := Unit)) (.int .u8 (t : Int)) == isProto t
theorem words_b : (List.range 256).all wordB = true := by kernel_rfl
/-- what a look into the words gives, in the world at hand and in all that follow -/
theorem Wds.look {w : World} (h : Wds w) : ∃ b, ∀ W, Below w.heap.size w W → W.cell? ⟨1, 0, none⟩ = some (.map (some b)) ∧
    ∀ t : Int, 0 ≤ t ∧ t ≤ 255 → ∃ v, (Instr.lookup 299 (.map (some b)) (.int .u8 t) true).run Tryz.prog W = .ok (.tuple #[v, .bool (isProto t)]) W := by
  obtain ⟨b, n, hc, es, clock, hb, hF⟩ := h
  refine ⟨b, fun W k => ⟨cellAt k hc, fun t ht => ?_⟩⟩
  have hown : W.ownsMap (H := Unit) Tryz.prog 5 (plainElem Tryz.prog 9) b n Rows.laid_porter_tuples_words := ⟨es, clock, (k.block b (Array.getElem?_eq_some_iff.1 hb).1).trans hb, hF⟩
  obtain ⟨v, ps, hrun, _⟩ := hown.look_ok (t := 299) (e := 9) (int_keyed Tryz.underlying5) Tryz.underlying299 (z := .string { data := #[] }) (by kernel_rfl) (zd := .lit (.string [])) (zp := []) (by kernel_rfl) (key := .int .u8 t) (keyOf_int_mk Tryz.underlying5 (by go_wf))
  have h1 := List.all_eq_true.1 words_b t.toNat (List.mem_range.2 (by omega))
  unfold wordB at h1
  rw [beq_iff_eq, Int.toNat_of_nonneg ht.1] at h1
  rw [h1] at hrun
  exact ⟨v, hrun⟩
/-- may a tuple be? -/
def tupMay (p b d : Int) : Bool := isProto p && (p != 1 || (b == 0 || d == 0))
set_option maxHeartbeats 2000000 in
set_option maxRecDepth 100000 in
theorem tu_May (w : World) (p a b c d : Int) (hW : Wds w) (hp : 0 ≤ p ∧ p ≤ 255) : Calls Tryz.prog 176 #[.agg #[.int .u8 p, .int .u32 a, .int .u16 b, .int .u32 c, .int .u16 d]] w (Ret (.bool (tupMay p b d)) w) := by
  obtain ⟨bm, hl⟩ := hW.look
  have HL := hide hl
  clear hW hl
  unfold tupMay
  obtain ⟨x1, q1⟩ : ∃ x1, isProto p = x1 := ⟨_, rfl⟩
  obtain ⟨x2, q2⟩ : ∃ x2, (p != 1) = x2 := ⟨_, rfl⟩
  obtain ⟨x3, q3⟩ : ∃ x3, (b == 0) = x3 := ⟨_, rfl⟩
  obtain ⟨x4, q4⟩ : ∃ x4, (d == 0) = x4 := ⟨_, rfl⟩
  rw [q1, q2, q3, q4]
  have Q1 := hide q1; have HP := hide hp
  clear q1 hp
  go_enter Tryz.func176, Tryz.ntmps176
  have d0 := Cells.new w #[.int .u8 p, .int .u32 a, .int .u16 b, .int .u32 c, .int .u16 d] 33
  have l0 : Below w.heap.size w (w.alloc (.cells #[.int .u8 p, .int .u32 a, .int .u16 b, .int .u32 c, .int .u16 d] 33)) := (fresh_below _ _)
  have L0 := hide l0; have D0 := hide d0
  clear l0 d0
  go_upto_region 1 with fail
  have l0 := L0.out; have d0 := D0.out
  clear L0 D0
  generalize (w.alloc (.cells #[.int .u8 p, .int .u32 a, .int .u16 b, .int .u32 c, .int .u16 d] 33)) = w1 at *
  obtain ⟨qd0_0, qd0_1, qd0_2, qd0_3, qd0_4⟩ := d0.q5
  have bb : Below w1.heap.size w1 w1 := Below.refl _ _
  have L0 := hide l0; have D0 := hide d0
  clear l0 d0
  obtain ⟨h1, h2⟩ := HL.out w1 L0.out
  obtain ⟨v, h3⟩ := h2 p HP.out
  rw [Q1.out] at h3
  clear h2
  cases x1
  · go_wp2_with fail
    go_ret
    exact ⟨rfl, L0.out⟩
  · cases x2
    · cases x3
      · go_wp2_with fail
        go_ret
        exact ⟨rfl, L0.out⟩
      · go_wp2_with fail
        go_ret
        exact ⟨rfl, L0.out⟩
    · go_wp2_with fail
      go_ret
      exact ⟨rfl, L0.out⟩
end Go.Proofs.YtilfcikhipadpaaGreatDoor
end

section
/- Events: fields and sums, of texts and numbers of any kind. -/
set_option linter.unusedVariables false
namespace Go.Proofs.YtilfcikhipadpaaGreatDoor
open Go.RowKit Go.Lib Rx
variable {A : Amb}
theorem b1 {x : Int} (h : 0 ≤ x ∧ x ≤ 65535) : ∀ y ∈ [x], 0 ≤ y ∧ y ≤ 65535 := fun y hy => by rcases List.mem_singleton.1 hy with rfl; exact h
theorem b2 {x z : Int} (h : 0 ≤ x ∧ x ≤ 65535) (k : 0 ≤ z ∧ z ≤ 65535) : ∀ y ∈ [x, z], 0 ≤ y ∧ y ≤ 65535 := fun y hy => by
  rcases List.mem_cons.1 hy with rfl | hy
  · exact h
  · rcases List.mem_singleton.1 hy with rfl; exact k
theorem ex_le {s : ByteArray} {a b N : Nat} (h : s.size ≤ N) : (s.extract a b).size ≤ N := by rw [ByteArray.size_extract]; omega
def p32E (n : Nat) (x : Int) (h : 0 ≤ x ∧ x ≤ 4294967295 := by as_aux_lemma => first | exact get32_bd _ _ | omega) : Ev Tryz.prog A := does n (f := 196) (args := [.int .u32 x]) (v := .string (S (put32 x))) fun W _ => Put32 x W h.1 h.2
def witE (n : Nat) (s : ByteArray) (i : Int) (p : ByteArray) (hs : s.size ≤ 140737488351232 := by as_aux_lemma => omega) (hp : p.size ≤ 140737488351232 := by as_aux_lemma => first | omega | (refine ex_le ?_; omega) | exact Nat.le_of_ble_eq_true rfl) (h1 : -9223372036854775808 ≤ i ∧ i ≤ 9223372036854775807 := by as_aux_lemma => omega) : Ev Tryz.prog A :=
  does n (f := 167) (args := [.string s, .int .i64 i, .string p]) (v := .tuple #[.string (S (putAt (L s) i (L p))), .bool (has s.size i p.size)]) fun W _ => With s i p W hs hp h1
def worE (n id : Nat) (l : List Int) (hs : ∀ x ∈ l, 0 ≤ x ∧ x ≤ 65535 := by as_aux_lemma => (intro x hx; simp only [List.mem_cons, List.not_mem_nil, or_false] at hx; first | omega | (rcases hx with rfl | rfl <;> first | exact get16_bd _ _ | omega) | (subst hx; first | exact get16_bd _ _ | omega))) (hn : l.length ≤ 1000 := by exact Nat.le_of_ble_eq_true rfl) : Ev Tryz.prog A := wordE n id l (S (putW l)) rfl hs hn
def updQ (n : Nat) (x : Int) (a b : ByteArray) {y : Int} (e : updates x (L a) (L b) = y) (h : 0 ≤ x ∧ x ≤ 65535 := by as_aux_lemma => first | exact get16_bd _ _ | omega) (ha : a.size ≤ 140737488351232 := by as_aux_lemma => first | omega | (refine ex_le ?_; omega) | exact Nat.le_of_ble_eq_true rfl) (hc : b.size ≤ 140737488351232 := by as_aux_lemma => first | omega | (refine ex_le ?_; omega) | exact Nat.le_of_ble_eq_true rfl) : Ev Tryz.prog A :=
  does n (f := 109) (args := [.int .u16 x, .string a, .string b]) (v := .int .u16 y) fun W _ => by subst e; exact Updates x a b W h ha hc
def up1Q (n : Nat) (x a b : Int) {y : Int} (e : upd x a b = y) (h : 0 ≤ x ∧ x ≤ 65535 := by as_aux_lemma => first | exact get16_bd _ _ | omega) (ha : 0 ≤ a ∧ a ≤ 65535 := by as_aux_lemma => first | exact get16_bd _ _ | omega) (hb : 0 ≤ b ∧ b ≤ 65535 := by as_aux_lemma => first | exact get16_bd _ _ | omega) : Ev Tryz.prog A :=
  does n (f := 166) (args := [.int .u16 x, .int .u16 a, .int .u16 b]) (v := .int .u16 y) fun W _ => by subst e; exact (Update x a b W h ha hb).mono fun _ _ k => ⟨k.1, by rw [← k.2]; exact Below.refl _ _⟩
end Go.Proofs.YtilfcikhipadpaaGreatDoor
end
