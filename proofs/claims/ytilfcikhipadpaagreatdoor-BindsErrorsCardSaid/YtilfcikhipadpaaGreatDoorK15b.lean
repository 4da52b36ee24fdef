/- Several texts of this claim, one behind the other. -/
import Derived.Test.YtilfcikhipadpaaGreatDoorK14b
import Derived.Deep.RegionHeldLaw
import Derived.Deep.RegionHeld3

section
/- Sum, Holds, Update and Updates of the package sums, over this program. Conditions: texts within the form's reach. -/
set_option linter.unusedVariables false
namespace Go.Proofs.YtilfcikhipadpaaGreatDoor
open Go.RowKit Go.Shelf
attribute [local go_sem] Oper.semAt_some

set_option maxHeartbeats 2000000 in
theorem Sum (A : Option Addr) (n c : Nat) (ss : List ByteArray) (w : World) (hr : Row w w.heap.size A n (ss.map Value.string)) (hsz : ∀ s ∈ ss, s.size ≤ 140737488351232) (hn : n ≤ 9223372036854775807) :
    Calls Tryz.prog 177 #[.slice A n c] w (Ret (.int .u16 (sumL (ss.map L))) w) := by
  have hlen : ss.length = n := by simpa using hr.1
  have HN := hide hlen
  have HS := hide hsz
  clear hlen hsz
  refine (callsIn_wide (n := 3)).1 ?_
  refine callsIn_of_wp_marks Tryz.func177 rfl trivial ?_ rfl
  simp only [Tryz.ntmps177, List.size_toArray, List.length_cons, List.length_nil, Nat.reduceAdd, Nat.reduceSub, Array.replicate_succ, Array.replicate_zero, List.push_toArray, List.append_toArray, List.nil_append, List.cons_append]
  gi_wp2
  have hbox0 : Boxed (w.alloc (.cells #[.int .u16 0] 29)) w.heap.size 29 (.int .u16 (part ss 0)) := Boxed.new w _ _
  have hbel0 := fresh_below w (.cells #[.int .u16 0] 29)
  have hn1 : (n : Int) ≤ 9223372036854775807 := by omega
  refine wpIn_loop (fun a' w' => ∃ (k : Nat) (u5 u6 u10 u11 u12 u13 u14 u15 u16 u17 u18 u19 : Value) (ds : List Deferred), k ≤ n ∧ Boxed w' w.heap.size 29 (.int .u16 (part ss k)) ∧ Below w.heap.size w w' ∧ Marked (w.heap.size + 1) ds w' ∧
    a' = { tmps := #[.slice A n c, undef, .int .u16 0, .pointer (some ⟨w.heap.size, 0, none⟩), undef, u5, u6, .slice A n c, .int .i64 n, .int .i64 k, u10, u11, u12, u13, u14, u15, u16, u17, u18, u19, undef, undef], defers := ds }) (fun a' _ => n - (intOf (a'.tmps.getD 9 undef)).toNat) ?_ ?_
  · exact ⟨0, _, _, _, _, _, _, _, _, _, _, _, _, [], Nat.zero_le _, hbox0, hbel0, trivial, rfl⟩
  · rintro a' wr ⟨k, u5, u6, u10, u11, u12, u13, u14, u15, u16, u17, u18, u19, ds, hk, hbox, hbel, hmk, rfl⟩
    by_cases hlt : k < n
    · obtain ⟨b, o, rfl, hbo, hc⟩ := hr.at_ (by omega)
      have hcell : wr.cell? ⟨b, o + k, none⟩ = some (.string (ss.getD k ByteArray.empty)) := (hbel.cell (p := ⟨b, o + k, none⟩) hbo).trans (hc k _ (strs_at (by rw [HN.out]; exact hlt)))
      obtain ⟨s, hs⟩ : ∃ s, s = ss.getD k ByteArray.empty := ⟨_, rfl⟩
      rw [← hs] at hcell
      have hsz : s.size ≤ 140737488351232 := by rw [hs]; exact HS.out _ (getD_mem_s (by rw [HN.out]; exact hlt))
      have hps := part_succ ss k (by rw [HN.out]; exact hlt)
      rw [← hs] at hps
      have HP := hide hps
      clear hps hs hc
      gi_wp2_with (refine ⟨trivial, ?_⟩; gi_at_call 164; refine (callsIn_wide.2 (words_any _ _)).mono ?_; rintro e w1 ⟨rfl, rfl⟩)
      have hxB : w.heap.size < wr.heap.size := hbox.lt
      have hB0 := Boxed.new wr 9 (.string s)
      have hA0 := hbox.alloc (.cells #[.string s] 9)
      have hb0 := hbel.alloc hbel.size (.cells #[.string s] 9)
      have hm0 := hmk.below (fresh_below wr (.cells #[.string s] 9))
      have hz0 : (wr.alloc (.cells #[.string s] 9)).heap.size = wr.heap.size + 1 := by simp
      obtain ⟨p, hp⟩ : ∃ p, p = part ss k := ⟨_, rfl⟩
      have hpb := part_bd ss k
      rw [← hp] at hpb hA0
      have HPP := hide hp
      clear hp hbox hbel hmk
      generalize hB : wr.heap.size = B at *
      generalize wr.alloc (.cells #[.string s] 9) = W0 at *
      refine wpIn_rangeFunc_all (F := Fence.wide) (n := 3) (xs := words (L s)) (B := B) (w0 := W0) (encs := fun x : Int => #[.int .u16 x]) rfl (by omega) (gf := 198) (lb := #[.pointer (some ⟨B, 0, none⟩)]) rfl trivial (enters_of Tryz.func198 (by kernel_rfl) rfl)
        (words1_stops s W0 B hsz hB0) (by omega) (Below.refl _ _) (fun _ => rfl)
        (fun pre W => Boxed W w.heap.size 29 (.int .u16 (fold1 p pre)) ∧ Only (fun j => j = w.heap.size ∨ j = B) W0 W) ?hI ?hIB ⟨hA0, Only.refl _ _⟩
        (fun x => { tmps := #[.slice (some ⟨b, o, none⟩) n c, undef, .int .u16 0, .pointer (some ⟨w.heap.size, 0, none⟩), undef, .string s, .int .u16 x, .slice (some ⟨b, o, none⟩) n c, .int .i64 n, .int .i64 k, .bool true, .pointer (some ⟨b, o + k, none⟩), .string s, .string s, .func (.func 198) #[] #[.pointer (some ⟨B, 0, none⟩)], .int .u16 x, u16, u17, u18, u19, undef, undef], defers := [] }) ?assign ?body ?done
      case hI =>
        rintro pre A' C' row ⟨h1, h2⟩ hg hrow
        exact ⟨h1.kept hg (fun e => by have := (hrow _ e.symm).1; omega), h2.grown hg (fun r e => .inr (hrow r e).1)⟩
      case hIB =>
        rintro pre A' v ⟨h1, h2⟩
        exact ⟨(setCell_other A' v (by omega)).trans h1, h2.set_ v (.inl (.inr rfl))⟩
      case assign =>
        intro l x W K hK
        gi_wp2
        exact hK
      case body =>
        rintro l pre x rest W hx ⟨h1, h2⟩
        have hxb := words_bd (L s) x (by rw [hx]; simp)
        have hfb := fold1_bd pre p hpb (fun y hy => words_bd (L s) y (by rw [hx]; simp [hy]))
        have hc1 := h1.cell
        have hf1 := h1.frozen
        gi_wp2_with (refine ⟨trivial, ?_⟩; gi_at_call 200; refine (CallsIn.inRound l (callsIn_wide.2 (Add _ _ _ hfb hxb))).mono ?_; rintro e w1 ⟨rfl, rfl⟩)
        exact ⟨KeepsOthers.setCell _ _ _, setCell_other W _ (by omega), by rw [fold1_append]; exact h1.set _, h2.set_ _ (.inl (.inl rfl))⟩
      case done =>
        rintro D W hD ⟨h1, h2⟩ hDW
        rw [HPP.out, ← HP.out] at h1
        have hb1 := hb0.trans (h2.below (B := w.heap.size) (fun j hj => by omega) (by omega))
        have hm1 : Marked (w.heap.size + 1) ({ target := .collected D, args := #[] } :: ds) W := by
          refine ⟨⟨D, by omega, rfl, hDW, fun d' hd' => ?_⟩, hm0.only h2 (fun r hr => ?_)⟩
          · obtain ⟨r, e, hr⟩ := hm0.fresh d' hd'
            rw [e]
            intro e'
            injection e' with e'
            omega
          · rcases hr with rfl | rfl
            · exact boxed_not_mark hA0
            · exact boxed_not_mark hB0
        dsimp only
        gi_wp2
        exact ⟨⟨k + 1, _, _, _, _, _, _, _, _, _, _, _, _, _, by omega, h1, hb1, hm1, rfl⟩, by simp [intOf]; omega⟩
    · obtain rfl : k = n := by omega
      have hpb := part_bd ss k
      obtain ⟨p0, p1⟩ := hpb
      have hfin := part_all ss k HN.out.symm
      have HF := hide hfin
      clear hfin
      have hc1 := hbox.cell
      gi_wp2
      refine leaves_marks (B := w.heap.size + 1) hmk (fun W' hW' => ?_)
      refine ⟨_, results_tmp rfl _ _ _, ?_⟩
      exact ⟨ret_int HF.out, hbel.trans (hW'.mono (by omega))⟩

theorem sumL_bd (ls : List (List UInt8)) : 0 ≤ sumL ls ∧ sumL ls ≤ 65535 := by
  have := fold1_bd (ls.flatMap words) 0 (by omega) (flat_bd ls)
  unfold sumL; omega
/-- do texts with their sum among them come to nothing -/
def holds (ls : List (List UInt8)) : Bool := sumL ls == 0

theorem Holds (A : Option Addr) (n c : Nat) (ss : List ByteArray) (w : World) (hr : Row w w.heap.size A n (ss.map Value.string)) (hsz : ∀ s ∈ ss, s.size ≤ 140737488351232) (hn : n ≤ 9223372036854775807) :
    Calls Tryz.prog 123 #[.slice A n c] w (Ret (.bool (holds (ss.map L))) w) := by
  go_enter Tryz.func123, Tryz.ntmps123
  go_wp2_with fail
  refine (Sum A n c ss _ hr hsz hn).mono ?_
  rintro e w1 ⟨rfl, b1⟩
  go_wp2_with fail
  go_ret
  exact ⟨rfl, b1⟩

/-- a sum, a word having changed -/
def upd (n a b : Int) : Int := 65535 - add1 (add1 (65535 - n) (65535 - a)) b
theorem upd_bd {n a b : Int} (hn : 0 ≤ n ∧ n ≤ 65535) (ha : 0 ≤ a ∧ a ≤ 65535) (hb : 0 ≤ b ∧ b ≤ 65535) : 0 ≤ upd n a b ∧ upd n a b ≤ 65535 := by
  have := add1_bd (add1_bd (a := 65535 - n) (b := 65535 - a) (by omega) (by omega)) hb
  unfold upd; omega

theorem Update (n a b : Int) (w : World) (hn : 0 ≤ n ∧ n ≤ 65535) (ha : 0 ≤ a ∧ a ≤ 65535) (hb : 0 ≤ b ∧ b ≤ 65535) :
    Calls Tryz.prog 166 #[.int .u16 n, .int .u16 a, .int .u16 b] w fun e w' => e = .returned (.int .u16 (upd n a b)) ∧ w = w' := by
  obtain ⟨n0, n1⟩ := hn
  obtain ⟨a0, a1⟩ := ha
  have h1 := add1_bd (a := 65535 - n) (b := 65535 - a) (by omega) (by omega)
  have h2 := add1_bd h1 hb
  obtain ⟨p0, p1⟩ := h2
  go_enter Tryz.func166, Tryz.ntmps166
  go_wp2_with fail
  refine (Add _ _ _ (by omega) (by omega)).mono ?_
  rintro e w1 ⟨rfl, rfl⟩
  go_wp2_with fail
  refine (Add _ _ _ h1 hb).mono ?_
  rintro e w1 ⟨rfl, rfl⟩
  go_wp2_with fail
  go_ret
  exact ⟨rfl, rfl⟩

def updF (n : Int) (l : List (Int × Int)) : Int := l.foldl (fun n p => upd n p.1 p.2) n
theorem updF_bd : ∀ (l : List (Int × Int)) (n : Int), 0 ≤ n ∧ n ≤ 65535 → (∀ p ∈ l, (0 ≤ p.1 ∧ p.1 ≤ 65535) ∧ (0 ≤ p.2 ∧ p.2 ≤ 65535)) → 0 ≤ updF n l ∧ updF n l ≤ 65535
  | [], n, h, _ => h
  | p :: l, n, h, hl => updF_bd l _ (upd_bd h (hl p (by simp)).1 (hl p (by simp)).2) (fun q hq => hl q (by simp [hq]))
/-- a sum, words having changed -/
def updates (n : Int) (a b : List UInt8) : Int :=
  if a.length ≠ b.length ∨ a.length % 2 = 1 then n else updF n ((words a).zip (words b))
theorem zip_snoc : ∀ (pre : List Int) (x : Int) (wt : List Int), pre.length < wt.length → (pre ++ [x]).zip wt = pre.zip wt ++ [(x, wt.getD pre.length 0)]
  | [], x, y :: t, _ => rfl
  | p :: pre, x, y :: t, h => by
    have := zip_snoc pre x t (by simpa using h)
    simp only [List.cons_append, List.zip_cons_cons, this, List.length_cons, List.getD_cons_succ]
theorem zip_bd {a b : List UInt8} : ∀ p ∈ (words a).zip (words b), (0 ≤ p.1 ∧ p.1 ≤ 65535) ∧ (0 ≤ p.2 ∧ p.2 ≤ 65535) := fun p hp => by
  have := List.of_mem_zip (a := p.1) (b := p.2) hp
  exact ⟨words_bd a _ this.1, words_bd b _ this.2⟩
theorem even_self {l : List UInt8} (h : l.length % 2 = 0) : even l = l := by unfold even; rw [if_neg (by omega)]
theorem words_length {l : List UInt8} (h : l.length % 2 = 0) : 2 * (words l).length = l.length := by rw [← even_length, even_self h]

set_option maxHeartbeats 2000000 in
theorem Updates_no (n : Int) (a b : ByteArray) (w : World) (ha : a.size ≤ 140737488351232) (hb : b.size ≤ 140737488351232) (h : a.size ≠ b.size ∨ a.size % 2 = 1) :
    Calls Tryz.prog 109 #[.int .u16 n, .string a, .string b] w (Ret (.int .u16 n) w) := by
  refine (callsIn_wide (n := 3)).1 ?_
  refine callsIn_of_wp_marks Tryz.func109 rfl trivial ?_ rfl
  simp only [Tryz.ntmps109, List.size_toArray, List.length_cons, List.length_nil, Nat.reduceAdd, Nat.reduceSub, Array.replicate_succ, Array.replicate_zero, List.push_toArray, List.append_toArray, List.nil_append, List.cons_append]
  by_cases h1 : a.size = b.size
  · have h2 : a.size % 2 = 1 := by omega
    have q1 : (((a.size : Nat) : Int) != ((b.size : Nat) : Int)) = false := by simp [h1]
    have q2 : (((a.size : Nat) : Int) % 2 == 1) = true := by simp; omega
    clear h h1 h2
    gi_wp2
    exact ⟨_, results_tmp rfl _ _ _, rfl, ((Below.refl _ _).alloc (Nat.le_refl _) _).alloc (by simp) _⟩
  · have q1 : (((a.size : Nat) : Int) != ((b.size : Nat) : Int)) = true := by simp; omega
    clear h h1
    gi_wp2
    exact ⟨_, results_tmp rfl _ _ _, rfl, ((Below.refl _ _).alloc (Nat.le_refl _) _).alloc (by simp) _⟩

theorem upto_word {t : List UInt8} {k : Nat} (h2 : t.length % 2 = 0) (hk : k < (words t).length) : get16 t (2 * (k : Int)) = (words t).getD k 0 := by
  have h3 := words_length h2
  rw [show 2 * (k : Int) = ((2 * k : Nat) : Int) from by omega, get16_nat (by omega), ← even_word t k hk, even_self h2]

set_option maxHeartbeats 2000000 in
theorem Updates_yes (n : Int) (a b : ByteArray) (w : World) (hn : 0 ≤ n ∧ n ≤ 65535) (ha : a.size ≤ 140737488351232) (hb : b.size ≤ 140737488351232) (h1 : a.size = b.size) (h2 : a.size % 2 = 0) :
    Calls Tryz.prog 109 #[.int .u16 n, .string a, .string b] w (Ret (.int .u16 (updF n ((words (L a)).zip (words (L b))))) w) := by
  refine (callsIn_wide (n := 3)).1 ?_
  refine callsIn_of_wp_marks Tryz.func109 rfl trivial ?_ rfl
  simp only [Tryz.ntmps109, List.size_toArray, List.length_cons, List.length_nil, Nat.reduceAdd, Nat.reduceSub, Array.replicate_succ, Array.replicate_zero, List.push_toArray, List.append_toArray, List.nil_append, List.cons_append]
  have q1 : (((a.size : Nat) : Int) != ((b.size : Nat) : Int)) = false := by simp [h1]
  have q2 : (((a.size : Nat) : Int) % 2 == 1) = false := by simp; omega
  have hwl : (words (L a)).length = (words (L b)).length := by
    have e1 := words_length (l := L a) (by rw [L_length]; exact h2)
    have e2 := words_length (l := L b) (by rw [L_length]; omega)
    rw [L_length] at e1 e2
    omega
  have hbz : (L b).length % 2 = 0 := by rw [L_length]; omega
  have HWL := hide hwl; have HBZ := hide hbz; have H1 := hide h1; have H2 := hide h2; have HNB := hide hn
  clear h1 h2 hwl hbz hn
  gi_wp2_with (refine ⟨trivial, ?_⟩; gi_at_call 164; refine (callsIn_wide.2 (words_any _ _)).mono ?_; rintro e w1 ⟨rfl, rfl⟩)
  have hS : Boxed ((((w.alloc (.cells #[.int .u16 n] 29)).alloc (.cells #[.string b] 9)).alloc (.cells #[.int .i64 0] 3)).alloc (.cells #[.string a] 9)) w.heap.size 29 (.int .u16 n) :=
    (((Boxed.new w _ _).alloc _).alloc _).alloc _
  have hT : Boxed ((((w.alloc (.cells #[.int .u16 n] 29)).alloc (.cells #[.string b] 9)).alloc (.cells #[.int .i64 0] 3)).alloc (.cells #[.string a] 9)) (w.heap.size + 1) 9 (.string b) := by
    have := Boxed.new (w.alloc (.cells #[.int .u16 n] 29)) 9 (.string b)
    rw [World.size_alloc] at this
    exact (this.alloc _).alloc _
  have hA : Boxed ((((w.alloc (.cells #[.int .u16 n] 29)).alloc (.cells #[.string b] 9)).alloc (.cells #[.int .i64 0] 3)).alloc (.cells #[.string a] 9)) (w.heap.size + 1 + 1) 3 (.int .i64 0) := by
    have := Boxed.new ((w.alloc (.cells #[.int .u16 n] 29)).alloc (.cells #[.string b] 9)) 3 (.int .i64 0)
    rw [World.size_alloc, World.size_alloc] at this
    exact this.alloc _
  have hB0 : Boxed ((((w.alloc (.cells #[.int .u16 n] 29)).alloc (.cells #[.string b] 9)).alloc (.cells #[.int .i64 0] 3)).alloc (.cells #[.string a] 9)) (w.heap.size + 1 + 1 + 1) 9 (.string a) := by
    have := Boxed.new (((w.alloc (.cells #[.int .u16 n] 29)).alloc (.cells #[.string b] 9)).alloc (.cells #[.int .i64 0] 3)) 9 (.string a)
    rw [World.size_alloc, World.size_alloc, World.size_alloc] at this
    exact this
  have hz0 : ((((w.alloc (.cells #[.int .u16 n] 29)).alloc (.cells #[.string b] 9)).alloc (.cells #[.int .i64 0] 3)).alloc (.cells #[.string a] 9)).heap.size = w.heap.size + 1 + 1 + 1 + 1 := by simp
  have hb0 : Below w.heap.size w ((((w.alloc (.cells #[.int .u16 n] 29)).alloc (.cells #[.string b] 9)).alloc (.cells #[.int .i64 0] 3)).alloc (.cells #[.string a] 9)) :=
    ((((Below.refl _ _).alloc (Nat.le_refl _) _).alloc (by simp) _).alloc (by simp; omega) _).alloc (by simp; omega) _
  generalize ((((w.alloc (.cells #[.int .u16 n] 29)).alloc (.cells #[.string b] 9)).alloc (.cells #[.int .i64 0] 3)).alloc (.cells #[.string a] 9)) = W0 at *
  generalize hC : w.heap.size = C at *
  refine wpIn_rangeFunc_all (F := Fence.wide) (n := 3) (xs := words (L a)) (B := C + 1 + 1 + 1) (w0 := W0) (encs := fun x : Int => #[.int .u16 x]) rfl (by omega) (gf := 198) (lb := #[.pointer (some ⟨C + 1 + 1 + 1, 0, none⟩)]) rfl trivial (enters_of Tryz.func198 (by kernel_rfl) rfl)
    (words1_stops a W0 _ ha hB0) (by omega) (Below.refl _ _) (fun _ => rfl)
    (fun pre W => Boxed W C 29 (.int .u16 (updF n (pre.zip (words (L b))))) ∧ Boxed W (C + 1 + 1) 3 (.int .i64 (2 * (pre.length : Int))) ∧ Only (fun j => j = C ∨ j = C + 1 + 1 ∨ j = C + 1 + 1 + 1) W0 W) ?hI ?hIB ⟨hS, by simpa using hA, Only.refl _ _⟩
    (fun x => { tmps := #[.int .u16 n, .string a, .string b, .pointer (some ⟨C, 0, none⟩), undef, .pointer (some ⟨C + 1, 0, none⟩), .int .u16 0, .pointer (some ⟨C + 1 + 1, 0, none⟩), .int .u16 x, undef, undef, .string a, .int .i64 a.size, .string b, .int .i64 b.size, .bool false, .bool false, .string a, .int .i64 a.size, .int .i64 ((a.size : Int) % 2), .bool false, .bool false, undef, .string a, .func (.func 198) #[] #[.pointer (some ⟨C + 1 + 1 + 1, 0, none⟩)], .int .u16 x, undef, undef, undef, undef, undef, undef, undef, undef, undef, undef, undef, undef, undef], defers := [] }) ?assign ?body ?done
  case hI =>
    rintro pre A' C' row ⟨h1, h2, h3⟩ hg hrow
    exact ⟨h1.kept hg (fun e => by have := (hrow _ e.symm).1; omega), h2.kept hg (fun e => by have := (hrow _ e.symm).1; omega), h3.grown hg (fun r e => .inr (hrow r e).1)⟩
  case hIB =>
    rintro pre A' v ⟨h1, h2, h3⟩
    exact ⟨(setCell_other A' v (by omega)).trans h1, (setCell_other A' v (by omega)).trans h2, h3.set_ v (.inl (.inr (.inr rfl)))⟩
  case assign =>
    intro l x W K hK
    gi_wp2
    exact hK
  case body =>
    rintro l pre x rest W hx ⟨h1, h2, h3⟩
    have hxb := words_bd (L a) x (by rw [hx]; simp)
    have hpl : pre.length < (words (L b)).length := by rw [← HWL.out, hx]; simp
    have hfb : 0 ≤ updF n (pre.zip (words (L b))) ∧ updF n (pre.zip (words (L b))) ≤ 65535 := by
      refine updF_bd _ n HNB.out (fun p hp => ?_)
      have := List.of_mem_zip (a := p.1) (b := p.2) hp
      exact ⟨words_bd (L a) _ (by rw [hx]; simp [this.1]), words_bd (L b) _ this.2⟩
    have hzs := zip_snoc pre x _ hpl
    have hg := upto_word HBZ.out hpl
    have hyb := words_bd (L b) _ (getD_mem hpl)
    obtain ⟨y, hy⟩ : ∃ y, y = (words (L b)).getD pre.length 0 := ⟨_, rfl⟩
    rw [← hy] at hg hyb hzs
    obtain ⟨f, hf⟩ : ∃ f, f = updF n (pre.zip (words (L b))) := ⟨_, rfl⟩
    rw [← hf] at hfb h1
    have hend : updF n ((pre ++ [x]).zip (words (L b))) = upd f x y := by rw [hzs, hf]; simp [updF]
    have hT1 := h3.boxed hT (by omega)
    have hpm : (pre.length : Int) ≤ 70368744177664 := by
      have e2 := words_length HBZ.out
      rw [L_length] at e2
      omega
    have HG := hide hg; have HE := hide hend; have HFB := hide hfb; have HXB := hide hxb; have HYB := hide hyb
    clear hg hend hzs hy hf hfb hxb hyb hx hpl
    have hc1 := h1.cell
    have hf1 := h1.frozen
    have hc2 := h2.cell
    have hf2 := h2.frozen
    have hc3 := hT1.cell
    gi_wp2_with fail
    refine ⟨trivial, ?_⟩
    refine (CallsIn.inRound l (callsIn_wide.2 (Get16_q b _ _ (by unfold maxLen; omega) (by omega)))).mono ?_
    rintro e w1 ⟨rfl, n1, rfl⟩
    rw [HG.out]
    gi_wp2_with fail
    refine ⟨trivial, ?_⟩
    refine (CallsIn.inRound l (callsIn_wide.2 (Update _ _ _ _ HFB.out HXB.out HYB.out))).mono ?_
    rintro e w1 ⟨rfl, rfl⟩
    gi_wp2_with fail
    have k1 : KeepsOthers W ((W.setCell ⟨C, 0, none⟩ (.int .u16 (upd f x y))).setCell ⟨C + 1 + 1, 0, none⟩ (.int .i64 (2 * (pre.length : Int) + 2))) := (KeepsOthers.setCell _ _ _).trans (KeepsOthers.setCell _ _ _)
    have k3 := (h3.set_ (b := C) (.int .u16 (upd f x y)) (.inl (.inl rfl))).set_ (b := C + 1 + 1) (.int .i64 (2 * (pre.length : Int) + 2)) (.inl (.inr (.inl rfl)))
    have k4 : Boxed ((W.setCell ⟨C, 0, none⟩ (.int .u16 (upd f x y))).setCell ⟨C + 1 + 1, 0, none⟩ (.int .i64 (2 * (pre.length : Int) + 2))) C 29 (.int .u16 (upd f x y)) := (setCell_other _ _ (by omega)).trans (h1.set _)
    have k5 : Boxed ((W.setCell ⟨C, 0, none⟩ (.int .u16 (upd f x y))).setCell ⟨C + 1 + 1, 0, none⟩ (.int .i64 (2 * (pre.length : Int) + 2))) (C + 1 + 1) 3 (.int .i64 (2 * ((pre ++ [x]).length : Int))) := by
      rw [show 2 * ((pre ++ [x]).length : Int) = 2 * (pre.length : Int) + 2 from by simp; omega]
      exact Boxed.set _ ((setCell_other W _ (by omega)).trans h2)
    refine ⟨⟨k1.size, k1.same⟩, ?_, by rw [HE.out]; exact k4, k5, ⟨k3.os, k3.tape, k3.output, k3.size, k3.block⟩⟩
    exact (setCell_other _ _ (by omega)).trans (setCell_other _ _ (by omega))
  case done =>
    rintro D W hD ⟨h1, h2, h3⟩ hDW
    have hc1 := h1.cell
    have hb1 := hb0.trans (h3.below (B := C) (fun j hj => by omega) (by omega))
    dsimp only
    gi_wp2
    have hmk : Marked C [{ target := .collected D, args := #[] }] W := ⟨⟨D, by omega, rfl, hDW, fun d' hd' => by cases hd'⟩, trivial⟩
    refine leaves_marks hmk (fun W' hW' => ?_)
    exact ⟨_, results_tmp rfl _ _ _, rfl, by rw [hC]; exact hb1.trans hW'⟩

theorem Updates (n : Int) (a b : ByteArray) (w : World) (hn : 0 ≤ n ∧ n ≤ 65535) (ha : a.size ≤ 140737488351232) (hb : b.size ≤ 140737488351232) :
    Calls Tryz.prog 109 #[.int .u16 n, .string a, .string b] w (Ret (.int .u16 (updates n (L a) (L b))) w) := by
  unfold updates
  rw [L_length, L_length]
  by_cases h : a.size ≠ b.size ∨ a.size % 2 = 1
  · rw [if_pos h]; exact Updates_no n a b w ha hb h
  · rw [if_neg h]; exact Updates_yes n a b w hn ha hb (by omega) (by omega)
end Go.Proofs.YtilfcikhipadpaaGreatDoor
end

section
/- The document's answer for numbers in texts (porterref01) over this program: the same words of the base. Conditions: texts below 2^47 bytes. -/
set_option linter.unusedVariables false
namespace Go.Proofs.YtilfcikhipadpaaGreatDoor
open Go.RowKit

theorem r_there (s : ByteArray) (i many : Int) (w : World) (hs : s.size ≤ maxLen) (h1 : -9223372036854775808 ≤ i ∧ i ≤ 9223372036854775807) (h2 : 0 ≤ many ∧ many ≤ 9223372036854775807) :
    Calls Tryz.prog 203 #[.string s, .int .i64 i, .int .i64 many] w fun e w' => e = .returned (.bool (has s.size i many)) ∧ w = w' := by
  unfold maxLen at hs
  obtain ⟨h1a, h1b⟩ := h1
  obtain ⟨h2a, h2b⟩ := h2
  by_cases ha : 0 ≤ i
  · by_cases hd : i ≤ s.size - many
    · go_enter Tryz.func203, Tryz.ntmps203
      go_wp2
      go_ret
      exact ⟨ret_bool (by simp [has]; omega), rfl⟩
    · go_enter Tryz.func203, Tryz.ntmps203
      go_wp2
      go_ret
      exact ⟨ret_bool (by simp [has]; omega), rfl⟩
  · go_enter Tryz.func203, Tryz.ntmps203
    go_wp2
    go_ret
    exact ⟨ret_bool (by simp [has]; omega), rfl⟩

/-- the number of k bytes from place i on -/
def ben (l : List UInt8) (i : Nat) : Nat → Int
  | 0 => 0
  | k + 1 => ben l i k * 256 + at_ l (i + k)
theorem ben_bd (l : List UInt8) (i k : Nat) (hk : k ≤ 3) : 0 ≤ ben l i k ∧ ben l i k ≤ 16777215 := by
  have b0 := at_bd l (i + 0)
  have b1 := at_bd l (i + 1)
  have b2 := at_bd l (i + 2)
  match k, hk with
  | 0, _ => simp [ben]
  | 1, _ => simp only [ben]; omega
  | 2, _ => simp only [ben]; omega
  | 3, _ => simp only [ben]; omega
theorem ben2 (l : List UInt8) (i : Nat) : ben l i 2 = be16 l i := by simp only [ben, be16, Nat.add_zero]; omega
set_option maxHeartbeats 400000 in
theorem r_Get_in (s : ByteArray) (i n : Nat) (w : World) (hs : s.size ≤ maxLen) (hn : n ≤ 4) (h : i + n ≤ s.size) :
    Calls Tryz.prog 191 #[.string s, .int .i64 i, .int .i64 n] w fun e w' => e = .returned (.tuple #[.int .u32 (ben (L s) i n), .bool true]) ∧ w = w' := by
  have hs' := hs
  unfold maxLen at hs'
  have hx : has s.size i n = true := by simp [has]; omega
  have hw := r_there s i n w hs ⟨by omega, by omega⟩ ⟨by omega, by omega⟩
  rw [hx] at hw
  clear hx
  go_enter Tryz.func191, Tryz.ntmps191
  go_wp2_with (go_at_call 203; refine hw.mono ?_; rintro e w' ⟨rfl, rfl⟩)
  go_loop [8, 9] (fun v j => ∃ k : Nat, k ≤ n ∧ j = .int .i64 k ∧ v = .int .u32 (ben (L s) i k)) (fun _ j => n - (intOf j).toNat)
  case atStart => exact ⟨0, Nat.zero_le _, rfl, rfl⟩
  case round =>
    obtain ⟨k, hk, rfl, rfl⟩ := hrel
    by_cases hlt : k < n
    · obtain ⟨b1, b2⟩ := ben_bd (L s) i k (by omega)
      have b3 := at_bd (L s) (i + k)
      have e1 := getElem_L s (i + k) (by omega)
      have fin : ben (L s) i (k + 1) = ben (L s) i k * 256 + ((s[i + k]'(by omega)).toNat : Int) := by
        rw [e1]; rfl
      have HF := hide fin
      clear fin e1
      have c0 : (((s[i + k]'(by omega)).toNat : Nat) : Int) ≤ 255 := by have := (s[i + k]'(by omega)).toNat_lt; omega
      have c1 : i + k < s.size := by omega
      have c2 : (i : Int) + (k : Int) < (s.size : Int) := by omega
      go_wp2
      go_round
      case rel => exact ⟨k + 1, by omega, by go_num, by rw [HF.out]⟩
      case measure => simp [intOf]; omega
    · obtain rfl : k = n := by omega
      go_wp2
      go_ret2
      exact ⟨rfl, rfl⟩

theorem r_Get_out (s : ByteArray) (i n : Int) (w : World) (hs : s.size ≤ maxLen) (h1 : -9223372036854775808 ≤ i ∧ i ≤ 9223372036854775807) (h2 : 0 ≤ n ∧ n ≤ 9223372036854775807) (h : has s.size i n = false) :
    Calls Tryz.prog 191 #[.string s, .int .i64 i, .int .i64 n] w fun e w' => e = .returned (.tuple #[.int .u32 0, .bool false]) ∧ w = w' := by
  have hw := r_there s i n w hs h1 h2
  rw [h] at hw
  clear h
  go_enter Tryz.func191, Tryz.ntmps191
  go_wp2_with (go_at_call 203; refine hw.mono ?_; rintro e w' ⟨rfl, rfl⟩)
  go_ret2
  exact ⟨rfl, rfl⟩

theorem r_Get16 (s : ByteArray) (i : Int) (w : World) (hs : s.size ≤ maxLen) (h1 : -9223372036854775808 ≤ i ∧ i ≤ 9223372036854775807) :
    Calls Tryz.prog 144 #[.string s, .int .i64 i] w (Ret (.tuple #[.int .u16 (get16 (L s) i), .bool (has s.size i 2)]) w) := by
  by_cases h : has s.size i 2 = true
  · have h' := h
    simp [has] at h'
    obtain ⟨k, rfl⟩ : ∃ k : Nat, i = k := ⟨i.toNat, by omega⟩
    have h2 : k + 2 ≤ (L s).length := by rw [L_length]; omega
    obtain ⟨b1, b2⟩ := be16_bd (L s) k
    rw [get16_nat h2, h, ← ben2]
    rw [← ben2] at b1 b2
    clear h
    go_enter Tryz.func144, Tryz.ntmps144
    go_wp2_with fail
    refine (r_Get_in s k 2 _ hs (by omega) (by omega)).mono ?_
    rintro e w1 ⟨rfl, rfl⟩
    go_wp2_with fail
    go_ret2
    exact ⟨rfl, Below.refl _ _⟩
  · have h' : has s.size i 2 = false := by simpa using h
    have hg : get16 (L s) i = 0 := by unfold get16; rw [L_length, if_neg h]
    rw [hg, h']
    have hc := r_Get_out s i 2 w hs h1 ⟨by omega, by omega⟩ h'
    clear h h' hg
    go_enter Tryz.func144, Tryz.ntmps144
    go_wp2_with fail
    refine hc.mono ?_
    rintro e w1 ⟨rfl, rfl⟩
    go_wp2_with fail
    go_ret2
    exact ⟨rfl, Below.refl _ _⟩

/-- string(b), b a new row of two bytes -/
theorem conv2 (c d : Int) (w : World) : (convert 237 9 (.slice (some ⟨w.heap.size, 0, none⟩) 2 2)).run Tryz.prog (w.alloc (.cells #[.int .u8 c, .int .u8 d] 5)) =
    .ok (.string (S [byt c, byt d])) (w.alloc (.cells #[.int .u8 c, .int .u8 d] 5)) :=
  run_convert_bytes_arg (P := Tryz.prog) (w.alloc (.cells #[.int .u8 c, .int .u8 d] 5)) 237 5 Tryz.underlying237 Tryz.underlying5 w.heap.size 0 2 2 [c, d] rfl
    (fun i hi => by
      rw [Lib.cell_of_heap (heap_alloc_new w _)]
      match i, hi with
      | 0, _ => rfl
      | 1, _ => rfl) 9 Tryz.underlying9
theorem byt_mod (n : Int) (h : 0 ≤ n) : byt (n % 256) = byt n := by
  apply UInt8.toNat_inj.1
  rw [byt_toNat, byt_toNat]; omega

theorem r_Put16 (n : Int) (w : World) (h0 : 0 ≤ n) (h1 : n ≤ 65535) :
    Calls Tryz.prog 118 #[.int .u16 n] w (Ret (.string (S (put16 n))) w) := by
  have q1 : n.tdiv 256 = n / 256 := Int.tdiv_eq_ediv_of_nonneg h0
  have q2 : IntKind.u16.wrap (n / 256) = n / 256 := by rw [IntKind.wrap_u16]; omega
  have q3 : n / 256 % 256 = n / 256 := by omega
  have hc := conv2 (n / 256) (n % 256)
  go_enter Tryz.func118, Tryz.ntmps118
  go_wp2
  go_ret
  exact ⟨ret_str (by rw [byt_mod n h0]; rfl), fresh_below _ _⟩

theorem r_Put32 (n : Int) (w : World) (h0 : 0 ≤ n) (h1 : n ≤ 4294967295) :
    Calls Tryz.prog 186 #[.int .u32 n] w (Ret (.string (S (put32 n))) w) := by
  have q1 : n.tdiv 65536 = n / 65536 := Int.tdiv_eq_ediv_of_nonneg h0
  have q2 : IntKind.u32.wrap (n / 65536) = n / 65536 := by rw [IntKind.wrap_u32']; omega
  have q3 : IntKind.u16.wrap (n / 65536) = n / 65536 := by rw [IntKind.wrap_u16]; omega
  have q4 : IntKind.u16.wrap (n % 65536) = n % 65536 := by rw [IntKind.wrap_u16]; omega
  go_enter Tryz.func186, Tryz.ntmps186
  go_wp2_with fail
  refine (r_Put16 _ _ (by omega) (by omega)).mono ?_
  rintro e w1 ⟨rfl, hb1⟩
  go_wp2_with fail
  refine (r_Put16 _ _ (by omega) (by omega)).mono ?_
  rintro e w2 ⟨rfl, hb2⟩
  have hb2 := bstep hb1 hb2
  go_wp2_with fail
  go_ret
  exact ⟨ret_str (by rw [S_append]; rfl), hb2⟩

set_option maxHeartbeats 400000 in
theorem r_Word (A : Option Addr) (n c : Nat) (l : List Int) (w : World) (hr : Row w w.heap.size A n (ints16 l)) (hb : ∀ x ∈ l, 0 ≤ x ∧ x ≤ 65535) (hn : n ≤ 17592186044416) :
    Calls Tryz.prog 171 #[.slice A n c] w (Ret (.string (S (putW l))) w) := by
  have hl : l.length = n := by simpa [ints16] using hr.1
  have HB := hide hb
  have HL := hide hl
  clear hb hl
  have hn1 : n ≤ 9223372036854775807 := by omega
  go_enter Tryz.func171, Tryz.ntmps171
  go_wp2
  go_loopw [3, 4] (fun v i wr => ∃ k : Nat, k ≤ n ∧ i = .int .i64 k ∧ v = .string (S (putW (l.take k))) ∧ Below w.heap.size w wr) (fun _ i _ => n - (intOf i).toNat)
  case atStart => exact ⟨0, Nat.zero_le _, rfl, rfl, Below.refl _ _⟩
  case round =>
    obtain ⟨k, hk, rfl, rfl, hbl⟩ := hrel
    by_cases hlt : k < n
    · obtain ⟨b, o, rfl, hbo, hc⟩ := hr.at_ (by omega)
      have hcell : wr.cell? ⟨b, o + k, none⟩ = some (.int .u16 (l.getD k 0)) := (hbl.cell (p := ⟨b, o + k, none⟩) hbo).trans (hc k _ (ints16_at (by rw [HL.out]; exact hlt)))
      obtain ⟨x, hx⟩ : ∃ x, x = l.getD k 0 := ⟨_, rfl⟩
      rw [← hx] at hcell
      have hxb : 0 ≤ x ∧ x ≤ 65535 := by rw [hx]; exact HB.out _ (getD_mem (by rw [HL.out]; exact hlt))
      obtain ⟨hx0, hx1⟩ := hxb
      have HX := hide hx
      clear hx hc
      go_wp2_with fail
      refine (r_Put16 _ _ (by omega) (by omega)).mono ?_
      rintro e w1 ⟨rfl, hb1⟩
      have hb1 := bstep hbl hb1
      have z1 : (S (putW (l.take k))).size ≤ 35184372088832 := by rw [S_size, putW_length, List.length_take]; omega
      have z2 : (S (put16 x)).size ≤ 2 := by rw [S_size, put16_length]; omega
      go_wp2_with fail
      go_roundw
      case rel => exact ⟨k + 1, by omega, by go_num, v_str (by rw [S_append, take_snoc_int l k (by rw [HL.out]; exact hlt), putW_append, ← HX.out]; simp [putW]), hb1⟩
      case measure => simp [intOf]; omega
    · obtain rfl : k = n := by omega
      have e1 : l.take k = l := List.take_of_length_le (by rw [HL.out]; exact Nat.le_refl _)
      have E1 := hide e1
      clear e1
      go_wp2_with fail
      go_ret
      exact ⟨ret_str (by rw [E1.out]), hbl⟩

end Go.Proofs.YtilfcikhipadpaaGreatDoor
end

section
/- The document's answer for sums (porterref02) over this program: the same words as the package's. -/
set_option linter.unusedVariables false
namespace Go.Proofs.YtilfcikhipadpaaGreatDoor
open Go.RowKit

theorem r_Add (a b : Int) (w : World) (ha : 0 ≤ a ∧ a ≤ 65535) (hb : 0 ≤ b ∧ b ≤ 65535) :
    Calls Tryz.prog 185 #[.int .u16 a, .int .u16 b] w fun e w' => e = .returned (.int .u16 (add1 a b)) ∧ w = w' := by
  obtain ⟨a0, a1⟩ := ha
  obtain ⟨b0, b1⟩ := hb
  by_cases h : 65535 < a + b
  · go_enter Tryz.func185, Tryz.ntmps185
    go_wp2
    go_ret
    exact ⟨ret_int (by unfold add1; rw [if_pos h]), rfl⟩
  · go_enter Tryz.func185, Tryz.ntmps185
    go_wp2
    go_ret
    exact ⟨ret_int (by unfold add1; rw [if_neg (by omega)]), rfl⟩

theorem word_len (l : List UInt8) (k : Nat) : k < (words l).length ↔ 2 * k < l.length := by
  have h := even_length l
  unfold even at h
  split at h
  · rw [List.length_append] at h; simp at h; omega
  · omega
theorem word_zero {l : List UInt8} {k : Nat} (hk : k < (words l).length) : get16 (l ++ [0]) (2 * (k : Int)) = (words l).getD k 0 := by
  have h2 := (word_len l k).1 hk
  rw [show 2 * (k : Int) = ((2 * k : Nat) : Int) from by omega, get16_nat (by simp; omega), ← even_word l k hk]
  unfold even
  split
  · rfl
  · rw [be16_left (by omega)]

theorem r_WordAt (s : ByteArray) (k : Nat) (w : World) (hs : s.size ≤ 140737488351232) (hk : k < (words (L s)).length) :
    Calls Tryz.prog 174 #[.string s, .int .i64 (2 * (k : Int))] w (Ret (.int .u16 ((words (L s)).getD k 0)) w) := by
  have h2 := (word_len (L s) k).1 hk
  rw [L_length] at h2
  have hz : (s ++ { data := #[0] }).size = s.size + 1 := by rw [ByteArray.size_append]; rfl
  have hl : L (s ++ { data := #[0] }) = L s ++ [0] := by rw [L_append]; rfl
  have hh : has (s ++ { data := #[0] }).size (2 * (k : Int)) 2 = true := has_true (by omega) (by rw [hz]; omega)
  have c1 := fun w => r_Get16 (s ++ { data := #[0] }) (2 * (k : Int)) w (by rw [hz]; unfold maxLen; omega) (by omega)
  rw [hh, hl, word_zero hk] at c1
  obtain ⟨x, hx⟩ : ∃ x, x = (words (L s)).getD k 0 := ⟨_, rfl⟩
  rw [← hx] at c1 ⊢
  have C1 := hide c1
  clear c1 hh hl hz hx
  go_enter Tryz.func174, Tryz.ntmps174
  go_wp2_with fail
  refine (C1.out _).mono ?_
  rintro e w1 ⟨rfl, b1⟩
  go_wp2_with fail
  go_ret
  exact ⟨rfl, b1⟩

set_option maxHeartbeats 2000000 in
theorem r_Sum (A : Option Addr) (n c : Nat) (ss : List ByteArray) (w : World) (hr : Row w w.heap.size A n (ss.map Value.string)) (hsz : ∀ s ∈ ss, s.size ≤ 140737488351232) (hn : n ≤ 9223372036854775807) :
    Calls Tryz.prog 129 #[.slice A n c] w (Ret (.int .u16 (sumL (ss.map L))) w) := by
  have hlen : ss.length = n := by simpa using hr.1
  have HN := hide hlen
  have HS := hide hsz
  clear hlen hsz
  go_enter Tryz.func129, Tryz.ntmps129
  go_wp2
  go_loopw [3, 4] (fun v i wr => ∃ k : Nat, k ≤ n ∧ i = .int .i64 k ∧ v = .int .u16 (part ss k) ∧ Below w.heap.size w wr) (fun _ i _ => n - (intOf i).toNat)
  case atStart => exact ⟨0, Nat.zero_le _, rfl, rfl, Below.refl _ _⟩
  case round =>
    obtain ⟨k, hk, rfl, rfl, hbel⟩ := hrel
    obtain ⟨p0, p1⟩ := part_bd ss k
    by_cases hlt : k < n
    · obtain ⟨b, o, rfl, hbo, hc⟩ := hr.at_ (by omega)
      obtain ⟨s, hs⟩ : ∃ s, s = ss.getD k ByteArray.empty := ⟨_, rfl⟩
      have hcs := hc k _ (strs_at (by rw [HN.out]; exact hlt))
      rw [← hs] at hcs
      have hsz : s.size ≤ 140737488351232 := by rw [hs]; exact HS.out _ (getD_mem_s (by rw [HN.out]; exact hlt))
      have hps := part_succ ss k (by rw [HN.out]; exact hlt)
      rw [← hs] at hps
      have HP := hide hps
      have HC := hide hcs
      clear hps hs hc hcs
      obtain ⟨wo, rfl⟩ : ∃ wo : World, wo = wr := ⟨_, rfl⟩
      go_wp2_with fail
      go_loopw [3, 5] (fun v i wr => ∃ j : Nat, j ≤ (words (L s)).length ∧ i = .int .i64 (2 * (j : Int)) ∧ v = .int .u16 (fold1 (part ss k) ((words (L s)).take j)) ∧ Below w.heap.size w wr) (fun _ i _ => s.size + 2 - (intOf i).toNat)
      case atStart => exact ⟨0, Nat.zero_le _, rfl, rfl, hbel⟩
      case round =>
        obtain ⟨j, hj, rfl, rfl, hbj⟩ := hrel
        have hcell : wr.cell? ⟨b, o + k, none⟩ = some (.string s) := (hbj.cell (p := ⟨b, o + k, none⟩) hbo).trans HC.out
        have hwl := word_len (L s) j
        rw [L_length] at hwl
        by_cases hjl : j < (words (L s)).length
        · have h2 := hwl.1 hjl
          have hfb := fold1_bd ((words (L s)).take j) (part ss k) ⟨p0, p1⟩ (fun x hx => words_bd _ x (List.mem_of_mem_take hx))
          have hxb := words_bd (L s) _ (getD_mem hjl)
          have hsn := take_snoc_int (words (L s)) j hjl
          have c1 := fun w => r_WordAt s j w hsz hjl
          obtain ⟨x, hx⟩ : ∃ x, x = (words (L s)).getD j 0 := ⟨_, rfl⟩
          obtain ⟨f, hf⟩ : ∃ f, f = fold1 (part ss k) ((words (L s)).take j) := ⟨_, rfl⟩
          have hend : fold1 (part ss k) ((words (L s)).take (j + 1)) = add1 f x := by rw [hsn, fold1_append, hf, hx]; rfl
          rw [← hx] at c1 hxb
          rw [← hf] at hfb ⊢
          have HE := hide hend; have C1 := hide c1; have HF := hide hfb; have HX := hide hxb
          clear hwl hsn hend c1 hx hf hfb hxb
          go_wp2_with fail
          refine (C1.out _).mono ?_
          rintro e w1 ⟨rfl, b1⟩
          replace b1 := bstep hbj b1
          go_wp2_with fail
          refine (r_Add _ _ _ HF.out HX.out).mono ?_
          rintro e w2 ⟨rfl, rfl⟩
          go_wp2_with fail
          go_roundw
          case rel => exact ⟨j + 1, by omega, by go_num, v_int HE.out.symm, b1⟩
          case measure => simp [intOf]; omega
        · obtain rfl : j = (words (L s)).length := by omega
          have h2 : ¬ 2 * (words (L s)).length < s.size := fun h => hjl (hwl.2 h)
          have e : (words (L s)).take (words (L s)).length = words (L s) := List.take_length
          have E := hide e
          clear hwl e
          go_wp2_with fail
          go_roundw
          case rel => exact ⟨k + 1, by omega, by go_num, v_int (by rw [HP.out, E.out]), hbj⟩
          case measure => simp [intOf]; omega
    · obtain rfl : k = n := by omega
      have hfin := part_all ss k HN.out.symm
      have HF := hide hfin
      clear hfin
      go_wp2_with fail
      go_ret
      exact ⟨ret_int HF.out, hbel⟩

end Go.Proofs.YtilfcikhipadpaaGreatDoor
end

section
/- The document's answer for udp (porterref05) over this program. -/
set_option linter.unusedVariables false
namespace Go.Proofs.YtilfcikhipadpaaGreatDoor
open Go.RowKit
attribute [local go_sem] Oper.semAt_some

theorem r5_word (s : ByteArray) (i : Int) (w : World) (hs : s.size ≤ maxLen) (h1 : -9223372036854775808 ≤ i ∧ i ≤ 9223372036854775807) :
    Calls Tryz.prog 143 #[.string s, .int .i64 i] w (Ret (.int .u16 (get16 (L s) i)) w) := by
  have c := fun w => r_Get16 s i w hs h1
  obtain ⟨x, hx⟩ : ∃ x, x = get16 (L s) i := ⟨_, rfl⟩
  obtain ⟨h, hh⟩ : ∃ x, x = has s.size i 2 := ⟨_, rfl⟩
  rw [← hx, ← hh] at c
  rw [← hx]
  have C := hide c
  clear c hx hh
  go_enter Tryz.func143, Tryz.ntmps143
  go_wp2_with fail
  refine (C.out _).mono ?_
  rintro e w1 ⟨rfl, b1⟩
  go_wp2_with fail
  go_ret
  exact ⟨rfl, b1⟩

/-- is it a datagram -/
def udpIs (s : ByteArray) : Bool := decide (8 ≤ s.size) && decide (get16 (L s) 4 = s.size)
def udpHead (l : List UInt8) : Value := .agg #[.int .u16 (get16 l 0), .int .u16 (get16 l 2), .int .u16 (get16 l 4), .int .u16 (get16 l 6)]
def udpNone : Value := .agg #[.int .u16 0, .int .u16 0, .int .u16 0, .int .u16 0]

theorem r5_Parse_no (s : ByteArray) (w : World) (hs : s.size ≤ maxLen) (h : udpIs s = false) :
    Calls Tryz.prog 83 #[.string s] w (Ret (.tuple #[udpNone, .string (S []), .bool false]) w) := by
  unfold maxLen at hs
  by_cases h8 : s.size < 8
  · unfold udpNone
    go_enter Tryz.func83, Tryz.ntmps83
    go_wp2_with fail
    (try simp only [Exit.inBlock, Exit.then]); refine bodyPost_ret (by simp [results, Tryz.results83, go_sem]; try rfl) rfl ?_
    exact ⟨rfl, fresh_below _ _⟩
  · have c := fun w => r5_word s 4 w hs (by omega)
    have hx0 : get16 (L s) 4 ≠ s.size := by unfold udpIs at h; simp at h; exact h (by omega)
    have hb := get16_bd (L s) 4
    obtain ⟨x, hx⟩ : ∃ x, x = get16 (L s) 4 := ⟨_, rfl⟩
    rw [← hx] at c hx0 hb
    have q1 : (x != (s.size : Int)) = true := by simp [hx0]
    have q2 : ¬ (s.size : Int) < 8 := by omega
    have C := hide c
    clear c hx h
    unfold udpNone
    go_enter Tryz.func83, Tryz.ntmps83
    go_wp2_with fail
    refine (C.out _).mono ?_
    rintro e w1 ⟨rfl, b1⟩
    have d1 := Cells.below b1 (Cells.new w _ _)
    obtain ⟨⟨x0, x1, x2, x3⟩, f0, f1, f2, f3⟩ := d1.four
    replace b1 := bstep (fresh_below _ _) b1
    go_wp2_with fail
    (try simp only [Exit.inBlock, Exit.then]); refine bodyPost_ret (by simp [results, Tryz.results83, go_sem, *]; try rfl) rfl ?_
    exact ⟨rfl, (((b1.setCell (p := ⟨w.heap.size, 0, none⟩) (Nat.le_refl _) _).setCell (p := ⟨w.heap.size, 1, none⟩) (Nat.le_refl _) _).setCell (p := ⟨w.heap.size, 2, none⟩) (Nat.le_refl _) _).setCell (p := ⟨w.heap.size, 3, none⟩) (Nat.le_refl _) _⟩

theorem r5_Parse_yes (s : ByteArray) (w : World) (hs : s.size ≤ maxLen) (h : udpIs s = true) :
    Calls Tryz.prog 83 #[.string s] w (Ret (.tuple #[udpHead (L s), .string (S ((L s).drop 8)), .bool true]) w) := by
  unfold maxLen at hs
  have h' := h
  unfold udpIs at h'
  simp at h'
  obtain ⟨h8, hl⟩ := h'
  have c0 := fun w => r5_word s 0 w hs (by omega)
  have c2 := fun w => r5_word s 2 w hs (by omega)
  have c4 := fun w => r5_word s 4 w hs (by omega)
  have c6 := fun w => r5_word s 6 w hs (by omega)
  have hb := get16_bd (L s) 4
  have he : s.extract 8 s.size = S ((L s).drop 8) := eq_S (L_from s 8)
  unfold udpHead
  obtain ⟨x0, e0⟩ : ∃ x, x = get16 (L s) 0 := ⟨_, rfl⟩
  obtain ⟨x2, e2⟩ : ∃ x, x = get16 (L s) 2 := ⟨_, rfl⟩
  obtain ⟨x4, e4⟩ : ∃ x, x = get16 (L s) 4 := ⟨_, rfl⟩
  obtain ⟨x6, e6⟩ : ∃ x, x = get16 (L s) 6 := ⟨_, rfl⟩
  rw [← e0] at c0 ⊢
  rw [← e2] at c2 ⊢
  rw [← e4] at c4 hl hb ⊢
  rw [← e6] at c6 ⊢
  subst hl
  have q2 : ¬ (s.size : Int) < 8 := by omega
  have C0 := hide c0; have C2 := hide c2; have C4 := hide c4; have C6 := hide c6; have HE := hide he
  clear c0 c2 c4 c6 e0 e2 e4 e6 he h
  go_enter Tryz.func83, Tryz.ntmps83
  go_wp2_with fail
  refine (C4.out _).mono ?_
  rintro e w1 ⟨rfl, b1⟩
  have d1 := Cells.below b1 (Cells.new w _ _)
  obtain ⟨⟨x0, x1, x2, x3⟩, f0, f1, f2, f3⟩ := d1.four
  replace b1 := bstep (fresh_below _ _) b1
  go_wp2_with fail
  go_region_held3 (fun _ => True) (trivial)
    (first | (go_at_call 143; (with_reducible refine (C0.out _).mono ?_); rintro e w2 ⟨rfl, b2⟩; have d2 := Cells.below b2 d1; obtain ⟨⟨x0, x1, x2, x3⟩, f0, f1, f2, f3⟩ := d2.four) | (go_at_call 143; (with_reducible refine (C2.out _).mono ?_); rintro e w3 ⟨rfl, b3⟩; have d3 := Cells.below b3 d2; obtain ⟨⟨x0, x1, x2, x3⟩, f0, f1, f2, f3⟩ := d3.four) | (go_at_call 143; (with_reducible refine (C4.out _).mono ?_); rintro e w4 ⟨rfl, b4⟩; have d4 := Cells.below b4 d3; obtain ⟨⟨x0, x1, x2, x3⟩, f0, f1, f2, f3⟩ := d4.four) | (go_at_call 143; (with_reducible refine (C6.out _).mono ?_); rintro e w5 ⟨rfl, b5⟩; have d5 := Cells.below b5 d4; obtain ⟨⟨x0, x1, x2, x3⟩, f0, f1, f2, f3⟩ := d5.four))
  go_wp2
  (try simp only [Exit.inBlock, Exit.then]); refine bodyPost_ret (by simp [results, Tryz.results83, go_sem, *]; try rfl) rfl ?_
  exact ⟨by rw [HE.out], ((((bstep (bstep (bstep (bstep b1.drew b2) b3) b4) b5).setCell (p := ⟨w.heap.size, 0, none⟩) (Nat.le_refl _) _).setCell (p := ⟨w.heap.size, 1, none⟩) (Nat.le_refl _) _).setCell (p := ⟨w.heap.size, 2, none⟩) (Nat.le_refl _) _).setCell (p := ⟨w.heap.size, 3, none⟩) (Nat.le_refl _) _⟩

/-- the words of a datagram's header -/
def udpWords (a b c d : Int) : List UInt8 := putW [a, b, c, d]
set_option maxHeartbeats 1000000 in
theorem r5_Put (a b n d : Int) (p : ByteArray) (w : World) (ha : 0 ≤ a ∧ a ≤ 65535) (hb : 0 ≤ b ∧ b ≤ 65535) (hd : 0 ≤ d ∧ d ≤ 65535) (hp : p.size ≤ 140737488351232) :
    Calls Tryz.prog 134 #[.agg #[.int .u16 a, .int .u16 b, .int .u16 n, .int .u16 d], .string p] w (Ret (.string (S (udpWords a b ((8 + p.size) % 65536) d ++ L p))) w) := by
  have hl : ∀ x ∈ [a, b, (8 + (p.size : Int)) % 65536, d], 0 ≤ x ∧ x ≤ 65535 := by
    intro x hx
    simp only [List.mem_cons, List.not_mem_nil, or_false] at hx
    rcases hx with rfl | rfl | rfl | rfl <;> omega
  have c1 := fun W => r_Word (some ⟨w.heap.size + 1, 0, none⟩) 4 4 [a, b, (8 + (p.size : Int)) % 65536, d] ((w.alloc W).alloc (.cells #[.int .u16 a, .int .u16 b, .int .u16 ((8 + (p.size : Int)) % 65536), .int .u16 d] 29)) (Row.freshAt (w.alloc W) #[.int .u16 a, .int .u16 b, .int .u16 ((8 + (p.size : Int)) % 65536), .int .u16 d] 29 (w.heap.size + 1) _ _ (by simp) rfl rfl) hl (by omega)
  obtain ⟨s, hs⟩ : ∃ s, s = S (putW [a, b, (8 + (p.size : Int)) % 65536, d]) := ⟨_, rfl⟩
  have hz : s.size = 8 := by rw [hs]; rfl
  have hend : S (udpWords a b ((8 + p.size) % 65536) d ++ L p) = s ++ p := by rw [hs, udpWords, ← S_append, S_L]
  rw [← hs] at c1
  obtain ⟨a0, a1⟩ := ha
  obtain ⟨b0, b1⟩ := hb
  obtain ⟨d0, d1⟩ := hd
  have C1 := hide c1; have HE := hide hend
  clear c1 hend hl hs
  go_enter Tryz.func134, Tryz.ntmps134
  go_wp2_with fail
  refine (C1.out _).mono ?_
  rintro e w1 ⟨rfl, k1⟩
  replace k1 := bstep (bstep (fresh_below w _) (fresh_below _ _)) k1
  go_wp2_with fail
  go_ret
  exact ⟨ret_str HE.out.symm, k1⟩

end Go.Proofs.YtilfcikhipadpaaGreatDoor
end
