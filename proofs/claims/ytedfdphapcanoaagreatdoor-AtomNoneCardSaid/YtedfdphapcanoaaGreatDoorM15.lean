/- Several texts of this claim, one behind the other. -/
import Derived.Test.YtedfdphapcanoaaGreatDoorM14
import Derived.Test.YtedfdphapcanoaaGreatDoorM12
import Derived.KernelRfl

section
/- Sum, Holds, Update and Updates of the package sums, over this program. Conditions: texts within the form's reach. -/
set_option linter.unusedVariables false
namespace Go.Proofs.YtedfdphapcanoaaGreatDoor
open Go.RowKit Go.Shelf
attribute [local go_sem] Oper.semAt_some

set_option maxHeartbeats 2000000 in
theorem Sum (A : Option Addr) (n c : Nat) (ss : List ByteArray) (w : World) (hr : Row w w.heap.size A n (ss.map Value.string)) (hsz : ∀ s ∈ ss, s.size ≤ 140737488351232) (hn : n ≤ 9223372036854775807) :
    Calls Tryz.prog 183 #[.slice A n c] w (Ret (.int .u16 (sumL (ss.map L))) w) := by
  have hlen : ss.length = n := by simpa using hr.1
  have HN := hide hlen
  have HS := hide hsz
  clear hlen hsz
  refine (callsIn_wide (n := 3)).1 ?_
  refine callsIn_of_wp_marks Tryz.func183 rfl trivial ?_ rfl
  simp only [Tryz.ntmps183, List.size_toArray, List.length_cons, List.length_nil, Nat.reduceAdd, Nat.reduceSub, Array.replicate_succ, Array.replicate_zero, List.push_toArray, List.append_toArray, List.nil_append, List.cons_append]
  gi_wp2
  have hbox0 : Boxed (w.alloc (.cells #[.int .u16 0] 28)) w.heap.size 28 (.int .u16 (part ss 0)) := Boxed.new w _ _
  have hbel0 := fresh_below w (.cells #[.int .u16 0] 28)
  have hn1 : (n : Int) ≤ 9223372036854775807 := by omega
  refine wpIn_loop (fun a' w' => ∃ (k : Nat) (u5 u6 u10 u11 u12 u13 u14 u15 u16 u17 u18 u19 : Value) (ds : List Deferred), k ≤ n ∧ Boxed w' w.heap.size 28 (.int .u16 (part ss k)) ∧ Below w.heap.size w w' ∧ Marked (w.heap.size + 1) ds w' ∧
    a' = { tmps := #[.slice A n c, undef, .int .u16 0, .pointer (some ⟨w.heap.size, 0, none⟩), undef, u5, u6, .slice A n c, .int .i64 n, .int .i64 k, u10, u11, u12, u13, u14, u15, u16, u17, u18, u19, undef, undef], defers := ds }) (fun a' _ => n - (intOf (a'.tmps.getD 9 undef)).toNat) ?_ ?_
  · exact ⟨0, _, _, _, _, _, _, _, _, _, _, _, _, [], Nat.zero_le _, hbox0, hbel0, trivial, rfl⟩
  · rintro a' wr ⟨k, u5, u6, u10, u11, u12, u13, u14, u15, u16, u17, u18, u19, ds, hk, hbox, hbel, hmk, rfl⟩
    by_cases hlt : k < n
    · obtain ⟨b, o, rfl, hbo, hc⟩ := hr.at_ (by omega)
      have hcell : wr.cell? ⟨b, o + k, none⟩ = some (.string (ss.getD k ByteArray.empty)) := (hbel.cell (p := ⟨b, o + k, none⟩) hbo).trans (hc k _ (strs_at (by rw [HN.out]; exact hlt)))
      obtain ⟨s, hs⟩ : ∃ s, s = ss.getD k ByteArray.empty := ⟨_, rfl⟩
      rw [← hs] at hcell
      have hsz : s.size ≤ 140737488351232 := by rw [hs]; exact HS.out _ (getD_mem_s (by rw [HN.out]; exact hlt))
      have hps := part_succ ss k (by rw [HN.out]; exact hlt)
      rw [← hs] at hps
      have HP := hide hps
      clear hps hs hc
      gi_wp2_with (refine ⟨trivial, ?_⟩; gi_at_call 222; refine (callsIn_wide.2 (words_any _ _)).mono ?_; rintro e w1 ⟨rfl, rfl⟩)
      have hxB : w.heap.size < wr.heap.size := hbox.lt
      have hB0 := Boxed.new wr 9 (.string s)
      have hA0 := hbox.alloc (.cells #[.string s] 9)
      have hb0 := hbel.alloc hbel.size (.cells #[.string s] 9)
      have hm0 := hmk.below (fresh_below wr (.cells #[.string s] 9))
      have hz0 : (wr.alloc (.cells #[.string s] 9)).heap.size = wr.heap.size + 1 := by simp
      obtain ⟨p, hp⟩ : ∃ p, p = part ss k := ⟨_, rfl⟩
      have hpb := part_bd ss k
      rw [← hp] at hpb hA0
      have HPP := hide hp
      clear hp hbox hbel hmk
      generalize hB : wr.heap.size = B at *
      generalize wr.alloc (.cells #[.string s] 9) = W0 at *
      refine wpIn_rangeFunc_all (F := Fence.wide) (n := 3) (xs := words (L s)) (B := B) (w0 := W0) (encs := fun x : Int => #[.int .u16 x]) rfl (by omega) (gf := 267) (lb := #[.pointer (some ⟨B, 0, none⟩)]) rfl trivial (enters_of Tryz.func267 (by kernel_rfl) rfl)
        (words1_stops s W0 B hsz hB0) (by omega) (Below.refl _ _) (fun _ => rfl)
        (fun pre W => Boxed W w.heap.size 28 (.int .u16 (fold1 p pre)) ∧ Only (fun j => j = w.heap.size ∨ j = B) W0 W) ?hI ?hIB ⟨hA0, Only.refl _ _⟩
        (fun x => { tmps := #[.slice (some ⟨b, o, none⟩) n c, undef, .int .u16 0, .pointer (some ⟨w.heap.size, 0, none⟩), undef, .string s, .int .u16 x, .slice (some ⟨b, o, none⟩) n c, .int .i64 n, .int .i64 k, .bool true, .pointer (some ⟨b, o + k, none⟩), .string s, .string s, .func (.func 267) #[] #[.pointer (some ⟨B, 0, none⟩)], .int .u16 x, u16, u17, u18, u19, undef, undef], defers := [] }) ?assign ?body ?done
      case hI =>
        rintro pre A' C' row ⟨h1, h2⟩ hg hrow
        exact ⟨h1.kept hg (fun e => by have := (hrow _ e.symm).1; omega), h2.grown hg (fun r e => .inr (hrow r e).1)⟩
      case hIB =>
        rintro pre A' v ⟨h1, h2⟩
        exact ⟨(setCell_other A' v (by omega)).trans h1, h2.set_ v (.inl (.inr rfl))⟩
      case assign =>
        intro l x W K hK
        gi_wp2
        exact hK
      case body =>
        rintro l pre x rest W hx ⟨h1, h2⟩
        have hxb := words_bd (L s) x (by rw [hx]; simp)
        have hfb := fold1_bd pre p hpb (fun y hy => words_bd (L s) y (by rw [hx]; simp [hy]))
        have hc1 := h1.cell
        have hf1 := h1.frozen
        gi_wp2_with (refine ⟨trivial, ?_⟩; gi_at_call 248; refine (CallsIn.inRound l (callsIn_wide.2 (Add _ _ _ hfb hxb))).mono ?_; rintro e w1 ⟨rfl, rfl⟩)
        exact ⟨KeepsOthers.setCell _ _ _, setCell_other W _ (by omega), by rw [fold1_append]; exact h1.set _, h2.set_ _ (.inl (.inl rfl))⟩
      case done =>
        rintro D W hD ⟨h1, h2⟩ hDW
        rw [HPP.out, ← HP.out] at h1
        have hb1 := hb0.trans (h2.below (B := w.heap.size) (fun j hj => by omega) (by omega))
        have hm1 : Marked (w.heap.size + 1) ({ target := .collected D, args := #[] } :: ds) W := by
          refine ⟨⟨D, by omega, rfl, hDW, fun d' hd' => ?_⟩, hm0.only h2 (fun r hr => ?_)⟩
          · obtain ⟨r, e, hr⟩ := hm0.fresh d' hd'
            rw [e]
            intro e'
            injection e' with e'
            omega
          · rcases hr with rfl | rfl
            · exact boxed_not_mark hA0
            · exact boxed_not_mark hB0
        dsimp only
        gi_wp2
        exact ⟨⟨k + 1, _, _, _, _, _, _, _, _, _, _, _, _, _, by omega, h1, hb1, hm1, rfl⟩, by simp [intOf]; omega⟩
    · obtain rfl : k = n := by omega
      have hpb := part_bd ss k
      obtain ⟨p0, p1⟩ := hpb
      have hfin := part_all ss k HN.out.symm
      have HF := hide hfin
      clear hfin
      have hc1 := hbox.cell
      gi_wp2
      refine leaves_marks (B := w.heap.size + 1) hmk (fun W' hW' => ?_)
      refine ⟨_, results_tmp rfl _ _ _, ?_⟩
      exact ⟨ret_int HF.out, hbel.trans (hW'.mono (by omega))⟩

theorem sumL_bd (ls : List (List UInt8)) : 0 ≤ sumL ls ∧ sumL ls ≤ 65535 := by
  have := fold1_bd (ls.flatMap words) 0 (by omega) (flat_bd ls)
  unfold sumL; omega
/-- do texts with their sum among them come to nothing -/
def holds (ls : List (List UInt8)) : Bool := sumL ls == 0

theorem Holds (A : Option Addr) (n c : Nat) (ss : List ByteArray) (w : World) (hr : Row w w.heap.size A n (ss.map Value.string)) (hsz : ∀ s ∈ ss, s.size ≤ 140737488351232) (hn : n ≤ 9223372036854775807) :
    Calls Tryz.prog 113 #[.slice A n c] w (Ret (.bool (holds (ss.map L))) w) := by
  go_enter Tryz.func113, Tryz.ntmps113
  go_wp2_with fail
  refine (Sum A n c ss _ hr hsz hn).mono ?_
  rintro e w1 ⟨rfl, b1⟩
  go_wp2_with fail
  go_ret
  exact ⟨rfl, b1⟩

/-- a sum, a word having changed -/
def upd (n a b : Int) : Int := 65535 - add1 (add1 (65535 - n) (65535 - a)) b
theorem upd_bd {n a b : Int} (hn : 0 ≤ n ∧ n ≤ 65535) (ha : 0 ≤ a ∧ a ≤ 65535) (hb : 0 ≤ b ∧ b ≤ 65535) : 0 ≤ upd n a b ∧ upd n a b ≤ 65535 := by
  have := add1_bd (add1_bd (a := 65535 - n) (b := 65535 - a) (by omega) (by omega)) hb
  unfold upd; omega

theorem Update (n a b : Int) (w : World) (hn : 0 ≤ n ∧ n ≤ 65535) (ha : 0 ≤ a ∧ a ≤ 65535) (hb : 0 ≤ b ∧ b ≤ 65535) :
    Calls Tryz.prog 223 #[.int .u16 n, .int .u16 a, .int .u16 b] w fun e w' => e = .returned (.int .u16 (upd n a b)) ∧ w = w' := by
  obtain ⟨n0, n1⟩ := hn
  obtain ⟨a0, a1⟩ := ha
  have h1 := add1_bd (a := 65535 - n) (b := 65535 - a) (by omega) (by omega)
  have h2 := add1_bd h1 hb
  obtain ⟨p0, p1⟩ := h2
  go_enter Tryz.func223, Tryz.ntmps223
  go_wp2_with fail
  refine (Add _ _ _ (by omega) (by omega)).mono ?_
  rintro e w1 ⟨rfl, rfl⟩
  go_wp2_with fail
  refine (Add _ _ _ h1 hb).mono ?_
  rintro e w1 ⟨rfl, rfl⟩
  go_wp2_with fail
  go_ret
  exact ⟨rfl, rfl⟩

def updF (n : Int) (l : List (Int × Int)) : Int := l.foldl (fun n p => upd n p.1 p.2) n
theorem updF_bd : ∀ (l : List (Int × Int)) (n : Int), 0 ≤ n ∧ n ≤ 65535 → (∀ p ∈ l, (0 ≤ p.1 ∧ p.1 ≤ 65535) ∧ (0 ≤ p.2 ∧ p.2 ≤ 65535)) → 0 ≤ updF n l ∧ updF n l ≤ 65535
  | [], n, h, _ => h
  | p :: l, n, h, hl => updF_bd l _ (upd_bd h (hl p (by simp)).1 (hl p (by simp)).2) (fun q hq => hl q (by simp [hq]))
/-- a sum, words having changed -/
def updates (n : Int) (a b : List UInt8) : Int :=
  if a.length ≠ b.length ∨ a.length % 2 = 1 then n else updF n ((words a).zip (words b))
theorem zip_snoc : ∀ (pre : List Int) (x : Int) (wt : List Int), pre.length < wt.length → (pre ++ [x]).zip wt = pre.zip wt ++ [(x, wt.getD pre.length 0)]
  | [], x, y :: t, _ => rfl
  | p :: pre, x, y :: t, h => by
    have := zip_snoc pre x t (by simpa using h)
    simp only [List.cons_append, List.zip_cons_cons, this, List.length_cons, List.getD_cons_succ]
theorem zip_bd {a b : List UInt8} : ∀ p ∈ (words a).zip (words b), (0 ≤ p.1 ∧ p.1 ≤ 65535) ∧ (0 ≤ p.2 ∧ p.2 ≤ 65535) := fun p hp => by
  have := List.of_mem_zip (a := p.1) (b := p.2) hp
  exact ⟨words_bd a _ this.1, words_bd b _ this.2⟩
theorem even_self {l : List UInt8} (h : l.length % 2 = 0) : even l = l := by unfold even; rw [if_neg (by omega)]
theorem words_length {l : List UInt8} (h : l.length % 2 = 0) : 2 * (words l).length = l.length := by rw [← even_length, even_self h]

set_option maxHeartbeats 2000000 in
theorem Updates_no (n : Int) (a b : ByteArray) (w : World) (ha : a.size ≤ 140737488351232) (hb : b.size ≤ 140737488351232) (h : a.size ≠ b.size ∨ a.size % 2 = 1) :
    Calls Tryz.prog 149 #[.int .u16 n, .string a, .string b] w (Ret (.int .u16 n) w) := by
  refine (callsIn_wide (n := 3)).1 ?_
  refine callsIn_of_wp_marks Tryz.func149 rfl trivial ?_ rfl
  simp only [Tryz.ntmps149, List.size_toArray, List.length_cons, List.length_nil, Nat.reduceAdd, Nat.reduceSub, Array.replicate_succ, Array.replicate_zero, List.push_toArray, List.append_toArray, List.nil_append, List.cons_append]
  by_cases h1 : a.size = b.size
  · have h2 : a.size % 2 = 1 := by omega
    have q1 : (((a.size : Nat) : Int) != ((b.size : Nat) : Int)) = false := by simp [h1]
    have q2 : (((a.size : Nat) : Int) % 2 == 1) = true := by simp; omega
    clear h h1 h2
    gi_wp2
    exact ⟨_, results_tmp rfl _ _ _, rfl, ((Below.refl _ _).alloc (Nat.le_refl _) _).alloc (by simp) _⟩
  · have q1 : (((a.size : Nat) : Int) != ((b.size : Nat) : Int)) = true := by simp; omega
    clear h h1
    gi_wp2
    exact ⟨_, results_tmp rfl _ _ _, rfl, ((Below.refl _ _).alloc (Nat.le_refl _) _).alloc (by simp) _⟩

theorem upto_word {t : List UInt8} {k : Nat} (h2 : t.length % 2 = 0) (hk : k < (words t).length) : get16 t (2 * (k : Int)) = (words t).getD k 0 := by
  have h3 := words_length h2
  rw [show 2 * (k : Int) = ((2 * k : Nat) : Int) from by omega, get16_nat (by omega), ← even_word t k hk, even_self h2]

set_option maxHeartbeats 2000000 in
theorem Updates_yes (n : Int) (a b : ByteArray) (w : World) (hn : 0 ≤ n ∧ n ≤ 65535) (ha : a.size ≤ 140737488351232) (hb : b.size ≤ 140737488351232) (h1 : a.size = b.size) (h2 : a.size % 2 = 0) :
    Calls Tryz.prog 149 #[.int .u16 n, .string a, .string b] w (Ret (.int .u16 (updF n ((words (L a)).zip (words (L b))))) w) := by
  refine (callsIn_wide (n := 3)).1 ?_
  refine callsIn_of_wp_marks Tryz.func149 rfl trivial ?_ rfl
  simp only [Tryz.ntmps149, List.size_toArray, List.length_cons, List.length_nil, Nat.reduceAdd, Nat.reduceSub, Array.replicate_succ, Array.replicate_zero, List.push_toArray, List.append_toArray, List.nil_append, List.cons_append]
  have q1 : (((a.size : Nat) : Int) != ((b.size : Nat) : Int)) = false := by simp [h1]
  have q2 : (((a.size : Nat) : Int) % 2 == 1) = false := by simp; omega
  have hwl : (words (L a)).length = (words (L b)).length := by
    have e1 := words_length (l := L a) (by rw [L_length]; exact h2)
    have e2 := words_length (l := L b) (by rw [L_length]; omega)
    rw [L_length] at e1 e2
    omega
  have hbz : (L b).length % 2 = 0 := by rw [L_length]; omega
  have HWL := hide hwl; have HBZ := hide hbz; have H1 := hide h1; have H2 := hide h2; have HNB := hide hn
  clear h1 h2 hwl hbz hn
  gi_wp2_with (refine ⟨trivial, ?_⟩; gi_at_call 222; refine (callsIn_wide.2 (words_any _ _)).mono ?_; rintro e w1 ⟨rfl, rfl⟩)
  have hS : Boxed ((((w.alloc (.cells #[.int .u16 n] 28)).alloc (.cells #[.string b] 9)).alloc (.cells #[.int .i64 0] 3)).alloc (.cells #[.string a] 9)) w.heap.size 28 (.int .u16 n) :=
    (((Boxed.new w _ _).alloc _).alloc _).alloc _
  have hT : Boxed ((((w.alloc (.cells #[.int .u16 n] 28)).alloc (.cells #[.string b] 9)).alloc (.cells #[.int .i64 0] 3)).alloc (.cells #[.string a] 9)) (w.heap.size + 1) 9 (.string b) := by
    have := Boxed.new (w.alloc (.cells #[.int .u16 n] 28)) 9 (.string b)
    rw [World.size_alloc] at this
    exact (this.alloc _).alloc _
  have hA : Boxed ((((w.alloc (.cells #[.int .u16 n] 28)).alloc (.cells #[.string b] 9)).alloc (.cells #[.int .i64 0] 3)).alloc (.cells #[.string a] 9)) (w.heap.size + 1 + 1) 3 (.int .i64 0) := by
    have := Boxed.new ((w.alloc (.cells #[.int .u16 n] 28)).alloc (.cells #[.string b] 9)) 3 (.int .i64 0)
    rw [World.size_alloc, World.size_alloc] at this
    exact this.alloc _
  have hB0 : Boxed ((((w.alloc (.cells #[.int .u16 n] 28)).alloc (.cells #[.string b] 9)).alloc (.cells #[.int .i64 0] 3)).alloc (.cells #[.string a] 9)) (w.heap.size + 1 + 1 + 1) 9 (.string a) := by
    have := Boxed.new (((w.alloc (.cells #[.int .u16 n] 28)).alloc (.cells #[.string b] 9)).alloc (.cells #[.int .i64 0] 3)) 9 (.string a)
    rw [World.size_alloc, World.size_alloc, World.size_alloc] at this
    exact this
  have hz0 : ((((w.alloc (.cells #[.int .u16 n] 28)).alloc (.cells #[.string b] 9)).alloc (.cells #[.int .i64 0] 3)).alloc (.cells #[.string a] 9)).heap.size = w.heap.size + 1 + 1 + 1 + 1 := by simp
  have hb0 : Below w.heap.size w ((((w.alloc (.cells #[.int .u16 n] 28)).alloc (.cells #[.string b] 9)).alloc (.cells #[.int .i64 0] 3)).alloc (.cells #[.string a] 9)) :=
    ((((Below.refl _ _).alloc (Nat.le_refl _) _).alloc (by simp) _).alloc (by simp; omega) _).alloc (by simp; omega) _
  generalize ((((w.alloc (.cells #[.int .u16 n] 28)).alloc (.cells #[.string b] 9)).alloc (.cells #[.int .i64 0] 3)).alloc (.cells #[.string a] 9)) = W0 at *
  generalize hC : w.heap.size = C at *
  refine wpIn_rangeFunc_all (F := Fence.wide) (n := 3) (xs := words (L a)) (B := C + 1 + 1 + 1) (w0 := W0) (encs := fun x : Int => #[.int .u16 x]) rfl (by omega) (gf := 267) (lb := #[.pointer (some ⟨C + 1 + 1 + 1, 0, none⟩)]) rfl trivial (enters_of Tryz.func267 (by kernel_rfl) rfl)
    (words1_stops a W0 _ ha hB0) (by omega) (Below.refl _ _) (fun _ => rfl)
    (fun pre W => Boxed W C 28 (.int .u16 (updF n (pre.zip (words (L b))))) ∧ Boxed W (C + 1 + 1) 3 (.int .i64 (2 * (pre.length : Int))) ∧ Only (fun j => j = C ∨ j = C + 1 + 1 ∨ j = C + 1 + 1 + 1) W0 W) ?hI ?hIB ⟨hS, by simpa using hA, Only.refl _ _⟩
    (fun x => { tmps := #[.int .u16 n, .string a, .string b, .pointer (some ⟨C, 0, none⟩), undef, .pointer (some ⟨C + 1, 0, none⟩), .int .u16 0, .pointer (some ⟨C + 1 + 1, 0, none⟩), .int .u16 x, undef, undef, .string a, .int .i64 a.size, .string b, .int .i64 b.size, .bool false, .bool false, .string a, .int .i64 a.size, .int .i64 ((a.size : Int) % 2), .bool false, .bool false, undef, .string a, .func (.func 267) #[] #[.pointer (some ⟨C + 1 + 1 + 1, 0, none⟩)], .int .u16 x, undef, undef, undef, undef, undef, undef, undef, undef, undef, undef, undef, undef, undef], defers := [] }) ?assign ?body ?done
  case hI =>
    rintro pre A' C' row ⟨h1, h2, h3⟩ hg hrow
    exact ⟨h1.kept hg (fun e => by have := (hrow _ e.symm).1; omega), h2.kept hg (fun e => by have := (hrow _ e.symm).1; omega), h3.grown hg (fun r e => .inr (hrow r e).1)⟩
  case hIB =>
    rintro pre A' v ⟨h1, h2, h3⟩
    exact ⟨(setCell_other A' v (by omega)).trans h1, (setCell_other A' v (by omega)).trans h2, h3.set_ v (.inl (.inr (.inr rfl)))⟩
  case assign =>
    intro l x W K hK
    gi_wp2
    exact hK
  case body =>
    rintro l pre x rest W hx ⟨h1, h2, h3⟩
    have hxb := words_bd (L a) x (by rw [hx]; simp)
    have hpl : pre.length < (words (L b)).length := by rw [← HWL.out, hx]; simp
    have hfb : 0 ≤ updF n (pre.zip (words (L b))) ∧ updF n (pre.zip (words (L b))) ≤ 65535 := by
      refine updF_bd _ n HNB.out (fun p hp => ?_)
      have := List.of_mem_zip (a := p.1) (b := p.2) hp
      exact ⟨words_bd (L a) _ (by rw [hx]; simp [this.1]), words_bd (L b) _ this.2⟩
    have hzs := zip_snoc pre x _ hpl
    have hg := upto_word HBZ.out hpl
    have hyb := words_bd (L b) _ (getD_mem hpl)
    obtain ⟨y, hy⟩ : ∃ y, y = (words (L b)).getD pre.length 0 := ⟨_, rfl⟩
    rw [← hy] at hg hyb hzs
    obtain ⟨f, hf⟩ : ∃ f, f = updF n (pre.zip (words (L b))) := ⟨_, rfl⟩
    rw [← hf] at hfb h1
    have hend : updF n ((pre ++ [x]).zip (words (L b))) = upd f x y := by rw [hzs, hf]; simp [updF]
    have hT1 := h3.boxed hT (by omega)
    have hpm : (pre.length : Int) ≤ 70368744177664 := by
      have e2 := words_length HBZ.out
      rw [L_length] at e2
      omega
    have HG := hide hg; have HE := hide hend; have HFB := hide hfb; have HXB := hide hxb; have HYB := hide hyb
    clear hg hend hzs hy hf hfb hxb hyb hx hpl
    have hc1 := h1.cell
    have hf1 := h1.frozen
    have hc2 := h2.cell
    have hf2 := h2.frozen
    have hc3 := hT1.cell
    gi_wp2_with fail
    refine ⟨trivial, ?_⟩
    refine (CallsIn.inRound l (callsIn_wide.2 (Get16_q b _ _ (by unfold maxLen; omega) (by omega)))).mono ?_
    rintro e w1 ⟨rfl, n1, rfl⟩
    rw [HG.out]
    gi_wp2_with fail
    refine ⟨trivial, ?_⟩
    refine (CallsIn.inRound l (callsIn_wide.2 (Update _ _ _ _ HFB.out HXB.out HYB.out))).mono ?_
    rintro e w1 ⟨rfl, rfl⟩
    gi_wp2_with fail
    have k1 : KeepsOthers W ((W.setCell ⟨C, 0, none⟩ (.int .u16 (upd f x y))).setCell ⟨C + 1 + 1, 0, none⟩ (.int .i64 (2 * (pre.length : Int) + 2))) := (KeepsOthers.setCell _ _ _).trans (KeepsOthers.setCell _ _ _)
    have k3 := (h3.set_ (b := C) (.int .u16 (upd f x y)) (.inl (.inl rfl))).set_ (b := C + 1 + 1) (.int .i64 (2 * (pre.length : Int) + 2)) (.inl (.inr (.inl rfl)))
    have k4 : Boxed ((W.setCell ⟨C, 0, none⟩ (.int .u16 (upd f x y))).setCell ⟨C + 1 + 1, 0, none⟩ (.int .i64 (2 * (pre.length : Int) + 2))) C 28 (.int .u16 (upd f x y)) := (setCell_other _ _ (by omega)).trans (h1.set _)
    have k5 : Boxed ((W.setCell ⟨C, 0, none⟩ (.int .u16 (upd f x y))).setCell ⟨C + 1 + 1, 0, none⟩ (.int .i64 (2 * (pre.length : Int) + 2))) (C + 1 + 1) 3 (.int .i64 (2 * ((pre ++ [x]).length : Int))) := by
      rw [show 2 * ((pre ++ [x]).length : Int) = 2 * (pre.length : Int) + 2 from by simp; omega]
      exact Boxed.set _ ((setCell_other W _ (by omega)).trans h2)
    refine ⟨⟨k1.size, k1.same⟩, ?_, by rw [HE.out]; exact k4, k5, ⟨k3.os, k3.tape, k3.output, k3.size, k3.block⟩⟩
    exact (setCell_other _ _ (by omega)).trans (setCell_other _ _ (by omega))
  case done =>
    rintro D W hD ⟨h1, h2, h3⟩ hDW
    have hc1 := h1.cell
    have hb1 := hb0.trans (h3.below (B := C) (fun j hj => by omega) (by omega))
    dsimp only
    gi_wp2
    have hmk : Marked C [{ target := .collected D, args := #[] }] W := ⟨⟨D, by omega, rfl, hDW, fun d' hd' => by cases hd'⟩, trivial⟩
    refine leaves_marks hmk (fun W' hW' => ?_)
    exact ⟨_, results_tmp rfl _ _ _, rfl, by rw [hC]; exact hb1.trans hW'⟩

theorem Updates (n : Int) (a b : ByteArray) (w : World) (hn : 0 ≤ n ∧ n ≤ 65535) (ha : a.size ≤ 140737488351232) (hb : b.size ≤ 140737488351232) :
    Calls Tryz.prog 149 #[.int .u16 n, .string a, .string b] w (Ret (.int .u16 (updates n (L a) (L b))) w) := by
  unfold updates
  rw [L_length, L_length]
  by_cases h : a.size ≠ b.size ∨ a.size % 2 = 1
  · rw [if_pos h]; exact Updates_no n a b w ha hb h
  · rw [if_neg h]; exact Updates_yes n a b w hn ha hb (by omega) (by omega)
end Go.Proofs.YtedfdphapcanoaaGreatDoor
end

section
/- Events: sums, words, parts of texts, where their texts are known. -/
set_option linter.unusedVariables false
namespace Go.Proofs.YtedfdphapcanoaaGreatDoor
open Go.RowKit Go.Lib
namespace Rx
variable {A : Amb}

theorem row_of {P : Program} {ρ : Nm} {W : World} {b : Nat} {vs : List Value} {T : TypeId} {s κ : Nat} {r : Bool} (h : Lies ρ W b vs T s κ r) (hr : vs.all real0 = true) : Row W W.heap.size (some ⟨b, 0, none⟩) vs.length vs :=
  ⟨rfl, fun _ => ⟨b, 0, rfl, h.lt, fun j u hu => by
    have := h.cell hu
    rw [Nat.zero_add, this, ren0_real (List.all_eq_true.1 hr u (List.mem_of_getElem? hu))]⟩⟩
theorem strs_real (ss : List ByteArray) : (ss.map Value.string).all real0 = true := by
  induction ss with
  | nil => rfl
  | cons s l ih => exact ih
theorem ints_real (l : List Int) : (ints16 l).all real0 = true := by
  induction l with
  | nil => rfl
  | cons s l ih => exact ih
/-- whether texts hold -/
def holdsE (n id : Nat) (ss : List ByteArray) (b : Bool) (hb : holds (ss.map L) = b := by kernel_rfl) (hs : ∀ s ∈ ss, s.size ≤ 140737488351232 := by decide) (hn : ss.length ≤ 1000 := by decide) : Ev Tryz.prog A :=
  reads n [id] (f := 113) (args := [.slice (some ⟨id, 0, some 1⟩) (ss.map Value.string).length ss.length]) (sn := [(id, (ss.map Value.string, 9, true))]) (v := .bool b) fun ρ W _ h => by
    subst hb
    have h1 := row_of (P := Tryz.prog) (h _ (List.mem_singleton.2 rfl)) (strs_real ss)
    exact Holds _ _ _ ss W h1 hs (by rw [List.length_map]; omega)
/-- the words of a row -/
def wordE (n id : Nat) (l : List Int) (s : ByteArray) (hb : S (putW l) = s := by kernel_rfl) (hs : ∀ x ∈ l, 0 ≤ x ∧ x ≤ 65535 := by decide) (hn : l.length ≤ 1000 := by decide) : Ev Tryz.prog A :=
  reads n [id] (f := 151) (args := [.slice (some ⟨id, 0, some 1⟩) (ints16 l).length l.length]) (sn := [(id, (ints16 l, 28, true))]) (v := .string s) fun ρ W _ h => by
    subst hb
    have h1 := row_of (P := Tryz.prog) (h _ (List.mem_singleton.2 rfl)) (ints_real l)
    exact Word _ _ _ l W h1 hs (by have : (ints16 l).length = l.length := by unfold ints16; rw [List.length_map]
                                   omega)
def put16E (n : Nat) (x : Int) (s : ByteArray) (hb : S (put16 x) = s := by kernel_rfl) (h : 0 ≤ x ∧ x ≤ 65535 := by decide) : Ev Tryz.prog A :=
  does n (f := 215) (args := [.int .u16 x]) (v := .string s) fun W _ => by subst hb; exact Put16 x W h.1 h.2
def put32E (n : Nat) (x : Int) (s : ByteArray) (hb : S (put32 x) = s := by kernel_rfl) (h : 0 ≤ x ∧ x ≤ 4294967295 := by decide) : Ev Tryz.prog A :=
  does n (f := 265) (args := [.int .u32 x]) (v := .string s) fun W _ => by subst hb; exact Put32 x W h.1 h.2
def updsE (n : Nat) (x : Int) (a b : ByteArray) (y : Int) (hb : updates x (L a) (L b) = y := by kernel_rfl) (h : 0 ≤ x ∧ x ≤ 65535 := by decide) (ha : a.size ≤ 140737488351232 := by decide) (hc : b.size ≤ 140737488351232 := by decide) : Ev Tryz.prog A :=
  does n (f := 149) (args := [.int .u16 x, .string a, .string b]) (v := .int .u16 y) fun W _ => by subst hb; exact Updates x a b W h ha hc
def withE (n : Nat) (s : ByteArray) (k : Nat) (p : ByteArray) (y : ByteArray) (hb : S ((L s).take k ++ (L p ++ (L s).drop (k + p.size))) = y := by kernel_rfl) (h : k + p.size ≤ s.size := by decide) (hs : s.size ≤ 140737488351232 := by decide) : Ev Tryz.prog A :=
  does n (f := 224) (args := [.string s, .int .i64 (k : Nat), .string p]) (v := .tuple #[.string y, .bool true]) fun W _ => by subst hb; exact With_in s k p W hs h
end Rx
end Go.Proofs.YtedfdphapcanoaaGreatDoor
end
