/- Several texts of this claim, one behind the other. -/
import Derived.Test.YtedfdphapcanoaaGreatDoorM35
import Derived.Test.YtedfdphapcanoaaGreatDoorM24
import Derived.Test.YtedfdphapcanoaaGreatDoorM15
import Derived.Test.YtedfdphapcanoaaGreatDoorM16
import Derived.Deep.RegionHeldLaw
import Derived.Deep.RegionHeld3

section
/- WithID over this program. -/
set_option linter.unusedVariables false
namespace Go.Proofs.YtedfdphapcanoaaGreatDoor
open Go.RowKit Go.Maps
attribute [local go_sem] Oper.semAt_some

set_option maxHeartbeats 4000000 in
theorem r7_WithID (m : Msg) (id : Int) (w : World) (ho : m.Ok) (hi : 0 ≤ id ∧ id ≤ 65535) :
    Calls Tryz.prog 167 #[.agg #[.int .u8 m.t, .int .u8 m.c, .int .u16 m.n, .string m.r, .string m.d], .int .u16 id] w (Ret (.agg #[.int .u8 (msgID m id).t, .int .u8 (msgID m id).c, .int .u16 (msgID m id).n, .string (msgID m id).r, .string (msgID m id).d]) w) := by
  obtain ⟨-, -, -, hr, -⟩ := ho
  obtain ⟨t, c, n, r, d⟩ := m
  have c1 := fun w => r_Put16 id w hi.1 hi.2
  simp only [msgID] at hr ⊢
  by_cases h2 : 2 ≤ r.size
  · rw [if_pos h2]
    have hz : (S (put16 id)).size = 2 := rfl
    have he : S (put16 id) ++ r.extract 2 r.size = S (lay (L r) 0 id) := by
      apply L_inj; rw [L_append, L_from]; rfl
    obtain ⟨p, hp⟩ : ∃ p, p = S (put16 id) := ⟨_, rfl⟩
    obtain ⟨u, hu⟩ : ∃ u, u = S (lay (L r) 0 id) := ⟨_, rfl⟩
    rw [← hp] at c1 hz he
    rw [← hu] at he ⊢
    have zr : (r.extract 2 r.size).size ≤ 140737488351232 := by rw [ByteArray.size_extract]; omega
    have i1 : (2 : Int) ≤ (r.size : Int) := by omega
    have C1 := hide c1; have HE := hide he
    clear c1 hp hu he
    go_enter Tryz.func167, Tryz.ntmps167
    have d0 := Cells.new w #[.int .u8 t, .int .u8 c, .int .u16 n, .string r, .string d] 209
    replace d0 := Cells.below (fresh_below (w.alloc (.cells #[.int .u8 t, .int .u8 c, .int .u16 n, .string r, .string d] 209)) (.cells #[.int .u8 0, .int .u8 0, .int .u16 0, .string { data := #[] }, .string { data := #[] }] 209)) d0
    have d1 := Cells.new (w.alloc (.cells #[.int .u8 t, .int .u8 c, .int .u16 n, .string r, .string d] 209)) #[.int .u8 0, .int .u8 0, .int .u16 0, .string { data := #[] }, .string { data := #[] }] 209
    rw [World.size_alloc] at d1
    go_wp2_with fail
    go_region_with (first | (go_at_call 182; (with_reducible refine (C1.out _).mono ?_); rintro e wq ⟨rfl, bq⟩; have D0 := Cells.up d0 (by (repeat' (first | with_reducible exact Below.refl _ _ | with_reducible refine bstep ?_ (fresh_below _ _) | with_reducible refine Below.drew ?_))) bq; have D1 := Cells.up d1 (by (repeat' (first | with_reducible exact Below.refl _ _ | with_reducible refine bstep ?_ (fresh_below _ _) | with_reducible refine Below.drew ?_))) bq; have bq2 : Below w.heap.size w wq := (by (refine bstep ?_ bq); (repeat' (first | with_reducible exact Below.refl _ _ | with_reducible refine bstep ?_ (fresh_below _ _) | with_reducible refine Below.drew ?_))); have xD0_0 : wq.cell? ⟨w.heap.size, 0, none⟩ = some (.int .u8 t) := D0.at_ 0; have yD0_0 : wq.frozen? ⟨w.heap.size, 0, none⟩ = false := D0.free 0; have xD0_1 : wq.cell? ⟨w.heap.size, 1, none⟩ = some (.int .u8 c) := D0.at_ 1; have yD0_1 : wq.frozen? ⟨w.heap.size, 1, none⟩ = false := D0.free 1; have xD0_2 : wq.cell? ⟨w.heap.size, 2, none⟩ = some (.int .u16 n) := D0.at_ 2; have yD0_2 : wq.frozen? ⟨w.heap.size, 2, none⟩ = false := D0.free 2; have xD0_3 : wq.cell? ⟨w.heap.size, 3, none⟩ = some (.string r) := D0.at_ 3; have yD0_3 : wq.frozen? ⟨w.heap.size, 3, none⟩ = false := D0.free 3; have xD0_4 : wq.cell? ⟨w.heap.size, 4, none⟩ = some (.string d) := D0.at_ 4; have yD0_4 : wq.frozen? ⟨w.heap.size, 4, none⟩ = false := D0.free 4; have xD1_0 : wq.cell? ⟨w.heap.size + 1, 0, none⟩ = some (.int .u8 0) := D1.at_ 0; have yD1_0 : wq.frozen? ⟨w.heap.size + 1, 0, none⟩ = false := D1.free 0; have xD1_1 : wq.cell? ⟨w.heap.size + 1, 1, none⟩ = some (.int .u8 0) := D1.at_ 1; have yD1_1 : wq.frozen? ⟨w.heap.size + 1, 1, none⟩ = false := D1.free 1; have xD1_2 : wq.cell? ⟨w.heap.size + 1, 2, none⟩ = some (.int .u16 0) := D1.at_ 2; have yD1_2 : wq.frozen? ⟨w.heap.size + 1, 2, none⟩ = false := D1.free 2; have xD1_3 : wq.cell? ⟨w.heap.size + 1, 3, none⟩ = some (.string { data := #[] }) := D1.at_ 3; have yD1_3 : wq.frozen? ⟨w.heap.size + 1, 3, none⟩ = false := D1.free 3; have xD1_4 : wq.cell? ⟨w.heap.size + 1, 4, none⟩ = some (.string { data := #[] }) := D1.at_ 4; have yD1_4 : wq.frozen? ⟨w.heap.size + 1, 4, none⟩ = false := D1.free 4))
    all_goals
      have zq := bq2.size
      go_wp2
      (try simp only [Exit.inBlock, Exit.then]); refine bodyPost_ret (by simp [results, Tryz.results167, go_sem, *]; try rfl) rfl ?_
      exact ⟨by rw [HE.out], by (repeat' (first | with_reducible exact bq2 | with_reducible refine Below.setCell ?_ (by first | exact Nat.le_refl _ | (dsimp only; omega)) _ | with_reducible refine bstep ?_ (fresh_below _ _) | with_reducible refine Below.drew ?_))⟩
  · rw [if_neg h2]
    have i1 : ¬ (2 : Int) ≤ (r.size : Int) := by omega
    go_enter Tryz.func167, Tryz.ntmps167
    go_wp2
    (try simp only [Exit.inBlock, Exit.then]); refine bodyPost_ret (by simp [results, Tryz.results167, go_sem, *]; try rfl) rfl ?_
    exact ⟨rfl, (by (repeat' (first | with_reducible exact Below.refl _ _ | with_reducible refine Below.setCell ?_ (by first | exact Nat.le_refl _ | (dsimp only; omega)) _ | with_reducible refine bstep ?_ (fresh_below _ _) | with_reducible refine Below.drew ?_)))⟩
end Go.Proofs.YtedfdphapcanoaaGreatDoor
end

section
/- rewrite's small functions over this program. -/
set_option linter.unusedVariables false
set_option linter.unusedSimpArgs false
namespace Go.Proofs.YtedfdphapcanoaaGreatDoor
open Go.RowKit
attribute [local go_sem] Oper.semAt_some

theorem Row.rise {X Y : World} {A : Option Addr} {n : Nat} {l : List Value} (r : Row X X.heap.size A n l) (b : Below X.heap.size X Y) : Row Y Y.heap.size A n l := (r.below b).more b.size
theorem Row.afterdraw {X : World} {A : Option Addr} {n : Nat} {l : List Value} (r : Row X X.heap.size A n l) : Row X.drew X.drew.heap.size A n l := r
/-- all bytes of some texts, one behind the other -/
def allOf (ss : List ByteArray) : List UInt8 := ss.flatMap L
theorem allOf_snoc (ss : List ByteArray) (k : Nat) (h : k < ss.length) : allOf (ss.take (k + 1)) = allOf (ss.take k) ++ L (ss.getD k ByteArray.empty) := by
  unfold allOf
  rw [take_snoc_s ss k h, List.flatMap_append]; simp
theorem allOf_take_le (ss : List ByteArray) (k : Nat) : (allOf (ss.take k)).length ≤ (allOf ss).length := by
  have h := List.take_append_drop k ss
  have h2 : allOf ss = allOf (ss.take k) ++ allOf (ss.drop k) := by
    unfold allOf
    rw [← List.flatMap_append, h]
  rw [h2, List.length_append]; omega

set_option maxHeartbeats 1000000 in
theorem rw_laid (A : Option Addr) (n c : Nat) (ss : List ByteArray) (w : World) (hr : Row w w.heap.size A n (ss.map Value.string)) (hz : (allOf ss).length ≤ 140737488351232) (hn : n ≤ 1000) :
    Calls Tryz.prog 212 #[.slice A n c] w (Ret (.string (S (allOf ss))) w) := by
  have hlen : ss.length = n := by simpa using hr.1
  have HN := hide hlen
  clear hlen
  go_enter Tryz.func212, Tryz.ntmps212
  go_wp2
  go_loopw [3, 8] (fun v i wr => ∃ k : Nat, k ≤ n ∧ i = .int .i64 k ∧ v = .string (S (allOf (ss.take k))) ∧ Below w.heap.size w wr) (fun _ i _ => n - (intOf i).toNat)
  case atStart => exact ⟨0, Nat.zero_le _, rfl, rfl, Below.refl _ _⟩
  case round =>
    obtain ⟨k, hk, rfl, rfl, hbel⟩ := hrel
    by_cases hlt : k < n
    · obtain ⟨b, o, rfl, hbo, hc⟩ := hr.at_ (by omega)
      obtain ⟨s, hs⟩ : ∃ s, s = ss.getD k ByteArray.empty := ⟨_, rfl⟩
      have hcell : wr.cell? ⟨b, o + k, none⟩ = some (.string s) := by rw [hs]; exact (hbel.cell (p := ⟨b, o + k, none⟩) hbo).trans (hc k _ (strs_at (by rw [HN.out]; exact hlt)))
      have hsn := allOf_snoc ss k (by rw [HN.out]; exact hlt)
      have hle := allOf_take_le ss (k + 1)
      rw [hsn, List.length_append] at hle
      rw [← hs] at hsn hle
      obtain ⟨t, ht⟩ : ∃ t, t = S (allOf (ss.take k)) := ⟨_, rfl⟩
      have hend : t ++ s = S (allOf (ss.take (k + 1))) := by
        apply L_inj
        rw [L_append, ht, L_S, L_S, hsn]
      have htz : (t ++ s).size ≤ 140737488351232 := by
        rw [ByteArray.size_append, ht, S_size, ← L_length s]; omega
      have htz2 : t.size + s.size ≤ 140737488351232 := by rwa [ByteArray.size_append] at htz
      rw [← ht]
      have HE := hide hend
      clear hc hs hsn hle ht hend
      go_wp2_with fail
      go_roundw
      case rel => exact ⟨k + 1, by omega, by go_num, by rw [HE.out], hbel⟩
      case measure => simp [intOf]; omega
    · obtain rfl : k = n := by omega
      have he : S (allOf (ss.take k)) = S (allOf ss) := by rw [List.take_of_length_le (by rw [HN.out]; exact Nat.le_refl _)]
      obtain ⟨t, ht⟩ : ∃ t, t = S (allOf (ss.take k)) := ⟨_, rfl⟩
      rw [← ht] at he ⊢
      have HE := hide he
      clear ht he
      go_wp2_with fail
      go_ret
      exact ⟨congrArg Ending.returned (v_str HE.out), hbel⟩

theorem rw_word (s : ByteArray) (k : Nat) (w : World) (hs : s.size ≤ maxLen) (h : k + 2 ≤ s.size) :
    Calls Tryz.prog 213 #[.string s, .int .i64 k] w (Ret (.int .u16 (be16 (L s) k)) w) := by
  have c := fun w => Get16_in s k w hs h
  obtain ⟨x, hx⟩ : ∃ x, x = be16 (L s) k := ⟨_, rfl⟩
  rw [← hx] at c ⊢
  have C := hide c
  clear c hx
  go_enter Tryz.func213, Tryz.ntmps213
  go_wp2_with fail
  (with_reducible refine (C.out _).mono ?_)
  rintro e w1 ⟨rfl, n1, rfl⟩
  go_wp2_with fail
  go_ret
  exact ⟨rfl, below_drewN (Below.refl _ _) n1⟩
theorem rw_patch (s : ByteArray) (k : Nat) (p : ByteArray) (w : World) (hs : s.size ≤ 140737488351232) (h : k + p.size ≤ s.size) :
    Calls Tryz.prog 266 #[.string s, .int .i64 k, .string p] w (Ret (.string (S ((L s).take k ++ (L p ++ (L s).drop (k + p.size))))) w) := by
  have c := fun w => With_in s k p w hs h
  obtain ⟨x, hx⟩ : ∃ x, x = S ((L s).take k ++ (L p ++ (L s).drop (k + p.size))) := ⟨_, rfl⟩
  rw [← hx] at c ⊢
  have C := hide c
  clear c hx
  go_enter Tryz.func266, Tryz.ntmps266
  go_wp2_with fail
  (with_reducible refine (C.out _).mono ?_)
  rintro e w1 ⟨rfl, b1⟩
  go_wp2_with fail
  go_ret
  exact ⟨rfl, (by (repeat' (first | with_reducible exact b1 | with_reducible exact Below.refl _ _ | with_reducible refine Below.setCell ?_ (by first | exact Nat.le_refl _ | (dsimp only; omega)) _ | with_reducible refine bstep ?_ (fresh_below _ _) | with_reducible refine Below.drew ?_)))⟩
end Go.Proofs.YtedfdphapcanoaaGreatDoor
end
