/- Several texts of this claim, one behind the other. -/
import Derived.Test.YtilfcikhipadpaaGreatDoorK22c
import Derived.Deep.RegionHeldLaw
import Derived.Deep.RegionHeld3

section
/- WithID over this program. -/
set_option linter.unusedVariables false
namespace Go.Proofs.YtilfcikhipadpaaGreatDoor
open Go.RowKit Go.Maps
attribute [local go_sem] Oper.semAt_some

set_option maxHeartbeats 4000000 in
theorem r7_WithID (m : Msg) (id : Int) (w : World) (ho : m.Ok) (hi : 0 ≤ id ∧ id ≤ 65535) :
    Calls Tryz.prog 135 #[.agg #[.int .u8 m.t, .int .u8 m.c, .int .u16 m.n, .string m.r, .string m.d], .int .u16 id] w (Ret (.agg #[.int .u8 (msgID m id).t, .int .u8 (msgID m id).c, .int .u16 (msgID m id).n, .string (msgID m id).r, .string (msgID m id).d]) w) := by
  obtain ⟨-, -, -, hr, -⟩ := ho
  obtain ⟨t, c, n, r, d⟩ := m
  have c1 := fun w => r_Put16 id w hi.1 hi.2
  simp only [msgID] at hr ⊢
  by_cases h2 : 2 ≤ r.size
  · rw [if_pos h2]
    have hz : (S (put16 id)).size = 2 := rfl
    have he : S (put16 id) ++ r.extract 2 r.size = S (lay (L r) 0 id) := by
      apply L_inj; rw [L_append, L_from]; rfl
    obtain ⟨p, hp⟩ : ∃ p, p = S (put16 id) := ⟨_, rfl⟩
    obtain ⟨u, hu⟩ : ∃ u, u = S (lay (L r) 0 id) := ⟨_, rfl⟩
    rw [← hp] at c1 hz he
    rw [← hu] at he ⊢
    have zr : (r.extract 2 r.size).size ≤ 140737488351232 := by rw [ByteArray.size_extract]; omega
    have i1 : (2 : Int) ≤ (r.size : Int) := by omega
    have C1 := hide c1; have HE := hide he
    clear c1 hp hu he
    go_enter Tryz.func135, Tryz.ntmps135
    have d0 := Cells.new w #[.int .u8 t, .int .u8 c, .int .u16 n, .string r, .string d] 164
    replace d0 := Cells.below (fresh_below (w.alloc (.cells #[.int .u8 t, .int .u8 c, .int .u16 n, .string r, .string d] 164)) (.cells #[.int .u8 0, .int .u8 0, .int .u16 0, .string { data := #[] }, .string { data := #[] }] 164)) d0
    have d1 := Cells.new (w.alloc (.cells #[.int .u8 t, .int .u8 c, .int .u16 n, .string r, .string d] 164)) #[.int .u8 0, .int .u8 0, .int .u16 0, .string { data := #[] }, .string { data := #[] }] 164
    rw [World.size_alloc] at d1
    go_wp2_with fail
    go_region_with (first | (go_at_call 118; (with_reducible refine (C1.out _).mono ?_); rintro e wq ⟨rfl, bq⟩; have D0 := Cells.up d0 (by (repeat' (first | with_reducible exact Below.refl _ _ | with_reducible refine bstep ?_ (fresh_below _ _) | with_reducible refine Below.drew ?_))) bq; have D1 := Cells.up d1 (by (repeat' (first | with_reducible exact Below.refl _ _ | with_reducible refine bstep ?_ (fresh_below _ _) | with_reducible refine Below.drew ?_))) bq; have bq2 : Below w.heap.size w wq := (by (refine bstep ?_ bq); (repeat' (first | with_reducible exact Below.refl _ _ | with_reducible refine bstep ?_ (fresh_below _ _) | with_reducible refine Below.drew ?_))); have xD0_0 : wq.cell? ⟨w.heap.size, 0, none⟩ = some (.int .u8 t) := D0.at_ 0; have yD0_0 : wq.frozen? ⟨w.heap.size, 0, none⟩ = false := D0.free 0; have xD0_1 : wq.cell? ⟨w.heap.size, 1, none⟩ = some (.int .u8 c) := D0.at_ 1; have yD0_1 : wq.frozen? ⟨w.heap.size, 1, none⟩ = false := D0.free 1; have xD0_2 : wq.cell? ⟨w.heap.size, 2, none⟩ = some (.int .u16 n) := D0.at_ 2; have yD0_2 : wq.frozen? ⟨w.heap.size, 2, none⟩ = false := D0.free 2; have xD0_3 : wq.cell? ⟨w.heap.size, 3, none⟩ = some (.string r) := D0.at_ 3; have yD0_3 : wq.frozen? ⟨w.heap.size, 3, none⟩ = false := D0.free 3; have xD0_4 : wq.cell? ⟨w.heap.size, 4, none⟩ = some (.string d) := D0.at_ 4; have yD0_4 : wq.frozen? ⟨w.heap.size, 4, none⟩ = false := D0.free 4; have xD1_0 : wq.cell? ⟨w.heap.size + 1, 0, none⟩ = some (.int .u8 0) := D1.at_ 0; have yD1_0 : wq.frozen? ⟨w.heap.size + 1, 0, none⟩ = false := D1.free 0; have xD1_1 : wq.cell? ⟨w.heap.size + 1, 1, none⟩ = some (.int .u8 0) := D1.at_ 1; have yD1_1 : wq.frozen? ⟨w.heap.size + 1, 1, none⟩ = false := D1.free 1; have xD1_2 : wq.cell? ⟨w.heap.size + 1, 2, none⟩ = some (.int .u16 0) := D1.at_ 2; have yD1_2 : wq.frozen? ⟨w.heap.size + 1, 2, none⟩ = false := D1.free 2; have xD1_3 : wq.cell? ⟨w.heap.size + 1, 3, none⟩ = some (.string { data := #[] }) := D1.at_ 3; have yD1_3 : wq.frozen? ⟨w.heap.size + 1, 3, none⟩ = false := D1.free 3; have xD1_4 : wq.cell? ⟨w.heap.size + 1, 4, none⟩ = some (.string { data := #[] }) := D1.at_ 4; have yD1_4 : wq.frozen? ⟨w.heap.size + 1, 4, none⟩ = false := D1.free 4))
    all_goals
      have zq := bq2.size
      go_wp2
      (try simp only [Exit.inBlock, Exit.then]); refine bodyPost_ret (by simp [results, Tryz.results135, go_sem, *]; try rfl) rfl ?_
      exact ⟨by rw [HE.out], by (repeat' (first | with_reducible exact bq2 | with_reducible refine Below.setCell ?_ (by first | exact Nat.le_refl _ | (dsimp only; omega)) _ | with_reducible refine bstep ?_ (fresh_below _ _) | with_reducible refine Below.drew ?_))⟩
  · rw [if_neg h2]
    have i1 : ¬ (2 : Int) ≤ (r.size : Int) := by omega
    go_enter Tryz.func135, Tryz.ntmps135
    go_wp2
    (try simp only [Exit.inBlock, Exit.then]); refine bodyPost_ret (by simp [results, Tryz.results135, go_sem, *]; try rfl) rfl ?_
    exact ⟨rfl, (by (repeat' (first | with_reducible exact Below.refl _ _ | with_reducible refine Below.setCell ?_ (by first | exact Nat.le_refl _ | (dsimp only; omega)) _ | with_reducible refine bstep ?_ (fresh_below _ _) | with_reducible refine Below.drew ?_)))⟩
end Go.Proofs.YtilfcikhipadpaaGreatDoor
end

section
/- rewrite's small functions over this program. -/
set_option linter.unusedVariables false
set_option linter.unusedSimpArgs false
namespace Go.Proofs.YtilfcikhipadpaaGreatDoor
open Go.RowKit
attribute [local go_sem] Oper.semAt_some

theorem Row.rise {X Y : World} {A : Option Addr} {n : Nat} {l : List Value} (r : Row X X.heap.size A n l) (b : Below X.heap.size X Y) : Row Y Y.heap.size A n l := (r.below b).more b.size
theorem Row.afterdraw {X : World} {A : Option Addr} {n : Nat} {l : List Value} (r : Row X X.heap.size A n l) : Row X.drew X.drew.heap.size A n l := r
/-- all bytes of some texts, one behind the other -/
def allOf (ss : List ByteArray) : List UInt8 := ss.flatMap L
theorem allOf_snoc (ss : List ByteArray) (k : Nat) (h : k < ss.length) : allOf (ss.take (k + 1)) = allOf (ss.take k) ++ L (ss.getD k ByteArray.empty) := by
  unfold allOf
  rw [take_snoc_s ss k h, List.flatMap_append]; simp
theorem allOf_take_le (ss : List ByteArray) (k : Nat) : (allOf (ss.take k)).length ≤ (allOf ss).length := by
  have h := List.take_append_drop k ss
  have h2 : allOf ss = allOf (ss.take k) ++ allOf (ss.drop k) := by
    unfold allOf
    rw [← List.flatMap_append, h]
  rw [h2, List.length_append]; omega

set_option maxHeartbeats 1000000 in
theorem rw_laid (A : Option Addr) (n c : Nat) (ss : List ByteArray) (w : World) (hr : Row w w.heap.size A n (ss.map Value.string)) (hz : (allOf ss).length ≤ 140737488351232) (hn : n ≤ 1000) :
    Calls Tryz.prog 154 #[.slice A n c] w (Ret (.string (S (allOf ss))) w) := by
  have hlen : ss.length = n := by simpa using hr.1
  have HN := hide hlen
  clear hlen
  go_enter Tryz.func154, Tryz.ntmps154
  go_wp2
  go_loopw [3, 8] (fun v i wr => ∃ k : Nat, k ≤ n ∧ i = .int .i64 k ∧ v = .string (S (allOf (ss.take k))) ∧ Below w.heap.size w wr) (fun _ i _ => n - (intOf i).toNat)
  case atStart => exact ⟨0, Nat.zero_le _, rfl, rfl, Below.refl _ _⟩
  case round =>
    obtain ⟨k, hk, rfl, rfl, hbel⟩ := hrel
    by_cases hlt : k < n
    · obtain ⟨b, o, rfl, hbo, hc⟩ := hr.at_ (by omega)
      obtain ⟨s, hs⟩ : ∃ s, s = ss.getD k ByteArray.empty := ⟨_, rfl⟩
      have hcell : wr.cell? ⟨b, o + k, none⟩ = some (.string s) := by rw [hs]; exact (hbel.cell (p := ⟨b, o + k, none⟩) hbo).trans (hc k _ (strs_at (by rw [HN.out]; exact hlt)))
      have hsn := allOf_snoc ss k (by rw [HN.out]; exact hlt)
      have hle := allOf_take_le ss (k + 1)
      rw [hsn, List.length_append] at hle
      rw [← hs] at hsn hle
      obtain ⟨t, ht⟩ : ∃ t, t = S (allOf (ss.take k)) := ⟨_, rfl⟩
      have hend : t ++ s = S (allOf (ss.take (k + 1))) := by
        apply L_inj
        rw [L_append, ht, L_S, L_S, hsn]
      have htz : (t ++ s).size ≤ 140737488351232 := by
        rw [ByteArray.size_append, ht, S_size, ← L_length s]; omega
      have htz2 : t.size + s.size ≤ 140737488351232 := by rwa [ByteArray.size_append] at htz
      rw [← ht]
      have HE := hide hend
      clear hc hs hsn hle ht hend
      go_wp2_with fail
      go_roundw
      case rel => exact ⟨k + 1, by omega, by go_num, by rw [HE.out], hbel⟩
      case measure => simp [intOf]; omega
    · obtain rfl : k = n := by omega
      have he : S (allOf (ss.take k)) = S (allOf ss) := by rw [List.take_of_length_le (by rw [HN.out]; exact Nat.le_refl _)]
      obtain ⟨t, ht⟩ : ∃ t, t = S (allOf (ss.take k)) := ⟨_, rfl⟩
      rw [← ht] at he ⊢
      have HE := hide he
      clear ht he
      go_wp2_with fail
      go_ret
      exact ⟨congrArg Ending.returned (v_str HE.out), hbel⟩

theorem rw_word (s : ByteArray) (k : Nat) (w : World) (hs : s.size ≤ maxLen) (h : k + 2 ≤ s.size) :
    Calls Tryz.prog 155 #[.string s, .int .i64 k] w (Ret (.int .u16 (be16 (L s) k)) w) := by
  have c := fun w => Get16_in s k w hs h
  obtain ⟨x, hx⟩ : ∃ x, x = be16 (L s) k := ⟨_, rfl⟩
  rw [← hx] at c ⊢
  have C := hide c
  clear c hx
  go_enter Tryz.func155, Tryz.ntmps155
  go_wp2_with fail
  (with_reducible refine (C.out _).mono ?_)
  rintro e w1 ⟨rfl, n1, rfl⟩
  go_wp2_with fail
  go_ret
  exact ⟨rfl, below_drewN (Below.refl _ _) n1⟩
theorem rw_patch (s : ByteArray) (k : Nat) (p : ByteArray) (w : World) (hs : s.size ≤ 140737488351232) (h : k + p.size ≤ s.size) :
    Calls Tryz.prog 197 #[.string s, .int .i64 k, .string p] w (Ret (.string (S ((L s).take k ++ (L p ++ (L s).drop (k + p.size))))) w) := by
  have c := fun w => With_in s k p w hs h
  obtain ⟨x, hx⟩ : ∃ x, x = S ((L s).take k ++ (L p ++ (L s).drop (k + p.size))) := ⟨_, rfl⟩
  rw [← hx] at c ⊢
  have C := hide c
  clear c hx
  go_enter Tryz.func197, Tryz.ntmps197
  go_wp2_with fail
  (with_reducible refine (C.out _).mono ?_)
  rintro e w1 ⟨rfl, b1⟩
  go_wp2_with fail
  go_ret
  exact ⟨rfl, (by (repeat' (first | with_reducible exact b1 | with_reducible exact Below.refl _ _ | with_reducible refine Below.setCell ?_ (by first | exact Nat.le_refl _ | (dsimp only; omega)) _ | with_reducible refine bstep ?_ (fresh_below _ _) | with_reducible refine Below.drew ?_)))⟩
end Go.Proofs.YtilfcikhipadpaaGreatDoor
end

section
/- Packets that are made for an example (porterref08.Made), over this program. -/
set_option linter.unusedVariables false
set_option linter.unusedSimpArgs false
namespace Go.Proofs.YtilfcikhipadpaaGreatDoor
open Go.RowKit
attribute [local go_sem] Oper.semAt_some

theorem Cells.put5 {w : World} {b : Nat} {a0 a1 a2 a3 a4 : Value} {T : TypeId} (h : Cells w b #[a0, a1, a2, a3, a4] T) (v0 v1 v2 v3 v4 : Value) : Cells (((((w.setCell ⟨b, 0, none⟩ v0).setCell ⟨b, 1, none⟩ v1).setCell ⟨b, 2, none⟩ v2).setCell ⟨b, 3, none⟩ v3).setCell ⟨b, 4, none⟩ v4) b #[v0, v1, v2, v3, v4] T := by
  have h0 : Cells (w.setCell ⟨b, 0, none⟩ v0) b #[v0, a1, a2, a3, a4] T := h.set_ 0 v0
  have h1 : Cells ((w.setCell ⟨b, 0, none⟩ v0).setCell ⟨b, 1, none⟩ v1) b #[v0, v1, a2, a3, a4] T := h0.set_ 1 v1
  have h2 : Cells (((w.setCell ⟨b, 0, none⟩ v0).setCell ⟨b, 1, none⟩ v1).setCell ⟨b, 2, none⟩ v2) b #[v0, v1, v2, a3, a4] T := h1.set_ 2 v2
  have h3 : Cells ((((w.setCell ⟨b, 0, none⟩ v0).setCell ⟨b, 1, none⟩ v1).setCell ⟨b, 2, none⟩ v2).setCell ⟨b, 3, none⟩ v3) b #[v0, v1, v2, v3, a4] T := h2.set_ 3 v3
  have h4 : Cells (((((w.setCell ⟨b, 0, none⟩ v0).setCell ⟨b, 1, none⟩ v1).setCell ⟨b, 2, none⟩ v2).setCell ⟨b, 3, none⟩ v3).setCell ⟨b, 4, none⟩ v4) b #[v0, v1, v2, v3, v4] T := h3.set_ 4 v4
  exact h4
theorem Below.put5 {w w' : World} {n b : Nat} (h : Below n w w') (hb : n ≤ b) (v0 v1 v2 v3 v4 : Value) : Below n w (((((w'.setCell ⟨b, 0, none⟩ v0).setCell ⟨b, 1, none⟩ v1).setCell ⟨b, 2, none⟩ v2).setCell ⟨b, 3, none⟩ v3).setCell ⟨b, 4, none⟩ v4) := (Below.setCell (Below.setCell (Below.setCell (Below.setCell (Below.setCell h (p := ⟨b, 0, none⟩) hb v0) (p := ⟨b, 1, none⟩) hb v1) (p := ⟨b, 2, none⟩) hb v2) (p := ⟨b, 3, none⟩) hb v3) (p := ⟨b, 4, none⟩) hb v4)
set_option maxRecDepth 100000 in
set_option maxHeartbeats 2000000 in
theorem load_udp (a b c d f : Int) (data p1 l1 : ByteArray) (w : World)
    (c1 : ∀ W, Calls Tryz.prog 134 #[.agg #[.int .u16 b, .int .u16 d, .int .u16 0, .int .u16 0], .string data] W (Ret (.string p1) W))
    (c2 : ∀ W, Calls Tryz.prog 133 #[.int .u32 a, .int .u32 c, .string p1] W (Ret (.string l1) W)) :
    Calls Tryz.prog 77 #[.agg #[.int .u8 17, .int .u32 a, .int .u16 b, .int .u32 c, .int .u16 d], .int .u8 f, .string data] w (Ret (.string l1) w) := by
  have C1 := hide c1; have C2 := hide c2
  clear c1 c2
  go_enter Tryz.func77, Tryz.ntmps77
  have d0 := Cells.new w #[.int .u8 17, .int .u32 a, .int .u16 b, .int .u32 c, .int .u16 d] 33
  obtain ⟨xd0_0, xd0_1, xd0_2, xd0_3, xd0_4⟩ := d0.x5
  go_wp2_with fail
  have SK := hide (fun (zX zY : World) (zh : (Below w.heap.size w zX ∧ zX.cell? ⟨w.heap.size, 0, none⟩ = some (.int .u8 17) ∧ zX.cell? ⟨w.heap.size, 1, none⟩ = some (.int .u32 a) ∧ zX.cell? ⟨w.heap.size, 2, none⟩ = some (.int .u16 b) ∧ zX.cell? ⟨w.heap.size, 3, none⟩ = some (.int .u32 c) ∧ zX.cell? ⟨w.heap.size, 4, none⟩ = some (.int .u16 d) ∧ True)) (zb : Below zX.heap.size zX zY) => (show (Below w.heap.size w zY ∧ zY.cell? ⟨w.heap.size, 0, none⟩ = some (.int .u8 17) ∧ zY.cell? ⟨w.heap.size, 1, none⟩ = some (.int .u32 a) ∧ zY.cell? ⟨w.heap.size, 2, none⟩ = some (.int .u16 b) ∧ zY.cell? ⟨w.heap.size, 3, none⟩ = some (.int .u32 c) ∧ zY.cell? ⟨w.heap.size, 4, none⟩ = some (.int .u16 d) ∧ True) from ⟨bstep zh.1 zb, cellAt zb zh.2.1, cellAt zb zh.2.2.1, cellAt zb zh.2.2.2.1, cellAt zb zh.2.2.2.2.1, cellAt zb zh.2.2.2.2.2.1, trivial⟩))
  have FS := hide (fun (zX : World) (zh : (Below w.heap.size w zX ∧ zX.cell? ⟨w.heap.size, 0, none⟩ = some (.int .u8 17) ∧ zX.cell? ⟨w.heap.size, 1, none⟩ = some (.int .u32 a) ∧ zX.cell? ⟨w.heap.size, 2, none⟩ = some (.int .u16 b) ∧ zX.cell? ⟨w.heap.size, 3, none⟩ = some (.int .u32 c) ∧ zX.cell? ⟨w.heap.size, 4, none⟩ = some (.int .u16 d) ∧ True)) => zh.1)
  have GS := hide (fun (zX : World) (zh : (Below w.heap.size w zX ∧ zX.cell? ⟨w.heap.size, 0, none⟩ = some (.int .u8 17) ∧ zX.cell? ⟨w.heap.size, 1, none⟩ = some (.int .u32 a) ∧ zX.cell? ⟨w.heap.size, 2, none⟩ = some (.int .u16 b) ∧ zX.cell? ⟨w.heap.size, 3, none⟩ = some (.int .u32 c) ∧ zX.cell? ⟨w.heap.size, 4, none⟩ = some (.int .u16 d) ∧ True)) => zh)
  have hS0 : (Below w.heap.size w (w.alloc (.cells #[.int .u8 17, .int .u32 a, .int .u16 b, .int .u32 c, .int .u16 d] 33)) ∧ (w.alloc (.cells #[.int .u8 17, .int .u32 a, .int .u16 b, .int .u32 c, .int .u16 d] 33)).cell? ⟨w.heap.size, 0, none⟩ = some (.int .u8 17) ∧ (w.alloc (.cells #[.int .u8 17, .int .u32 a, .int .u16 b, .int .u32 c, .int .u16 d] 33)).cell? ⟨w.heap.size, 1, none⟩ = some (.int .u32 a) ∧ (w.alloc (.cells #[.int .u8 17, .int .u32 a, .int .u16 b, .int .u32 c, .int .u16 d] 33)).cell? ⟨w.heap.size, 2, none⟩ = some (.int .u16 b) ∧ (w.alloc (.cells #[.int .u8 17, .int .u32 a, .int .u16 b, .int .u32 c, .int .u16 d] 33)).cell? ⟨w.heap.size, 3, none⟩ = some (.int .u32 c) ∧ (w.alloc (.cells #[.int .u8 17, .int .u32 a, .int .u16 b, .int .u32 c, .int .u16 d] 33)).cell? ⟨w.heap.size, 4, none⟩ = some (.int .u16 d) ∧ True) := ⟨(by (repeat' (first | with_reducible exact Below.refl _ _ | with_reducible refine Below.setCell ?_ (by first | exact Nat.le_refl _ | (dsimp only; omega)) _ | with_reducible refine bstep ?_ (fresh_below _ _) | with_reducible refine Below.drew ?_))), d0.at_ 0, d0.at_ 1, d0.at_ 2, d0.at_ 3, d0.at_ 4, trivial⟩
  go_region_held_law (fun w' => (Below w.heap.size w w' ∧ w'.cell? ⟨w.heap.size, 0, none⟩ = some (.int .u8 17) ∧ w'.cell? ⟨w.heap.size, 1, none⟩ = some (.int .u32 a) ∧ w'.cell? ⟨w.heap.size, 2, none⟩ = some (.int .u16 b) ∧ w'.cell? ⟨w.heap.size, 3, none⟩ = some (.int .u32 c) ∧ w'.cell? ⟨w.heap.size, 4, none⟩ = some (.int .u16 d) ∧ True)) (first | assumption | exact SK.out _ _ hS0 (Below.refl _ _).drew | exact SK.out _ _ hS0 (fresh_below _ _).drew | exact SK.out _ _ (by assumption) (fresh_below _ _) | (refine SK.out _ _ ?_ (by assumption); assumption))
    (first | (go_at_call 134; (with_reducible refine (C1.out _).mono ?_); rintro e wq ⟨rfl, bq⟩) | (go_at_call 133; (with_reducible refine (C2.out _).mono ?_); rintro e wq ⟨rfl, bq⟩))
  all_goals
    go_wp2
    go_ret
    exact ⟨rfl, (by first | exact FS.out _ (by assumption) | exact bstep (FS.out _ (by assumption)) (fresh_below _ _) | exact bstep (bstep (FS.out _ (by assumption)) (fresh_below _ _)) (fresh_below _ _))⟩

set_option maxRecDepth 100000 in
set_option maxHeartbeats 2000000 in
theorem load_ask (a b c f : Int) (data s1 l1 : ByteArray) (y0 y1 y2 z0 z1 z2 : Int) (y3 y4 z3 z4 : ByteArray) (w : World)
    (c1 : ∀ W, Calls Tryz.prog 135 #[.agg #[.int .u8 8, .int .u8 0, .int .u16 0, .string { data := #[0, 0, 0, 1] }, .string data], .int .u16 b] W (Ret (.agg #[.int .u8 y0, .int .u8 y1, .int .u16 y2, .string y3, .string y4]) W))
    
    (c3 : ∀ W, Calls Tryz.prog 78 #[.agg #[.int .u8 y0, .int .u8 y1, .int .u16 y2, .string y3, .string y4]] W (Ret (.tuple #[.string s1, .int .i64 0]) W))
    (c4 : ∀ W, Calls Tryz.prog 79 #[.string s1] W (Ret (.string l1) W)) :
    Calls Tryz.prog 77 #[.agg #[.int .u8 1, .int .u32 a, .int .u16 b, .int .u32 c, .int .u16 0], .int .u8 f, .string data] w (Ret (.string l1) w) := by
  have C1 := hide c1; have C3 := hide c3; have C4 := hide c4
  clear c1 c3 c4
  go_enter Tryz.func77, Tryz.ntmps77
  have d0 := Cells.new w #[.int .u8 1, .int .u32 a, .int .u16 b, .int .u32 c, .int .u16 0] 33
  replace d0 := Cells.below (fresh_below (w.alloc (.cells #[.int .u8 1, .int .u32 a, .int .u16 b, .int .u32 c, .int .u16 0] 33)) (.cells #[.int .u8 8, .int .u8 0, .int .u16 0, .string { data := #[0, 0, 0, 1] }, .string data] 164)) d0
  have e0 := Cells.new (w.alloc (.cells #[.int .u8 1, .int .u32 a, .int .u16 b, .int .u32 c, .int .u16 0] 33)) #[.int .u8 8, .int .u8 0, .int .u16 0, .string { data := #[0, 0, 0, 1] }, .string data] 164
  rw [World.size_alloc] at e0
  have dx := d0
  obtain ⟨xdx_0, xdx_1, xdx_2, xdx_3, xdx_4⟩ := dx.x5
  have dy := Cells.new w #[.int .u8 1, .int .u32 a, .int .u16 b, .int .u32 c, .int .u16 0] 33
  obtain ⟨xdy_0, xdy_1, xdy_2, xdy_3, xdy_4⟩ := dy.x5
  obtain ⟨xe0_0, xe0_1, xe0_2, xe0_3, xe0_4⟩ := e0.x5
  go_wp2_with fail
  (with_reducible refine (C1.out _).mono ?_)
  rintro e w1 ⟨rfl, b1⟩
  have d1 := Cells.below b1 d0
  have e1 := Cells.below b1 e0
  replace b1 : Below w.heap.size w w1 := bstep (bstep (fresh_below _ _) (fresh_below _ _)) b1
  have e2 := Cells.put5 e1 (.int .u8 y0) (.int .u8 y1) (.int .u16 y2) (.string y3) (.string y4)
  have d2 : Cells (((((w1.setCell ⟨w.heap.size + 1, 0, none⟩ (.int .u8 y0)).setCell ⟨w.heap.size + 1, 1, none⟩ (.int .u8 y1)).setCell ⟨w.heap.size + 1, 2, none⟩ (.int .u16 y2)).setCell ⟨w.heap.size + 1, 3, none⟩ (.string y3)).setCell ⟨w.heap.size + 1, 4, none⟩ (.string y4)) w.heap.size #[.int .u8 1, .int .u32 a, .int .u16 b, .int .u32 c, .int .u16 0] 33 := ((((d1.other (by omega) 0 _).other (by omega) 1 _).other (by omega) 2 _).other (by omega) 3 _).other (by omega) 4 _
  have b2 := Below.put5 b1 (b := w.heap.size + 1) (by omega) (.int .u8 y0) (.int .u8 y1) (.int .u16 y2) (.string y3) (.string y4)
  obtain ⟨xe1_0, xe1_1, xe1_2, xe1_3, xe1_4⟩ := e1.x5
  obtain ⟨ye1_0, ye1_1, ye1_2, ye1_3, ye1_4⟩ := e1.y5
  clear d0 e0 dx dy xdx_0 xdx_1 xdx_2 xdx_3 xdx_4 xdy_0 xdy_1 xdy_2 xdy_3 xdy_4 xe0_0 xe0_1 xe0_2 xe0_3 xe0_4 b1
  have E2 := hide e2; have D2 := hide d2; have B2 := hide b2
  have x2_4 : (((((w1.setCell ⟨w.heap.size + 1, 0, none⟩ (.int .u8 y0)).setCell ⟨w.heap.size + 1, 1, none⟩ (.int .u8 y1)).setCell ⟨w.heap.size + 1, 2, none⟩ (.int .u16 y2)).setCell ⟨w.heap.size + 1, 3, none⟩ (.string y3)).setCell ⟨w.heap.size + 1, 4, none⟩ (.string y4)).cell? ⟨w.heap.size, 4, none⟩ = some (.int .u16 0) := d2.at_ 4
  have k0 : (((((w1.setCell ⟨w.heap.size + 1, 0, none⟩ (.int .u8 y0)).setCell ⟨w.heap.size + 1, 1, none⟩ (.int .u8 y1)).setCell ⟨w.heap.size + 1, 2, none⟩ (.int .u16 y2)).setCell ⟨w.heap.size + 1, 3, none⟩ (.string y3)).setCell ⟨w.heap.size + 1, 4, none⟩ (.string y4)).cell? ⟨w.heap.size + 1, 0, none⟩ = some (.int .u8 y0) := e2.at_ 0
  have k1 : (((((w1.setCell ⟨w.heap.size + 1, 0, none⟩ (.int .u8 y0)).setCell ⟨w.heap.size + 1, 1, none⟩ (.int .u8 y1)).setCell ⟨w.heap.size + 1, 2, none⟩ (.int .u16 y2)).setCell ⟨w.heap.size + 1, 3, none⟩ (.string y3)).setCell ⟨w.heap.size + 1, 4, none⟩ (.string y4)).cell? ⟨w.heap.size + 1, 1, none⟩ = some (.int .u8 y1) := e2.at_ 1
  have k2 : (((((w1.setCell ⟨w.heap.size + 1, 0, none⟩ (.int .u8 y0)).setCell ⟨w.heap.size + 1, 1, none⟩ (.int .u8 y1)).setCell ⟨w.heap.size + 1, 2, none⟩ (.int .u16 y2)).setCell ⟨w.heap.size + 1, 3, none⟩ (.string y3)).setCell ⟨w.heap.size + 1, 4, none⟩ (.string y4)).cell? ⟨w.heap.size + 1, 2, none⟩ = some (.int .u16 y2) := e2.at_ 2
  have k3 : (((((w1.setCell ⟨w.heap.size + 1, 0, none⟩ (.int .u8 y0)).setCell ⟨w.heap.size + 1, 1, none⟩ (.int .u8 y1)).setCell ⟨w.heap.size + 1, 2, none⟩ (.int .u16 y2)).setCell ⟨w.heap.size + 1, 3, none⟩ (.string y3)).setCell ⟨w.heap.size + 1, 4, none⟩ (.string y4)).cell? ⟨w.heap.size + 1, 3, none⟩ = some (.string y3) := e2.at_ 3
  have k4 : (((((w1.setCell ⟨w.heap.size + 1, 0, none⟩ (.int .u8 y0)).setCell ⟨w.heap.size + 1, 1, none⟩ (.int .u8 y1)).setCell ⟨w.heap.size + 1, 2, none⟩ (.int .u16 y2)).setCell ⟨w.heap.size + 1, 3, none⟩ (.string y3)).setCell ⟨w.heap.size + 1, 4, none⟩ (.string y4)).cell? ⟨w.heap.size + 1, 4, none⟩ = some (.string y4) := e2.at_ 4
  clear d1 e1 e2 d2 b2
  go_wp2_with fail
  (with_reducible refine (C3.out _).mono ?_)
  rintro e w3 ⟨rfl, b3⟩
  replace b3 : Below w.heap.size w w3 := bstep B2.out b3
  go_wp2_with fail
  (with_reducible refine (C4.out _).mono ?_)
  rintro e w4 ⟨rfl, b4⟩
  replace b4 : Below w.heap.size w w4 := bstep b3 b4
  go_wp2_with fail
  go_ret
  exact ⟨rfl, b4⟩

set_option maxRecDepth 100000 in
set_option maxHeartbeats 2000000 in
theorem load_told (a c d f : Int) (data s1 l1 : ByteArray) (y0 y1 y2 z0 z1 z2 : Int) (y3 y4 z3 z4 : ByteArray) (w : World) (hd : d ≠ 0)
    (c1 : ∀ W, Calls Tryz.prog 135 #[.agg #[.int .u8 8, .int .u8 0, .int .u16 0, .string { data := #[0, 0, 0, 1] }, .string data], .int .u16 0] W (Ret (.agg #[.int .u8 y0, .int .u8 y1, .int .u16 y2, .string y3, .string y4]) W))
    (c2 : ∀ W, Calls Tryz.prog 135 #[.agg #[.int .u8 0, .int .u8 y1, .int .u16 y2, .string y3, .string y4], .int .u16 d] W (Ret (.agg #[.int .u8 z0, .int .u8 z1, .int .u16 z2, .string z3, .string z4]) W))
    (c3 : ∀ W, Calls Tryz.prog 78 #[.agg #[.int .u8 z0, .int .u8 z1, .int .u16 z2, .string z3, .string z4]] W (Ret (.tuple #[.string s1, .int .i64 0]) W))
    (c4 : ∀ W, Calls Tryz.prog 79 #[.string s1] W (Ret (.string l1) W)) :
    Calls Tryz.prog 77 #[.agg #[.int .u8 1, .int .u32 a, .int .u16 0, .int .u32 c, .int .u16 d], .int .u8 f, .string data] w (Ret (.string l1) w) := by
  have q1 : (d != 0) = true := by simpa using hd
  have q2 : (d == 0) = false := by simpa using hd
  have C2 := hide c2
  clear hd c2
  have C1 := hide c1; have C3 := hide c3; have C4 := hide c4
  clear c1 c3 c4
  go_enter Tryz.func77, Tryz.ntmps77
  have d0 := Cells.new w #[.int .u8 1, .int .u32 a, .int .u16 0, .int .u32 c, .int .u16 d] 33
  replace d0 := Cells.below (fresh_below (w.alloc (.cells #[.int .u8 1, .int .u32 a, .int .u16 0, .int .u32 c, .int .u16 d] 33)) (.cells #[.int .u8 8, .int .u8 0, .int .u16 0, .string { data := #[0, 0, 0, 1] }, .string data] 164)) d0
  have e0 := Cells.new (w.alloc (.cells #[.int .u8 1, .int .u32 a, .int .u16 0, .int .u32 c, .int .u16 d] 33)) #[.int .u8 8, .int .u8 0, .int .u16 0, .string { data := #[0, 0, 0, 1] }, .string data] 164
  rw [World.size_alloc] at e0
  have dx := d0
  obtain ⟨xdx_0, xdx_1, xdx_2, xdx_3, xdx_4⟩ := dx.x5
  have dy := Cells.new w #[.int .u8 1, .int .u32 a, .int .u16 0, .int .u32 c, .int .u16 d] 33
  obtain ⟨xdy_0, xdy_1, xdy_2, xdy_3, xdy_4⟩ := dy.x5
  obtain ⟨xe0_0, xe0_1, xe0_2, xe0_3, xe0_4⟩ := e0.x5
  go_wp2_with fail
  (with_reducible refine (C1.out _).mono ?_)
  rintro e w1 ⟨rfl, b1⟩
  have d1 := Cells.below b1 d0
  have e1 := Cells.below b1 e0
  replace b1 : Below w.heap.size w w1 := bstep (bstep (fresh_below _ _) (fresh_below _ _)) b1
  have e2 := Cells.put5 e1 (.int .u8 y0) (.int .u8 y1) (.int .u16 y2) (.string y3) (.string y4)
  have d2 : Cells (((((w1.setCell ⟨w.heap.size + 1, 0, none⟩ (.int .u8 y0)).setCell ⟨w.heap.size + 1, 1, none⟩ (.int .u8 y1)).setCell ⟨w.heap.size + 1, 2, none⟩ (.int .u16 y2)).setCell ⟨w.heap.size + 1, 3, none⟩ (.string y3)).setCell ⟨w.heap.size + 1, 4, none⟩ (.string y4)) w.heap.size #[.int .u8 1, .int .u32 a, .int .u16 0, .int .u32 c, .int .u16 d] 33 := ((((d1.other (by omega) 0 _).other (by omega) 1 _).other (by omega) 2 _).other (by omega) 3 _).other (by omega) 4 _
  have b2 := Below.put5 b1 (b := w.heap.size + 1) (by omega) (.int .u8 y0) (.int .u8 y1) (.int .u16 y2) (.string y3) (.string y4)
  obtain ⟨xe1_0, xe1_1, xe1_2, xe1_3, xe1_4⟩ := e1.x5
  obtain ⟨ye1_0, ye1_1, ye1_2, ye1_3, ye1_4⟩ := e1.y5
  clear d0 e0 dx dy xdx_0 xdx_1 xdx_2 xdx_3 xdx_4 xdy_0 xdy_1 xdy_2 xdy_3 xdy_4 xe0_0 xe0_1 xe0_2 xe0_3 xe0_4 b1
  have E2 := hide e2; have D2 := hide d2; have B2 := hide b2
  have x2_4 : (((((w1.setCell ⟨w.heap.size + 1, 0, none⟩ (.int .u8 y0)).setCell ⟨w.heap.size + 1, 1, none⟩ (.int .u8 y1)).setCell ⟨w.heap.size + 1, 2, none⟩ (.int .u16 y2)).setCell ⟨w.heap.size + 1, 3, none⟩ (.string y3)).setCell ⟨w.heap.size + 1, 4, none⟩ (.string y4)).cell? ⟨w.heap.size, 4, none⟩ = some (.int .u16 d) := d2.at_ 4
  have e3 := e2.set_ 0 (.int .u8 0)
  have d3 := d2.other (show w.heap.size ≠ w.heap.size + 1 by omega) 0 (.int .u8 0)
  have b3 := b2.setCell (p := ⟨w.heap.size + 1, 0, none⟩) (by dsimp only; omega) (.int .u8 0)
  have k0 : (((((w1.setCell ⟨w.heap.size + 1, 0, none⟩ (.int .u8 y0)).setCell ⟨w.heap.size + 1, 1, none⟩ (.int .u8 y1)).setCell ⟨w.heap.size + 1, 2, none⟩ (.int .u16 y2)).setCell ⟨w.heap.size + 1, 3, none⟩ (.string y3)).setCell ⟨w.heap.size + 1, 4, none⟩ (.string y4)).cell? ⟨w.heap.size + 1, 0, none⟩ = some (.int .u8 y0) := e2.at_ 0
  have f0 := e2.free 0
  have j0 : ((((((w1.setCell ⟨w.heap.size + 1, 0, none⟩ (.int .u8 y0)).setCell ⟨w.heap.size + 1, 1, none⟩ (.int .u8 y1)).setCell ⟨w.heap.size + 1, 2, none⟩ (.int .u16 y2)).setCell ⟨w.heap.size + 1, 3, none⟩ (.string y3)).setCell ⟨w.heap.size + 1, 4, none⟩ (.string y4)).setCell ⟨w.heap.size + 1, 0, none⟩ (.int .u8 0)).cell? ⟨w.heap.size + 1, 0, none⟩ = some (.int .u8 0) := e3.at_ 0
  have j1 : ((((((w1.setCell ⟨w.heap.size + 1, 0, none⟩ (.int .u8 y0)).setCell ⟨w.heap.size + 1, 1, none⟩ (.int .u8 y1)).setCell ⟨w.heap.size + 1, 2, none⟩ (.int .u16 y2)).setCell ⟨w.heap.size + 1, 3, none⟩ (.string y3)).setCell ⟨w.heap.size + 1, 4, none⟩ (.string y4)).setCell ⟨w.heap.size + 1, 0, none⟩ (.int .u8 0)).cell? ⟨w.heap.size + 1, 1, none⟩ = some (.int .u8 y1) := e3.at_ 1
  have j2 : ((((((w1.setCell ⟨w.heap.size + 1, 0, none⟩ (.int .u8 y0)).setCell ⟨w.heap.size + 1, 1, none⟩ (.int .u8 y1)).setCell ⟨w.heap.size + 1, 2, none⟩ (.int .u16 y2)).setCell ⟨w.heap.size + 1, 3, none⟩ (.string y3)).setCell ⟨w.heap.size + 1, 4, none⟩ (.string y4)).setCell ⟨w.heap.size + 1, 0, none⟩ (.int .u8 0)).cell? ⟨w.heap.size + 1, 2, none⟩ = some (.int .u16 y2) := e3.at_ 2
  have j3 : ((((((w1.setCell ⟨w.heap.size + 1, 0, none⟩ (.int .u8 y0)).setCell ⟨w.heap.size + 1, 1, none⟩ (.int .u8 y1)).setCell ⟨w.heap.size + 1, 2, none⟩ (.int .u16 y2)).setCell ⟨w.heap.size + 1, 3, none⟩ (.string y3)).setCell ⟨w.heap.size + 1, 4, none⟩ (.string y4)).setCell ⟨w.heap.size + 1, 0, none⟩ (.int .u8 0)).cell? ⟨w.heap.size + 1, 3, none⟩ = some (.string y3) := e3.at_ 3
  have j4 : ((((((w1.setCell ⟨w.heap.size + 1, 0, none⟩ (.int .u8 y0)).setCell ⟨w.heap.size + 1, 1, none⟩ (.int .u8 y1)).setCell ⟨w.heap.size + 1, 2, none⟩ (.int .u16 y2)).setCell ⟨w.heap.size + 1, 3, none⟩ (.string y3)).setCell ⟨w.heap.size + 1, 4, none⟩ (.string y4)).setCell ⟨w.heap.size + 1, 0, none⟩ (.int .u8 0)).cell? ⟨w.heap.size + 1, 4, none⟩ = some (.string y4) := e3.at_ 4
  have j9 : ((((((w1.setCell ⟨w.heap.size + 1, 0, none⟩ (.int .u8 y0)).setCell ⟨w.heap.size + 1, 1, none⟩ (.int .u8 y1)).setCell ⟨w.heap.size + 1, 2, none⟩ (.int .u16 y2)).setCell ⟨w.heap.size + 1, 3, none⟩ (.string y3)).setCell ⟨w.heap.size + 1, 4, none⟩ (.string y4)).setCell ⟨w.heap.size + 1, 0, none⟩ (.int .u8 0)).cell? ⟨w.heap.size, 4, none⟩ = some (.int .u16 d) := d3.at_ 4
  have E3 := hide e3; have D3 := hide d3; have B3 := hide b3
  clear d1 e1 e2 d2 b2 e3 d3 b3
  go_wp2_with fail
  (with_reducible refine (C2.out _).mono ?_)
  rintro e w4 ⟨rfl, b4⟩
  have e4 := Cells.below b4 E3.out
  have b5 : Below w.heap.size w w4 := bstep B3.out b4
  have e5 := Cells.put5 e4 (.int .u8 z0) (.int .u8 z1) (.int .u16 z2) (.string z3) (.string z4)
  have b6 := Below.put5 b5 (b := w.heap.size + 1) (by omega) (.int .u8 z0) (.int .u8 z1) (.int .u16 z2) (.string z3) (.string z4)
  obtain ⟨xe4_0, xe4_1, xe4_2, xe4_3, xe4_4⟩ := e4.x5
  obtain ⟨ye4_0, ye4_1, ye4_2, ye4_3, ye4_4⟩ := e4.y5
  have l0 : (((((w4.setCell ⟨w.heap.size + 1, 0, none⟩ (.int .u8 z0)).setCell ⟨w.heap.size + 1, 1, none⟩ (.int .u8 z1)).setCell ⟨w.heap.size + 1, 2, none⟩ (.int .u16 z2)).setCell ⟨w.heap.size + 1, 3, none⟩ (.string z3)).setCell ⟨w.heap.size + 1, 4, none⟩ (.string z4)).cell? ⟨w.heap.size + 1, 0, none⟩ = some (.int .u8 z0) := e5.at_ 0
  have l1 : (((((w4.setCell ⟨w.heap.size + 1, 0, none⟩ (.int .u8 z0)).setCell ⟨w.heap.size + 1, 1, none⟩ (.int .u8 z1)).setCell ⟨w.heap.size + 1, 2, none⟩ (.int .u16 z2)).setCell ⟨w.heap.size + 1, 3, none⟩ (.string z3)).setCell ⟨w.heap.size + 1, 4, none⟩ (.string z4)).cell? ⟨w.heap.size + 1, 1, none⟩ = some (.int .u8 z1) := e5.at_ 1
  have l2 : (((((w4.setCell ⟨w.heap.size + 1, 0, none⟩ (.int .u8 z0)).setCell ⟨w.heap.size + 1, 1, none⟩ (.int .u8 z1)).setCell ⟨w.heap.size + 1, 2, none⟩ (.int .u16 z2)).setCell ⟨w.heap.size + 1, 3, none⟩ (.string z3)).setCell ⟨w.heap.size + 1, 4, none⟩ (.string z4)).cell? ⟨w.heap.size + 1, 2, none⟩ = some (.int .u16 z2) := e5.at_ 2
  have l3 : (((((w4.setCell ⟨w.heap.size + 1, 0, none⟩ (.int .u8 z0)).setCell ⟨w.heap.size + 1, 1, none⟩ (.int .u8 z1)).setCell ⟨w.heap.size + 1, 2, none⟩ (.int .u16 z2)).setCell ⟨w.heap.size + 1, 3, none⟩ (.string z3)).setCell ⟨w.heap.size + 1, 4, none⟩ (.string z4)).cell? ⟨w.heap.size + 1, 3, none⟩ = some (.string z3) := e5.at_ 3
  have l4 : (((((w4.setCell ⟨w.heap.size + 1, 0, none⟩ (.int .u8 z0)).setCell ⟨w.heap.size + 1, 1, none⟩ (.int .u8 z1)).setCell ⟨w.heap.size + 1, 2, none⟩ (.int .u16 z2)).setCell ⟨w.heap.size + 1, 3, none⟩ (.string z3)).setCell ⟨w.heap.size + 1, 4, none⟩ (.string z4)).cell? ⟨w.heap.size + 1, 4, none⟩ = some (.string z4) := e5.at_ 4
  have B6 := hide b6
  clear e4 e5 b4 b5 b6 j0 j1 j2 j3 j4 j9 k0 f0 E3 D3 B3 E2 D2 B2 x2_4
  go_wp2_with fail
  (with_reducible refine (C3.out _).mono ?_)
  rintro e w7 ⟨rfl, b7⟩
  replace b7 : Below w.heap.size w w7 := bstep B6.out b7
  go_wp2_with fail
  (with_reducible refine (C4.out _).mono ?_)
  rintro e w8 ⟨rfl, b8⟩
  replace b8 : Below w.heap.size w w8 := bstep b7 b8
  go_wp2_with fail
  go_ret
  exact ⟨rfl, b8⟩

set_option maxRecDepth 100000 in
set_option maxHeartbeats 2000000 in
theorem made (p a b c d f l : Int) (data l1 out : ByteArray) (w : World)
    (c1 : ∀ W, Calls Tryz.prog 77 #[.agg #[.int .u8 p, .int .u32 a, .int .u16 b, .int .u32 c, .int .u16 d], .int .u8 f, .string data] W (Ret (.string l1) W))
    (c2 : ∀ W, Calls Tryz.prog 76 #[.agg #[.int .u8 0, .int .u16 0, .bool false, .int .u8 l, .int .u8 p, .int .u32 a, .int .u32 c, .string { data := #[] }], .string l1] W (Ret (.tuple #[.string out, .int .i64 0]) W)) :
    Calls Tryz.prog 28 #[.agg #[.int .u8 p, .int .u32 a, .int .u16 b, .int .u32 c, .int .u16 d], .int .u8 f, .int .u8 l, .string data] w (Ret (.string out) w) := by
  have C1 := hide c1; have C2 := hide c2
  clear c1 c2
  go_enter Tryz.func28, Tryz.ntmps28
  have d0 := Cells.new w #[.int .u8 p, .int .u32 a, .int .u16 b, .int .u32 c, .int .u16 d] 33
  go_wp2_with fail
  have SK := hide (fun (zX zY : World) (zh : (Below w.heap.size w zX ∧ zX.cell? ⟨w.heap.size, 0, none⟩ = some (.int .u8 p) ∧ zX.cell? ⟨w.heap.size, 1, none⟩ = some (.int .u32 a) ∧ zX.cell? ⟨w.heap.size, 2, none⟩ = some (.int .u16 b) ∧ zX.cell? ⟨w.heap.size, 3, none⟩ = some (.int .u32 c) ∧ zX.cell? ⟨w.heap.size, 4, none⟩ = some (.int .u16 d) ∧ True)) (zb : Below zX.heap.size zX zY) => (show (Below w.heap.size w zY ∧ zY.cell? ⟨w.heap.size, 0, none⟩ = some (.int .u8 p) ∧ zY.cell? ⟨w.heap.size, 1, none⟩ = some (.int .u32 a) ∧ zY.cell? ⟨w.heap.size, 2, none⟩ = some (.int .u16 b) ∧ zY.cell? ⟨w.heap.size, 3, none⟩ = some (.int .u32 c) ∧ zY.cell? ⟨w.heap.size, 4, none⟩ = some (.int .u16 d) ∧ True) from ⟨bstep zh.1 zb, cellAt zb zh.2.1, cellAt zb zh.2.2.1, cellAt zb zh.2.2.2.1, cellAt zb zh.2.2.2.2.1, cellAt zb zh.2.2.2.2.2.1, trivial⟩))
  have FS := hide (fun (zX : World) (zh : (Below w.heap.size w zX ∧ zX.cell? ⟨w.heap.size, 0, none⟩ = some (.int .u8 p) ∧ zX.cell? ⟨w.heap.size, 1, none⟩ = some (.int .u32 a) ∧ zX.cell? ⟨w.heap.size, 2, none⟩ = some (.int .u16 b) ∧ zX.cell? ⟨w.heap.size, 3, none⟩ = some (.int .u32 c) ∧ zX.cell? ⟨w.heap.size, 4, none⟩ = some (.int .u16 d) ∧ True)) => zh.1)
  have GS := hide (fun (zX : World) (zh : (Below w.heap.size w zX ∧ zX.cell? ⟨w.heap.size, 0, none⟩ = some (.int .u8 p) ∧ zX.cell? ⟨w.heap.size, 1, none⟩ = some (.int .u32 a) ∧ zX.cell? ⟨w.heap.size, 2, none⟩ = some (.int .u16 b) ∧ zX.cell? ⟨w.heap.size, 3, none⟩ = some (.int .u32 c) ∧ zX.cell? ⟨w.heap.size, 4, none⟩ = some (.int .u16 d) ∧ True)) => zh)
  have hS0 : (Below w.heap.size w (w.alloc (.cells #[.int .u8 p, .int .u32 a, .int .u16 b, .int .u32 c, .int .u16 d] 33)) ∧ (w.alloc (.cells #[.int .u8 p, .int .u32 a, .int .u16 b, .int .u32 c, .int .u16 d] 33)).cell? ⟨w.heap.size, 0, none⟩ = some (.int .u8 p) ∧ (w.alloc (.cells #[.int .u8 p, .int .u32 a, .int .u16 b, .int .u32 c, .int .u16 d] 33)).cell? ⟨w.heap.size, 1, none⟩ = some (.int .u32 a) ∧ (w.alloc (.cells #[.int .u8 p, .int .u32 a, .int .u16 b, .int .u32 c, .int .u16 d] 33)).cell? ⟨w.heap.size, 2, none⟩ = some (.int .u16 b) ∧ (w.alloc (.cells #[.int .u8 p, .int .u32 a, .int .u16 b, .int .u32 c, .int .u16 d] 33)).cell? ⟨w.heap.size, 3, none⟩ = some (.int .u32 c) ∧ (w.alloc (.cells #[.int .u8 p, .int .u32 a, .int .u16 b, .int .u32 c, .int .u16 d] 33)).cell? ⟨w.heap.size, 4, none⟩ = some (.int .u16 d) ∧ True) := ⟨(by (repeat' (first | with_reducible exact Below.refl _ _ | with_reducible refine Below.setCell ?_ (by first | exact Nat.le_refl _ | (dsimp only; omega)) _ | with_reducible refine bstep ?_ (fresh_below _ _) | with_reducible refine Below.drew ?_))), d0.at_ 0, d0.at_ 1, d0.at_ 2, d0.at_ 3, d0.at_ 4, trivial⟩
  go_region_held_law (fun w' => (Below w.heap.size w w' ∧ w'.cell? ⟨w.heap.size, 0, none⟩ = some (.int .u8 p) ∧ w'.cell? ⟨w.heap.size, 1, none⟩ = some (.int .u32 a) ∧ w'.cell? ⟨w.heap.size, 2, none⟩ = some (.int .u16 b) ∧ w'.cell? ⟨w.heap.size, 3, none⟩ = some (.int .u32 c) ∧ w'.cell? ⟨w.heap.size, 4, none⟩ = some (.int .u16 d) ∧ True)) (first | assumption | exact SK.out _ _ hS0 (Below.refl _ _).drew | exact SK.out _ _ hS0 (fresh_below _ _).drew | exact SK.out _ _ (by assumption) (fresh_below _ _) | (refine SK.out _ _ ?_ (by assumption); assumption))
    (first | (go_at_call 77; (with_reducible refine (C1.out _).mono ?_); rintro e wq ⟨rfl, bq⟩) | (go_at_call 76; (with_reducible refine (C2.out _).mono ?_); rintro e wq ⟨rfl, bq⟩))
  all_goals
    go_wp2
    go_ret
    exact ⟨rfl, (by first | exact FS.out _ (by assumption) | exact bstep (FS.out _ (by assumption)) (fresh_below _ _) | exact bstep (bstep (FS.out _ (by assumption)) (fresh_below _ _)) (fresh_below _ _))⟩
end Go.Proofs.YtilfcikhipadpaaGreatDoor
end

section
/- What is seen of a packet: plain. No walk. -/
set_option linter.unusedVariables false
namespace Go.Proofs.YtilfcikhipadpaaGreatDoor
open Go.RowKit

/-- between whom a packet goes -/
structure Tup where
  p : Int
  a : Int
  b : Int
  c : Int
  d : Int
def Tup.Ok (t : Tup) : Prop := (0 ≤ t.p ∧ t.p ≤ 255) ∧ (0 ≤ t.a ∧ t.a ≤ 4294967295) ∧ (0 ≤ t.b ∧ t.b ≤ 65535) ∧ (0 ≤ t.c ∧ t.c ≤ 4294967295) ∧ (0 ≤ t.d ∧ t.d ≤ 65535)
/-- what is seen of it -/
structure Seen where
  t : Tup
  k : Int
  f : Int
  q : Bool
  l : Int
def Seen.cells (x : Seen) : Array Value := #[.int .u8 x.t.p, .int .u32 x.t.a, .int .u16 x.t.b, .int .u32 x.t.c, .int .u16 x.t.d, .int .i64 x.k, .int .u8 x.f, .bool x.q, .int .u8 x.l]
def seenNone : Seen := ⟨⟨0, 0, 0, 0, 0⟩, 0, 0, false, 0⟩
/-- why nothing is seen of what a header says is behind it -/
def loadWhy (p : Int) (l : ByteArray) : Int :=
  if p = 6 then (if tcpIs l = true then 0 else 7) else if p = 17 then (if udpIs l = true then 0 else 7) else if p = 1 then (if l.size < 8 then 7 else if qIs (msgOf l) = true ∨ qErr (msgOf l) = true then 0 else 6) else 6
/-- what is seen of a header and what is behind it -/
def loadSeen (h : Hd) (l : ByteArray) : Seen :=
  if h.p = 6 then ⟨⟨6, h.s, (segOf l).s, h.d, (segOf l).d⟩, if bits .and .u8 (segOf l).f 23 = 2 then 1 else 2, (segOf l).f, false, h.l⟩
  else if h.p = 17 then ⟨⟨17, h.s, get16 (L l) 0, h.d, get16 (L l) 2⟩, 2, 0, false, h.l⟩
  else if qAsk (msgOf l) = true then ⟨⟨1, h.s, get16 (L (msgOf l).r) 0, h.d, 0⟩, 2, 0, true, h.l⟩
  else if qIs (msgOf l) = true then ⟨⟨1, h.s, 0, h.d, get16 (L (msgOf l).r) 0⟩, 2, 0, false, h.l⟩
  else ⟨⟨1, h.s, 0, h.d, 0⟩, 3, 0, false, h.l⟩
def seenWhy (s : ByteArray) : Int := if ipWhy s = 0 then loadWhy (hdOf s).p (ipRest s) else ipWhy s
def seenOf (s : ByteArray) : Seen := if seenWhy s = 0 then loadSeen (hdOf s) (ipRest s) else seenNone
end Go.Proofs.YtilfcikhipadpaaGreatDoor
end
