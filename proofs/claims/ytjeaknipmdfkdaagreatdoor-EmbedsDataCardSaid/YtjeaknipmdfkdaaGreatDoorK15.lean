/- Several texts of this claim, one behind the other. -/
import Derived.Test.YtjeaknipmdfkdaaGreatDoorK14
import Derived.Test.YtjeaknipmdfkdaaGreatDoorK7
import Derived.Test.YtjeaknipmdfkdaaGreatDoorK3
import Derived.Test.YtjeaknipmdfkdaaGreatDoorK6
import Derived.Deep.RegionHeldLaw
import Derived.Deep.RegionHeld3
import Derived.Test.YtjeaknipmdfkdaaGreatDoorK2
import Derived.Test.YtjeaknipmdfkdaaGreatDoorK12
import Derived.Test.YtjeaknipmdfkdaaGreatDoorK13

section
/- WithID over this program. -/
set_option linter.unusedVariables false
namespace Go.Proofs.YtjeaknipmdfkdaaGreatDoor
open Go.RowKit Go.Maps
attribute [local go_sem] Oper.semAt_some

end Go.Proofs.YtjeaknipmdfkdaaGreatDoor
end

section
/- rewrite's small functions over this program. -/
set_option linter.unusedVariables false
set_option linter.unusedSimpArgs false
namespace Go.Proofs.YtjeaknipmdfkdaaGreatDoor
open Go.RowKit
attribute [local go_sem] Oper.semAt_some

theorem Row.rise {X Y : World} {A : Option Addr} {n : Nat} {l : List Value} (r : Row X X.heap.size A n l) (b : Below X.heap.size X Y) : Row Y Y.heap.size A n l := (r.below b).more b.size
theorem Row.afterdraw {X : World} {A : Option Addr} {n : Nat} {l : List Value} (r : Row X X.heap.size A n l) : Row X.drew X.drew.heap.size A n l := r
/-- all bytes of some texts, one behind the other -/
def allOf (ss : List ByteArray) : List UInt8 := ss.flatMap L
theorem allOf_snoc (ss : List ByteArray) (k : Nat) (h : k < ss.length) : allOf (ss.take (k + 1)) = allOf (ss.take k) ++ L (ss.getD k ByteArray.empty) := by
  unfold allOf
  rw [take_snoc_s ss k h, List.flatMap_append]; simp
theorem allOf_take_le (ss : List ByteArray) (k : Nat) : (allOf (ss.take k)).length ≤ (allOf ss).length := by
  have h := List.take_append_drop k ss
  have h2 : allOf ss = allOf (ss.take k) ++ allOf (ss.drop k) := by
    unfold allOf
    rw [← List.flatMap_append, h]
  rw [h2, List.length_append]; omega

set_option maxHeartbeats 1000000 in
theorem rw_laid (A : Option Addr) (n c : Nat) (ss : List ByteArray) (w : World) (hr : Row w w.heap.size A n (ss.map Value.string)) (hz : (allOf ss).length ≤ 140737488351232) (hn : n ≤ 1000) :
    Calls Tryz.prog 84 #[.slice A n c] w (Ret (.string (S (allOf ss))) w) := by
  have hlen : ss.length = n := by simpa using hr.1
  have HN := hide hlen
  clear hlen
  go_enter Tryz.func84, Tryz.ntmps84
  go_wp2
  go_loopw [3, 8] (fun v i wr => ∃ k : Nat, k ≤ n ∧ i = .int .i64 k ∧ v = .string (S (allOf (ss.take k))) ∧ Below w.heap.size w wr) (fun _ i _ => n - (intOf i).toNat)
  case atStart => exact ⟨0, Nat.zero_le _, rfl, rfl, Below.refl _ _⟩
  case round =>
    obtain ⟨k, hk, rfl, rfl, hbel⟩ := hrel
    by_cases hlt : k < n
    · obtain ⟨b, o, rfl, hbo, hc⟩ := hr.at_ (by omega)
      obtain ⟨s, hs⟩ : ∃ s, s = ss.getD k ByteArray.empty := ⟨_, rfl⟩
      have hcell : wr.cell? ⟨b, o + k, none⟩ = some (.string s) := by rw [hs]; exact (hbel.cell (p := ⟨b, o + k, none⟩) hbo).trans (hc k _ (strs_at (by rw [HN.out]; exact hlt)))
      have hsn := allOf_snoc ss k (by rw [HN.out]; exact hlt)
      have hle := allOf_take_le ss (k + 1)
      rw [hsn, List.length_append] at hle
      rw [← hs] at hsn hle
      obtain ⟨t, ht⟩ : ∃ t, t = S (allOf (ss.take k)) := ⟨_, rfl⟩
      have hend : t ++ s = S (allOf (ss.take (k + 1))) := by
        apply L_inj
        rw [L_append, ht, L_S, L_S, hsn]
      have htz : (t ++ s).size ≤ 140737488351232 := by
        rw [ByteArray.size_append, ht, S_size, ← L_length s]; omega
      have htz2 : t.size + s.size ≤ 140737488351232 := by rwa [ByteArray.size_append] at htz
      rw [← ht]
      have HE := hide hend
      clear hc hs hsn hle ht hend
      go_wp2_with fail
      go_roundw
      case rel => exact ⟨k + 1, by omega, by go_num, by rw [HE.out], hbel⟩
      case measure => simp [intOf]; omega
    · obtain rfl : k = n := by omega
      have he : S (allOf (ss.take k)) = S (allOf ss) := by rw [List.take_of_length_le (by rw [HN.out]; exact Nat.le_refl _)]
      obtain ⟨t, ht⟩ : ∃ t, t = S (allOf (ss.take k)) := ⟨_, rfl⟩
      rw [← ht] at he ⊢
      have HE := hide he
      clear ht he
      go_wp2_with fail
      go_ret
      exact ⟨congrArg Ending.returned (v_str HE.out), hbel⟩

theorem rw_word (s : ByteArray) (k : Nat) (w : World) (hs : s.size ≤ maxLen) (h : k + 2 ≤ s.size) :
    Calls Tryz.prog 85 #[.string s, .int .i64 k] w (Ret (.int .u16 (be16 (L s) k)) w) := by
  have c := fun w => Get16_in s k w hs h
  obtain ⟨x, hx⟩ : ∃ x, x = be16 (L s) k := ⟨_, rfl⟩
  rw [← hx] at c ⊢
  have C := hide c
  clear c hx
  go_enter Tryz.func85, Tryz.ntmps85
  go_wp2_with fail
  (with_reducible refine (C.out _).mono ?_)
  rintro e w1 ⟨rfl, n1, rfl⟩
  go_wp2_with fail
  go_ret
  exact ⟨rfl, below_drewN (Below.refl _ _) n1⟩
theorem rw_patch (s : ByteArray) (k : Nat) (p : ByteArray) (w : World) (hs : s.size ≤ 140737488351232) (h : k + p.size ≤ s.size) :
    Calls Tryz.prog 120 #[.string s, .int .i64 k, .string p] w (Ret (.string (S ((L s).take k ++ (L p ++ (L s).drop (k + p.size))))) w) := by
  have c := fun w => With_in s k p w hs h
  obtain ⟨x, hx⟩ : ∃ x, x = S ((L s).take k ++ (L p ++ (L s).drop (k + p.size))) := ⟨_, rfl⟩
  rw [← hx] at c ⊢
  have C := hide c
  clear c hx
  go_enter Tryz.func120, Tryz.ntmps120
  go_wp2_with fail
  (with_reducible refine (C.out _).mono ?_)
  rintro e w1 ⟨rfl, b1⟩
  go_wp2_with fail
  go_ret
  exact ⟨rfl, (by (repeat' (first | with_reducible exact b1 | with_reducible exact Below.refl _ _ | with_reducible refine Below.setCell ?_ (by first | exact Nat.le_refl _ | (dsimp only; omega)) _ | with_reducible refine bstep ?_ (fresh_below _ _) | with_reducible refine Below.drew ?_)))⟩
end Go.Proofs.YtjeaknipmdfkdaaGreatDoor
end

section
/- Packets that are made for an example (porterref08.Made), over this program. -/
set_option linter.unusedVariables false
set_option linter.unusedSimpArgs false
namespace Go.Proofs.YtjeaknipmdfkdaaGreatDoor
open Go.RowKit
attribute [local go_sem] Oper.semAt_some

set_option maxRecDepth 100000 in
set_option maxHeartbeats 2000000 in
theorem load_udp (a b c d f : Int) (data p1 l1 : ByteArray) (w : World)
    (c1 : ∀ W, Calls Tryz.prog 98 #[.agg #[.int .u16 b, .int .u16 d, .int .u16 0, .int .u16 0], .string data] W (Ret (.string p1) W))
    (c2 : ∀ W, Calls Tryz.prog 97 #[.int .u32 a, .int .u32 c, .string p1] W (Ret (.string l1) W)) :
    Calls Tryz.prog 50 #[.agg #[.int .u8 17, .int .u32 a, .int .u16 b, .int .u32 c, .int .u16 d], .int .u8 f, .string data] w (Ret (.string l1) w) := by
  have C1 := hide c1; have C2 := hide c2
  clear c1 c2
  go_enter Tryz.func50, Tryz.ntmps50
  have d0 := Cells.new w #[.int .u8 17, .int .u32 a, .int .u16 b, .int .u32 c, .int .u16 d] 33
  obtain ⟨xd0_0, xd0_1, xd0_2, xd0_3, xd0_4⟩ := d0.x5
  go_wp2_with fail
  have SK := hide (fun (zX zY : World) (zh : (Below w.heap.size w zX ∧ zX.cell? ⟨w.heap.size, 0, none⟩ = some (.int .u8 17) ∧ zX.cell? ⟨w.heap.size, 1, none⟩ = some (.int .u32 a) ∧ zX.cell? ⟨w.heap.size, 2, none⟩ = some (.int .u16 b) ∧ zX.cell? ⟨w.heap.size, 3, none⟩ = some (.int .u32 c) ∧ zX.cell? ⟨w.heap.size, 4, none⟩ = some (.int .u16 d) ∧ True)) (zb : Below zX.heap.size zX zY) => (show (Below w.heap.size w zY ∧ zY.cell? ⟨w.heap.size, 0, none⟩ = some (.int .u8 17) ∧ zY.cell? ⟨w.heap.size, 1, none⟩ = some (.int .u32 a) ∧ zY.cell? ⟨w.heap.size, 2, none⟩ = some (.int .u16 b) ∧ zY.cell? ⟨w.heap.size, 3, none⟩ = some (.int .u32 c) ∧ zY.cell? ⟨w.heap.size, 4, none⟩ = some (.int .u16 d) ∧ True) from ⟨bstep zh.1 zb, cellAt zb zh.2.1, cellAt zb zh.2.2.1, cellAt zb zh.2.2.2.1, cellAt zb zh.2.2.2.2.1, cellAt zb zh.2.2.2.2.2.1, trivial⟩))
  have FS := hide (fun (zX : World) (zh : (Below w.heap.size w zX ∧ zX.cell? ⟨w.heap.size, 0, none⟩ = some (.int .u8 17) ∧ zX.cell? ⟨w.heap.size, 1, none⟩ = some (.int .u32 a) ∧ zX.cell? ⟨w.heap.size, 2, none⟩ = some (.int .u16 b) ∧ zX.cell? ⟨w.heap.size, 3, none⟩ = some (.int .u32 c) ∧ zX.cell? ⟨w.heap.size, 4, none⟩ = some (.int .u16 d) ∧ True)) => zh.1)
  have GS := hide (fun (zX : World) (zh : (Below w.heap.size w zX ∧ zX.cell? ⟨w.heap.size, 0, none⟩ = some (.int .u8 17) ∧ zX.cell? ⟨w.heap.size, 1, none⟩ = some (.int .u32 a) ∧ zX.cell? ⟨w.heap.size, 2, none⟩ = some (.int .u16 b) ∧ zX.cell? ⟨w.heap.size, 3, none⟩ = some (.int .u32 c) ∧ zX.cell? ⟨w.heap.size, 4, none⟩ = some (.int .u16 d) ∧ True)) => zh)
  have hS0 : (Below w.heap.size w (w.alloc (.cells #[.int .u8 17, .int .u32 a, .int .u16 b, .int .u32 c, .int .u16 d] 33)) ∧ (w.alloc (.cells #[.int .u8 17, .int .u32 a, .int .u16 b, .int .u32 c, .int .u16 d] 33)).cell? ⟨w.heap.size, 0, none⟩ = some (.int .u8 17) ∧ (w.alloc (.cells #[.int .u8 17, .int .u32 a, .int .u16 b, .int .u32 c, .int .u16 d] 33)).cell? ⟨w.heap.size, 1, none⟩ = some (.int .u32 a) ∧ (w.alloc (.cells #[.int .u8 17, .int .u32 a, .int .u16 b, .int .u32 c, .int .u16 d] 33)).cell? ⟨w.heap.size, 2, none⟩ = some (.int .u16 b) ∧ (w.alloc (.cells #[.int .u8 17, .int .u32 a, .int .u16 b, .int .u32 c, .int .u16 d] 33)).cell? ⟨w.heap.size, 3, none⟩ = some (.int .u32 c) ∧ (w.alloc (.cells #[.int .u8 17, .int .u32 a, .int .u16 b, .int .u32 c, .int .u16 d] 33)).cell? ⟨w.heap.size, 4, none⟩ = some (.int .u16 d) ∧ True) := ⟨(by (repeat' (first | with_reducible exact Below.refl _ _ | with_reducible refine Below.setCell ?_ (by first | exact Nat.le_refl _ | (dsimp only; omega)) _ | with_reducible refine bstep ?_ (fresh_below _ _) | with_reducible refine Below.drew ?_))), d0.at_ 0, d0.at_ 1, d0.at_ 2, d0.at_ 3, d0.at_ 4, trivial⟩
  go_region_held_law (fun w' => (Below w.heap.size w w' ∧ w'.cell? ⟨w.heap.size, 0, none⟩ = some (.int .u8 17) ∧ w'.cell? ⟨w.heap.size, 1, none⟩ = some (.int .u32 a) ∧ w'.cell? ⟨w.heap.size, 2, none⟩ = some (.int .u16 b) ∧ w'.cell? ⟨w.heap.size, 3, none⟩ = some (.int .u32 c) ∧ w'.cell? ⟨w.heap.size, 4, none⟩ = some (.int .u16 d) ∧ True)) (first | assumption | exact SK.out _ _ hS0 (Below.refl _ _).drew | exact SK.out _ _ hS0 (fresh_below _ _).drew | exact SK.out _ _ (by assumption) (fresh_below _ _) | (refine SK.out _ _ ?_ (by assumption); assumption))
    (first | (go_at_call 98; (with_reducible refine (C1.out _).mono ?_); rintro e wq ⟨rfl, bq⟩) | (go_at_call 97; (with_reducible refine (C2.out _).mono ?_); rintro e wq ⟨rfl, bq⟩))
  all_goals
    go_wp2
    go_ret
    exact ⟨rfl, (by first | exact FS.out _ (by assumption) | exact bstep (FS.out _ (by assumption)) (fresh_below _ _) | exact bstep (bstep (FS.out _ (by assumption)) (fresh_below _ _)) (fresh_below _ _))⟩

set_option maxRecDepth 100000 in
set_option maxHeartbeats 2000000 in
theorem made (p a b c d f l : Int) (data l1 out : ByteArray) (w : World)
    (c1 : ∀ W, Calls Tryz.prog 50 #[.agg #[.int .u8 p, .int .u32 a, .int .u16 b, .int .u32 c, .int .u16 d], .int .u8 f, .string data] W (Ret (.string l1) W))
    (c2 : ∀ W, Calls Tryz.prog 13 #[.agg #[.int .u8 0, .int .u16 0, .bool false, .int .u8 l, .int .u8 p, .int .u32 a, .int .u32 c, .string { data := #[] }], .string l1] W (Ret (.tuple #[.string out, .int .i64 0]) W)) :
    Calls Tryz.prog 25 #[.agg #[.int .u8 p, .int .u32 a, .int .u16 b, .int .u32 c, .int .u16 d], .int .u8 f, .int .u8 l, .string data] w (Ret (.string out) w) := by
  have C1 := hide c1; have C2 := hide c2
  clear c1 c2
  go_enter Tryz.func25, Tryz.ntmps25
  have d0 := Cells.new w #[.int .u8 p, .int .u32 a, .int .u16 b, .int .u32 c, .int .u16 d] 33
  go_wp2_with fail
  have SK := hide (fun (zX zY : World) (zh : (Below w.heap.size w zX ∧ zX.cell? ⟨w.heap.size, 0, none⟩ = some (.int .u8 p) ∧ zX.cell? ⟨w.heap.size, 1, none⟩ = some (.int .u32 a) ∧ zX.cell? ⟨w.heap.size, 2, none⟩ = some (.int .u16 b) ∧ zX.cell? ⟨w.heap.size, 3, none⟩ = some (.int .u32 c) ∧ zX.cell? ⟨w.heap.size, 4, none⟩ = some (.int .u16 d) ∧ True)) (zb : Below zX.heap.size zX zY) => (show (Below w.heap.size w zY ∧ zY.cell? ⟨w.heap.size, 0, none⟩ = some (.int .u8 p) ∧ zY.cell? ⟨w.heap.size, 1, none⟩ = some (.int .u32 a) ∧ zY.cell? ⟨w.heap.size, 2, none⟩ = some (.int .u16 b) ∧ zY.cell? ⟨w.heap.size, 3, none⟩ = some (.int .u32 c) ∧ zY.cell? ⟨w.heap.size, 4, none⟩ = some (.int .u16 d) ∧ True) from ⟨bstep zh.1 zb, cellAt zb zh.2.1, cellAt zb zh.2.2.1, cellAt zb zh.2.2.2.1, cellAt zb zh.2.2.2.2.1, cellAt zb zh.2.2.2.2.2.1, trivial⟩))
  have FS := hide (fun (zX : World) (zh : (Below w.heap.size w zX ∧ zX.cell? ⟨w.heap.size, 0, none⟩ = some (.int .u8 p) ∧ zX.cell? ⟨w.heap.size, 1, none⟩ = some (.int .u32 a) ∧ zX.cell? ⟨w.heap.size, 2, none⟩ = some (.int .u16 b) ∧ zX.cell? ⟨w.heap.size, 3, none⟩ = some (.int .u32 c) ∧ zX.cell? ⟨w.heap.size, 4, none⟩ = some (.int .u16 d) ∧ True)) => zh.1)
  have GS := hide (fun (zX : World) (zh : (Below w.heap.size w zX ∧ zX.cell? ⟨w.heap.size, 0, none⟩ = some (.int .u8 p) ∧ zX.cell? ⟨w.heap.size, 1, none⟩ = some (.int .u32 a) ∧ zX.cell? ⟨w.heap.size, 2, none⟩ = some (.int .u16 b) ∧ zX.cell? ⟨w.heap.size, 3, none⟩ = some (.int .u32 c) ∧ zX.cell? ⟨w.heap.size, 4, none⟩ = some (.int .u16 d) ∧ True)) => zh)
  have hS0 : (Below w.heap.size w (w.alloc (.cells #[.int .u8 p, .int .u32 a, .int .u16 b, .int .u32 c, .int .u16 d] 33)) ∧ (w.alloc (.cells #[.int .u8 p, .int .u32 a, .int .u16 b, .int .u32 c, .int .u16 d] 33)).cell? ⟨w.heap.size, 0, none⟩ = some (.int .u8 p) ∧ (w.alloc (.cells #[.int .u8 p, .int .u32 a, .int .u16 b, .int .u32 c, .int .u16 d] 33)).cell? ⟨w.heap.size, 1, none⟩ = some (.int .u32 a) ∧ (w.alloc (.cells #[.int .u8 p, .int .u32 a, .int .u16 b, .int .u32 c, .int .u16 d] 33)).cell? ⟨w.heap.size, 2, none⟩ = some (.int .u16 b) ∧ (w.alloc (.cells #[.int .u8 p, .int .u32 a, .int .u16 b, .int .u32 c, .int .u16 d] 33)).cell? ⟨w.heap.size, 3, none⟩ = some (.int .u32 c) ∧ (w.alloc (.cells #[.int .u8 p, .int .u32 a, .int .u16 b, .int .u32 c, .int .u16 d] 33)).cell? ⟨w.heap.size, 4, none⟩ = some (.int .u16 d) ∧ True) := ⟨(by (repeat' (first | with_reducible exact Below.refl _ _ | with_reducible refine Below.setCell ?_ (by first | exact Nat.le_refl _ | (dsimp only; omega)) _ | with_reducible refine bstep ?_ (fresh_below _ _) | with_reducible refine Below.drew ?_))), d0.at_ 0, d0.at_ 1, d0.at_ 2, d0.at_ 3, d0.at_ 4, trivial⟩
  go_region_held_law (fun w' => (Below w.heap.size w w' ∧ w'.cell? ⟨w.heap.size, 0, none⟩ = some (.int .u8 p) ∧ w'.cell? ⟨w.heap.size, 1, none⟩ = some (.int .u32 a) ∧ w'.cell? ⟨w.heap.size, 2, none⟩ = some (.int .u16 b) ∧ w'.cell? ⟨w.heap.size, 3, none⟩ = some (.int .u32 c) ∧ w'.cell? ⟨w.heap.size, 4, none⟩ = some (.int .u16 d) ∧ True)) (first | assumption | exact SK.out _ _ hS0 (Below.refl _ _).drew | exact SK.out _ _ hS0 (fresh_below _ _).drew | exact SK.out _ _ (by assumption) (fresh_below _ _) | (refine SK.out _ _ ?_ (by assumption); assumption))
    (first | (go_at_call 50; (with_reducible refine (C1.out _).mono ?_); rintro e wq ⟨rfl, bq⟩) | (go_at_call 13; (with_reducible refine (C2.out _).mono ?_); rintro e wq ⟨rfl, bq⟩))
  all_goals
    go_wp2
    go_ret
    exact ⟨rfl, (by first | exact FS.out _ (by assumption) | exact bstep (FS.out _ (by assumption)) (fresh_below _ _) | exact bstep (bstep (FS.out _ (by assumption)) (fresh_below _ _)) (fresh_below _ _))⟩
end Go.Proofs.YtjeaknipmdfkdaaGreatDoor
end
