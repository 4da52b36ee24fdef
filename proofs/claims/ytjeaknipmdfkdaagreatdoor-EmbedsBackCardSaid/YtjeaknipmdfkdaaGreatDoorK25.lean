/- Several texts of this claim, one behind the other. -/
import Derived.Test.YtjeaknipmdfkdaaGreatDoorK2
import Derived.Test.YtjeaknipmdfkdaaGreatDoorK24
import Derived.Test.YtjeaknipmdfkdaaGreatDoorK1
import Derived.Lib.QuoteBits
import Derived.Test.YtjeaknipmdfkdaaGreatDoorK12

section
/- embeds.message, embeds.change: what an error is about, changed, over this program. -/
set_option linter.unusedVariables false
set_option linter.unusedSimpArgs false
namespace Go.Proofs.YtjeaknipmdfkdaaGreatDoor
open Go.RowKit
attribute [local go_sem] Oper.semAt_some envL lookV

set_option maxRecDepth 100000 in
set_option maxHeartbeats 16000000 in
theorem e_message (w : World) (B : Nat) (s : ByteArray) (e : Nat) (t : Tup) (q : Bool) (a b c d : Int) (hC : Em w B s e t q) (hb : 0 ≤ b ∧ b ≤ 65535) (hd : 0 ≤ d ∧ d ≤ 65535) (hs : s.size ≤ 140737488351232) (h : e + 8 ≤ s.size) (he : e ≤ 60) :
    Calls Tryz.prog 66 #[.pointer (some ⟨B, 0, none⟩), .agg #[.int .u32 a, .int .u16 b, .int .u32 c, .int .u16 d]] w (Turned w B (emCells (S (emMsgN (L s) e (if q = true then b else d))) e t q) 79) := by
  have hsL : (L s).length = s.size := L_length s
  obtain ⟨id, hid⟩ : ∃ id, id = if q = true then b else d := ⟨_, rfl⟩
  have hidb : 0 ≤ id ∧ id ≤ 65535 := by rw [hid]; split <;> assumption
  rw [← hid]
  have b2 := be16_bd (L s) (e + 2); have b4 := be16_bd (L s) (e + 4)
  have hu := upd_bd b2 b4 hidb
  obtain ⟨z2, hz2⟩ : ∃ z2 : Nat, z2 = e + 2 := ⟨_, rfl⟩
  obtain ⟨z4, hz4⟩ : ∃ z4 : Nat, z4 = e + 4 := ⟨_, rfl⟩
  have c2 := fun W (hC : W.cell? ⟨B, 0, none⟩ = some (.string s)) => e_two W B s (z2 : Int) hC hs ⟨by omega, by omega⟩
  have c4 := fun W (hC : W.cell? ⟨B, 0, none⟩ = some (.string s)) => e_two W B s (z4 : Int) hC hs ⟨by omega, by omega⟩
  rw [get16_nat (by omega), hz2] at c2
  rw [get16_nat (by omega), hz4] at c4
  have cu := fun W => Update (be16 (L s) (e + 2)) (be16 (L s) (e + 4)) id W b2 b4 hidb
  obtain ⟨l1, hl1⟩ : ∃ l1, l1 = lay (L s) (e + 4) id := ⟨_, rfl⟩
  have hl1n : l1.length = s.size := by rw [hl1, lay_length (by omega), hsL]
  obtain ⟨n, hn⟩ : ∃ n, n = upd (be16 (L s) (e + 2)) (be16 (L s) (e + 4)) id := ⟨_, rfl⟩
  have RES : emMsgN (L s) e id = lay l1 z2 n := by unfold emMsgN; rw [← hl1, ← hn, ← hz2]
  rw [RES]
  rw [← hn] at hu cu
  rw [← hz2] at c2 cu
  rw [← hz4] at c4 cu hl1
  generalize be16 (L s) z2 = x2 at *
  generalize be16 (L s) z4 = x4 at *
  have cw1 := fun W A hR => word_one id hidb W A hR
  have cw2 := fun W A hR => word_one n hu W A hR
  have cl1 := fun W (hC : Em W B s e t q) => e_layEm W B s e t q z4 (S (put16 id)) hC hs (by rw [S_size, put16_length]; omega) (S l1) (by rw [L_S, S_size, put16_length, hl1, ← List.append_assoc]; rfl)
  have cl2 := fun W (hC : Em W B (S l1) e t q) => e_layEm W B (S l1) e t q z2 (S (put16 n)) hC (by rw [S_size, hl1n]; exact hs) (by rw [S_size, S_size, put16_length, hl1n]; omega) (S (lay l1 z2 n)) (by rw [L_S, L_S, S_size, put16_length, ← List.append_assoc]; rfl)
  generalize S (lay l1 z2 n) = s2 at *
  obtain ⟨s1, hs1⟩ : ∃ s1, s1 = S l1 := ⟨_, rfl⟩
  rw [← hs1] at cl1 cl2
  obtain ⟨w1', hw1'⟩ : ∃ x, x = S (put16 id) := ⟨_, rfl⟩
  obtain ⟨w2', hw2'⟩ : ∃ x, x = S (put16 n) := ⟨_, rfl⟩
  rw [← hw1'] at cw1 cl1
  rw [← hw2'] at cw2 cl2
  have kw2 : IntKind.i64.wrap ((e : Int) + 2) = (z2 : Int) := by rw [IntWalk.i64_in _ (by omega), hz2]; omega
  have kw4 : IntKind.i64.wrap ((e : Int) + 4) = (z4 : Int) := by rw [IntWalk.i64_in _ (by omega), hz4]; omega
  have C2 := hide c2; have C4 := hide c4; have CU := hide cu; have CW1 := hide cw1; have CW2 := hide cw2; have CL1 := hide cl1; have CL2 := hide cl2; have HC := hide hC
  have HID := hide hid
  have hB : B < w.heap.size := Cells.lt hC
  clear c2 c4 cu cw1 cw2 cl1 cl2 hC hsL hidb b2 b4 hu hz2 hz4 hl1 hl1n hn RES hs1 hw1' hw2' hb hd hs h he hid
  cases q
  · have hi : id = d := by rw [HID.out]; rfl
    subst hi
    clear HID
    go_enter Tryz.func66, Tryz.ntmps66
    have d0 := Cells.new w #[.int .u32 a, .int .u16 b, .int .u32 c, .int .u16 id] 28
    have bn := fresh_below w (.cells #[.int .u32 a, .int .u16 b, .int .u32 c, .int .u16 id] 28)
    have D0 := hide d0; have BN := hide bn
    clear d0 bn
    go_upto_region 1 with fail
    generalize (w.alloc (.cells #[.int .u32 a, .int .u16 b, .int .u32 c, .int .u16 id] 28)) = w1 at *
    have em1 := Cells.below BN.out HC.out
    have d0 := D0.out
    have EM1 := hide em1
    unfold Em emCells at em1
    obtain ⟨qem1_0, qem1_1, qem1_2, qem1_3, qem1_4, qem1_5, qem1_6, qem1_7⟩ := em1.q8
    obtain ⟨qd0_0, qd0_1, qd0_2, qd0_3⟩ := d0.q4
    have bb : Below w1.heap.size w1 w1 := Below.refl _ _
    clear em1 d0
    go_upto_region 4 with fail
    have s4 : Below w1.heap.size w1 w1.drew := Below.drew bb
    focus
      refine wp_region_J [] (fun W => Below w1.heap.size w1 W) (by kernel_rfl) (s4) (fun hS0 => ?_)
      refine tJ 0 rfl hS0 ?_
      (try simp only [Act.put, putS])
      refine tJ 1 rfl hS0 ?_
      (try simp only [Act.put, putS])
      refine tJ 2 rfl hS0 ?_
      (try simp only [Act.put, putS])
      refine tJ 3 rfl hS0 ?_
      (try simp only [Act.put, putS])
      refine tJ 4 rfl hS0 ?_
      (try simp only [Act.put, putS])
      refine tJ 5 rfl hS0 ?_
      (try simp only [Act.put, putS])
      refine tJ 6 rfl hS0 ?_
      (try simp only [Act.put, putS])
      refine tJ 7 rfl hS0 ?_
      (try simp only [Act.put, putS])
      refine tJ 9 rfl hS0 ?_
      (try simp only [Act.put, putS])
      refine tJ 10 rfl hS0 ?_
      (try simp only [Act.put, putS])
      refine tJ 11 rfl hS0 ?_
      (try simp only [Act.put, putS])
      refine tJ 12 rfl hS0 ?_
      (try simp only [Act.put, putS])
      refine tJ 13 rfl hS0 ?_
      (try simp only [Act.put, putS])
      refine tJ 14 rfl hS0 ?_
      (try simp only [Act.put, putS])
      refine tJ 15 rfl hS0 ?_
      (try simp only [Act.put, putS])
      refine tJ 16 rfl hS0 ?_
      (try simp only [Act.put, putS])
      refine tJ 18 rfl hS0 ?_
      (try simp only [Act.put, putS])
      refine rJ [8] ?_
      refine (AllReadyJ.cons rfl (fun K hK => ?_) AllReadyJ.nil)
      rw [if_pos (by kernel_rfl)]
      (try simp only [putG])
      (focus go_simp)
      (focus ((with_reducible refine (C2.out _ (qem1_0 _ hS0)).mono ?_); rintro e wa ⟨rfl, ba⟩; have sq := bstep hS0 ba))
      (focus (try go_wp2_with fail))
      refine hK.out _ _ ?hs (fun hS0 => ?_)
      case hs => (first | with_reducible exact hS0 | with_reducible exact sq)
      clear hK K
      (try simp only [Act.put, putS])
      refine rJ [17] ?_
      refine (AllReadyJ.cons rfl (fun K hK => ?_) AllReadyJ.nil)
      rw [if_pos (by kernel_rfl)]
      (try simp only [putG])
      (focus go_simp)
      (focus ((with_reducible refine (C4.out _ (qem1_0 _ hS0)).mono ?_); rintro e wb ⟨rfl, bb2⟩; have sq := bstep hS0 bb2))
      (focus (try go_wp2_with fail))
      refine hK.out _ _ ?hs (fun hS0 => ?_)
      case hs => (first | with_reducible exact hS0 | with_reducible exact sq)
      clear hK K
      (try simp only [Act.put, putS])
      refine rJ [19] ?_
      refine (AllReadyJ.cons rfl (fun K hK => ?_) AllReadyJ.nil)
      rw [if_pos (by kernel_rfl)]
      (try simp only [putG])
      (focus go_simp)
      (focus ((with_reducible refine (CU.out _).mono ?_); rintro e wc ⟨rfl, rfl⟩; have sq := hS0))
      (focus (try go_wp2_with fail))
      refine hK.out _ _ ?hs (fun hS0 => ?_)
      case hs => (first | with_reducible exact hS0 | with_reducible exact sq)
      clear hK K
      (try simp only [Act.put, putS])
      refine tJ 20 rfl hS0 ?_
      (try simp only [Act.put, putS])
      refine wpAnyJ_done (by kernel_rfl) ?_ _
    go_upto_region 5 with fail
    have s5 := Below.drew hS0
    clear s4 sq ba bb2
    focus
      refine wp_region_J [11] (fun W => Below w1.heap.size w1 W) (by kernel_rfl) (s5) (fun hS0 => ?_)
      refine bJ 0 [0, 1, 2, 11] rfl hS0 ?_
      (try simp only [Act.put, putS])
      refine bJ 1 [1, 2, 11] rfl hS0 ?_
      (try simp only [Act.put, putS])
      refine tJ 2 rfl hS0 ?_
      (try simp only [Act.put, putS])
      refine bJ 3 [3, 4, 5, 6, 7, 11] rfl hS0 ?_
      (try simp only [Act.put, putS])
      refine bJ 4 [4, 5, 6, 7, 11] rfl hS0 ?_
      (try simp only [Act.put, putS])
      refine bJ 5 [5, 6, 7, 11] rfl hS0 ?_
      (try simp only [Act.put, putS])
      refine bJ 6 [6, 7, 11] rfl hS0 ?_
      (try simp only [Act.put, putS])
      refine tJ 7 rfl hS0 ?_
      (try simp only [Act.put, putS])
      refine bJ 8 [8, 9, 10, 11] rfl hS0 ?_
      (try simp only [Act.put, putS])
      refine rJ [9] ?_
      refine (AllReadyJ.cons rfl (fun K hK => ?_) AllReadyJ.nil)
      rw [if_pos (by kernel_rfl)]
      (try simp only [putG])
      (focus go_simp)
      refine hK.out _ _ ?hs (fun hS0 => ?_)
      case hs => (first | with_reducible exact hS0 | with_reducible exact sq | exact bstep hS0 (fresh_below _ _))
      clear hK K
      (try simp only [Act.put, putS])
      refine rJ [10] ?_
      refine (AllReadyJ.cons rfl (fun K hK => ?_) AllReadyJ.nil)
      rw [if_pos (by kernel_rfl)]
      (try simp only [putG])
      (focus go_simp)
      (focus ((refine (CW1.out _ _ (by (repeat' (first | with_reducible refine Row.afterdraw ?_ | with_reducible exact Row.freshAt _ _ _ _ _ _ (by simp) rfl rfl | (with_reducible refine Row.rise ?_ (fresh_below _ _)))))).mono ?_); rintro e w6 ⟨rfl, b6⟩; have sq := bstep hS0 b6))
      (focus (try go_wp2_with fail))
      refine hK.out _ _ ?hs (fun hS0 => ?_)
      case hs => (first | with_reducible exact hS0 | with_reducible exact sq | exact bstep hS0 (fresh_below _ _))
      clear hK K
      (try simp only [Act.put, putS])
      refine rJ [11] ?_
      refine (AllReadyJ.last rfl (by kernel_rfl) (fun K hK => ?_) AllReadyJ.nil)
      rw [if_pos (by kernel_rfl)]
      (try simp only [putG])
      (focus go_simp)
      (focus ((refine (CL1.out _ (Cells.below hS0 EM1.out)).mono ?_); rintro e w7 ⟨rfl, em7, on7⟩))
      (focus (try go_wp2_with fail))
      refine hK.out _ _ ?_
      clear hK K
      (try simp only [Act.put, putS])
      refine wpAnyJ_done (by kernel_rfl) ?_ _
    have ON := hide (Only.trans (Only.of_below (bstep BN.out hS0) (Nat.le_refl _)) on7)
    have EM7 := hide em7
    clear s5 hS0 sq b6 on7 qem1_0 qem1_1 qem1_2 qem1_3 qem1_4 qem1_5 qem1_6 qem1_7 qd0_0 qd0_1 qd0_2 qd0_3 bb EM1 D0 BN
    unfold Em emCells at em7
    obtain ⟨qem7_0, qem7_1, qem7_2, qem7_3, qem7_4, qem7_5, qem7_6, qem7_7⟩ := em7.q8
    clear em7
    have bb : Below w7.heap.size w7 w7 := Below.refl _ _
    go_upto_region 6 with fail
    have s6 := Below.drew bb
    focus
      refine wp_region_J [11] (fun W => Below w7.heap.size w7 W) (by kernel_rfl) (s6) (fun hS0 => ?_)
      refine bJ 0 [0, 1, 2, 11] rfl hS0 ?_
      (try simp only [Act.put, putS])
      refine bJ 1 [1, 2, 11] rfl hS0 ?_
      (try simp only [Act.put, putS])
      refine tJ 2 rfl hS0 ?_
      (try simp only [Act.put, putS])
      refine bJ 3 [3, 4, 5, 6, 7, 11] rfl hS0 ?_
      (try simp only [Act.put, putS])
      refine bJ 4 [4, 5, 6, 7, 11] rfl hS0 ?_
      (try simp only [Act.put, putS])
      refine bJ 5 [5, 6, 7, 11] rfl hS0 ?_
      (try simp only [Act.put, putS])
      refine bJ 6 [6, 7, 11] rfl hS0 ?_
      (try simp only [Act.put, putS])
      refine tJ 7 rfl hS0 ?_
      (try simp only [Act.put, putS])
      refine bJ 8 [8, 9, 10, 11] rfl hS0 ?_
      (try simp only [Act.put, putS])
      refine rJ [9] ?_
      refine (AllReadyJ.cons rfl (fun K hK => ?_) AllReadyJ.nil)
      rw [if_pos (by kernel_rfl)]
      (try simp only [putG])
      (focus go_simp)
      refine hK.out _ _ ?hs (fun hS0 => ?_)
      case hs => (first | with_reducible exact hS0 | with_reducible exact sq | exact bstep hS0 (fresh_below _ _))
      clear hK K
      (try simp only [Act.put, putS])
      refine rJ [10] ?_
      refine (AllReadyJ.cons rfl (fun K hK => ?_) AllReadyJ.nil)
      rw [if_pos (by kernel_rfl)]
      (try simp only [putG])
      (focus go_simp)
      (focus ((refine (CW2.out _ _ (by (repeat' (first | with_reducible refine Row.afterdraw ?_ | with_reducible exact Row.freshAt _ _ _ _ _ _ (by simp) rfl rfl | (with_reducible refine Row.rise ?_ (fresh_below _ _)))))).mono ?_); rintro e w8 ⟨rfl, b8⟩; have sq := bstep hS0 b8))
      (focus (try go_wp2_with fail))
      refine hK.out _ _ ?hs (fun hS0 => ?_)
      case hs => (first | with_reducible exact hS0 | with_reducible exact sq | exact bstep hS0 (fresh_below _ _))
      clear hK K
      (try simp only [Act.put, putS])
      refine rJ [11] ?_
      refine (AllReadyJ.last rfl (by kernel_rfl) (fun K hK => ?_) AllReadyJ.nil)
      rw [if_pos (by kernel_rfl)]
      (try simp only [putG])
      (focus go_simp)
      (focus ((refine (CL2.out _ (Cells.below hS0 EM7.out)).mono ?_); rintro e w9 ⟨rfl, em9, on9⟩))
      (focus (try go_wp2_with fail))
      refine hK.out _ _ ?_
      clear hK K
      (try simp only [Act.put, putS])
      refine wpAnyJ_done (by kernel_rfl) ?_ _
    go_wp2_with fail
    first | go_end0 | ((try simp only [Exit.inBlock, Exit.then]); refine bodyPost_ret (v := .tuple #[]) (by simp [results, Tryz.results66, go_sem]; try rfl) rfl ?_)
    exact ⟨rfl, em9, Only.trans (Only.then ON.out hS0) on9⟩
  · have hi : id = b := by rw [HID.out]; rfl
    subst hi
    clear HID
    go_enter Tryz.func66, Tryz.ntmps66
    have d0 := Cells.new w #[.int .u32 a, .int .u16 id, .int .u32 c, .int .u16 d] 28
    have bn := fresh_below w (.cells #[.int .u32 a, .int .u16 id, .int .u32 c, .int .u16 d] 28)
    have D0 := hide d0; have BN := hide bn
    clear d0 bn
    go_upto_region 1 with fail
    generalize (w.alloc (.cells #[.int .u32 a, .int .u16 id, .int .u32 c, .int .u16 d] 28)) = w1 at *
    have em1 := Cells.below BN.out HC.out
    have d0 := D0.out
    have EM1 := hide em1
    unfold Em emCells at em1
    obtain ⟨qem1_0, qem1_1, qem1_2, qem1_3, qem1_4, qem1_5, qem1_6, qem1_7⟩ := em1.q8
    obtain ⟨qd0_0, qd0_1, qd0_2, qd0_3⟩ := d0.q4
    have bb : Below w1.heap.size w1 w1 := Below.refl _ _
    clear em1 d0
    go_upto_region 4 with fail
    have s4 : Below w1.heap.size w1 w1.drew := Below.drew bb
    focus
      refine wp_region_J [] (fun W => Below w1.heap.size w1 W) (by kernel_rfl) (s4) (fun hS0 => ?_)
      refine tJ 0 rfl hS0 ?_
      (try simp only [Act.put, putS])
      refine tJ 1 rfl hS0 ?_
      (try simp only [Act.put, putS])
      refine tJ 2 rfl hS0 ?_
      (try simp only [Act.put, putS])
      refine tJ 3 rfl hS0 ?_
      (try simp only [Act.put, putS])
      refine tJ 4 rfl hS0 ?_
      (try simp only [Act.put, putS])
      refine tJ 5 rfl hS0 ?_
      (try simp only [Act.put, putS])
      refine tJ 6 rfl hS0 ?_
      (try simp only [Act.put, putS])
      refine tJ 7 rfl hS0 ?_
      (try simp only [Act.put, putS])
      refine tJ 9 rfl hS0 ?_
      (try simp only [Act.put, putS])
      refine tJ 10 rfl hS0 ?_
      (try simp only [Act.put, putS])
      refine tJ 11 rfl hS0 ?_
      (try simp only [Act.put, putS])
      refine tJ 12 rfl hS0 ?_
      (try simp only [Act.put, putS])
      refine tJ 13 rfl hS0 ?_
      (try simp only [Act.put, putS])
      refine tJ 14 rfl hS0 ?_
      (try simp only [Act.put, putS])
      refine tJ 15 rfl hS0 ?_
      (try simp only [Act.put, putS])
      refine tJ 16 rfl hS0 ?_
      (try simp only [Act.put, putS])
      refine tJ 18 rfl hS0 ?_
      (try simp only [Act.put, putS])
      refine rJ [8] ?_
      refine (AllReadyJ.cons rfl (fun K hK => ?_) AllReadyJ.nil)
      rw [if_pos (by kernel_rfl)]
      (try simp only [putG])
      (focus go_simp)
      (focus ((with_reducible refine (C2.out _ (qem1_0 _ hS0)).mono ?_); rintro e wa ⟨rfl, ba⟩; have sq := bstep hS0 ba))
      (focus (try go_wp2_with fail))
      refine hK.out _ _ ?hs (fun hS0 => ?_)
      case hs => (first | with_reducible exact hS0 | with_reducible exact sq)
      clear hK K
      (try simp only [Act.put, putS])
      refine rJ [17] ?_
      refine (AllReadyJ.cons rfl (fun K hK => ?_) AllReadyJ.nil)
      rw [if_pos (by kernel_rfl)]
      (try simp only [putG])
      (focus go_simp)
      (focus ((with_reducible refine (C4.out _ (qem1_0 _ hS0)).mono ?_); rintro e wb ⟨rfl, bb2⟩; have sq := bstep hS0 bb2))
      (focus (try go_wp2_with fail))
      refine hK.out _ _ ?hs (fun hS0 => ?_)
      case hs => (first | with_reducible exact hS0 | with_reducible exact sq)
      clear hK K
      (try simp only [Act.put, putS])
      refine rJ [19] ?_
      refine (AllReadyJ.cons rfl (fun K hK => ?_) AllReadyJ.nil)
      rw [if_pos (by kernel_rfl)]
      (try simp only [putG])
      (focus go_simp)
      (focus ((with_reducible refine (CU.out _).mono ?_); rintro e wc ⟨rfl, rfl⟩; have sq := hS0))
      (focus (try go_wp2_with fail))
      refine hK.out _ _ ?hs (fun hS0 => ?_)
      case hs => (first | with_reducible exact hS0 | with_reducible exact sq)
      clear hK K
      (try simp only [Act.put, putS])
      refine tJ 20 rfl hS0 ?_
      (try simp only [Act.put, putS])
      refine wpAnyJ_done (by kernel_rfl) ?_ _
    go_upto_region 5 with fail
    have s5 := Below.drew hS0
    clear s4 sq ba bb2
    focus
      refine wp_region_J [11] (fun W => Below w1.heap.size w1 W) (by kernel_rfl) (s5) (fun hS0 => ?_)
      refine bJ 0 [0, 1, 2, 11] rfl hS0 ?_
      (try simp only [Act.put, putS])
      refine bJ 1 [1, 2, 11] rfl hS0 ?_
      (try simp only [Act.put, putS])
      refine tJ 2 rfl hS0 ?_
      (try simp only [Act.put, putS])
      refine bJ 3 [3, 4, 5, 6, 7, 11] rfl hS0 ?_
      (try simp only [Act.put, putS])
      refine bJ 4 [4, 5, 6, 7, 11] rfl hS0 ?_
      (try simp only [Act.put, putS])
      refine bJ 5 [5, 6, 7, 11] rfl hS0 ?_
      (try simp only [Act.put, putS])
      refine bJ 6 [6, 7, 11] rfl hS0 ?_
      (try simp only [Act.put, putS])
      refine tJ 7 rfl hS0 ?_
      (try simp only [Act.put, putS])
      refine bJ 8 [8, 9, 10, 11] rfl hS0 ?_
      (try simp only [Act.put, putS])
      refine rJ [9] ?_
      refine (AllReadyJ.cons rfl (fun K hK => ?_) AllReadyJ.nil)
      rw [if_pos (by kernel_rfl)]
      (try simp only [putG])
      (focus go_simp)
      refine hK.out _ _ ?hs (fun hS0 => ?_)
      case hs => (first | with_reducible exact hS0 | with_reducible exact sq | exact bstep hS0 (fresh_below _ _))
      clear hK K
      (try simp only [Act.put, putS])
      refine rJ [10] ?_
      refine (AllReadyJ.cons rfl (fun K hK => ?_) AllReadyJ.nil)
      rw [if_pos (by kernel_rfl)]
      (try simp only [putG])
      (focus go_simp)
      (focus ((refine (CW1.out _ _ (by (repeat' (first | with_reducible refine Row.afterdraw ?_ | with_reducible exact Row.freshAt _ _ _ _ _ _ (by simp) rfl rfl | (with_reducible refine Row.rise ?_ (fresh_below _ _)))))).mono ?_); rintro e w6 ⟨rfl, b6⟩; have sq := bstep hS0 b6))
      (focus (try go_wp2_with fail))
      refine hK.out _ _ ?hs (fun hS0 => ?_)
      case hs => (first | with_reducible exact hS0 | with_reducible exact sq | exact bstep hS0 (fresh_below _ _))
      clear hK K
      (try simp only [Act.put, putS])
      refine rJ [11] ?_
      refine (AllReadyJ.last rfl (by kernel_rfl) (fun K hK => ?_) AllReadyJ.nil)
      rw [if_pos (by kernel_rfl)]
      (try simp only [putG])
      (focus go_simp)
      (focus ((refine (CL1.out _ (Cells.below hS0 EM1.out)).mono ?_); rintro e w7 ⟨rfl, em7, on7⟩))
      (focus (try go_wp2_with fail))
      refine hK.out _ _ ?_
      clear hK K
      (try simp only [Act.put, putS])
      refine wpAnyJ_done (by kernel_rfl) ?_ _
    have ON := hide (Only.trans (Only.of_below (bstep BN.out hS0) (Nat.le_refl _)) on7)
    have EM7 := hide em7
    clear s5 hS0 sq b6 on7 qem1_0 qem1_1 qem1_2 qem1_3 qem1_4 qem1_5 qem1_6 qem1_7 qd0_0 qd0_1 qd0_2 qd0_3 bb EM1 D0 BN
    unfold Em emCells at em7
    obtain ⟨qem7_0, qem7_1, qem7_2, qem7_3, qem7_4, qem7_5, qem7_6, qem7_7⟩ := em7.q8
    clear em7
    have bb : Below w7.heap.size w7 w7 := Below.refl _ _
    go_upto_region 6 with fail
    have s6 := Below.drew bb
    focus
      refine wp_region_J [11] (fun W => Below w7.heap.size w7 W) (by kernel_rfl) (s6) (fun hS0 => ?_)
      refine bJ 0 [0, 1, 2, 11] rfl hS0 ?_
      (try simp only [Act.put, putS])
      refine bJ 1 [1, 2, 11] rfl hS0 ?_
      (try simp only [Act.put, putS])
      refine tJ 2 rfl hS0 ?_
      (try simp only [Act.put, putS])
      refine bJ 3 [3, 4, 5, 6, 7, 11] rfl hS0 ?_
      (try simp only [Act.put, putS])
      refine bJ 4 [4, 5, 6, 7, 11] rfl hS0 ?_
      (try simp only [Act.put, putS])
      refine bJ 5 [5, 6, 7, 11] rfl hS0 ?_
      (try simp only [Act.put, putS])
      refine bJ 6 [6, 7, 11] rfl hS0 ?_
      (try simp only [Act.put, putS])
      refine tJ 7 rfl hS0 ?_
      (try simp only [Act.put, putS])
      refine bJ 8 [8, 9, 10, 11] rfl hS0 ?_
      (try simp only [Act.put, putS])
      refine rJ [9] ?_
      refine (AllReadyJ.cons rfl (fun K hK => ?_) AllReadyJ.nil)
      rw [if_pos (by kernel_rfl)]
      (try simp only [putG])
      (focus go_simp)
      refine hK.out _ _ ?hs (fun hS0 => ?_)
      case hs => (first | with_reducible exact hS0 | with_reducible exact sq | exact bstep hS0 (fresh_below _ _))
      clear hK K
      (try simp only [Act.put, putS])
      refine rJ [10] ?_
      refine (AllReadyJ.cons rfl (fun K hK => ?_) AllReadyJ.nil)
      rw [if_pos (by kernel_rfl)]
      (try simp only [putG])
      (focus go_simp)
      (focus ((refine (CW2.out _ _ (by (repeat' (first | with_reducible refine Row.afterdraw ?_ | with_reducible exact Row.freshAt _ _ _ _ _ _ (by simp) rfl rfl | (with_reducible refine Row.rise ?_ (fresh_below _ _)))))).mono ?_); rintro e w8 ⟨rfl, b8⟩; have sq := bstep hS0 b8))
      (focus (try go_wp2_with fail))
      refine hK.out _ _ ?hs (fun hS0 => ?_)
      case hs => (first | with_reducible exact hS0 | with_reducible exact sq | exact bstep hS0 (fresh_below _ _))
      clear hK K
      (try simp only [Act.put, putS])
      refine rJ [11] ?_
      refine (AllReadyJ.last rfl (by kernel_rfl) (fun K hK => ?_) AllReadyJ.nil)
      rw [if_pos (by kernel_rfl)]
      (try simp only [putG])
      (focus go_simp)
      (focus ((refine (CL2.out _ (Cells.below hS0 EM7.out)).mono ?_); rintro e w9 ⟨rfl, em9, on9⟩))
      (focus (try go_wp2_with fail))
      refine hK.out _ _ ?_
      clear hK K
      (try simp only [Act.put, putS])
      refine wpAnyJ_done (by kernel_rfl) ?_ _
    go_wp2_with fail
    first | go_end0 | ((try simp only [Exit.inBlock, Exit.then]); refine bodyPost_ret (v := .tuple #[]) (by simp [results, Tryz.results66, go_sem]; try rfl) rfl ?_)
    exact ⟨rfl, em9, Only.trans (Only.then ON.out hS0) on9⟩
set_option maxRecDepth 100000 in
set_option maxHeartbeats 16000000 in
theorem e_change (w : World) (B : Nat) (s : ByteArray) (e : Nat) (t : Tup) (q : Bool) (a b c d : Int) (hC : Em w B s e t q) (ht : t.Ok) (ha : 0 ≤ a ∧ a ≤ 4294967295) (hb : 0 ≤ b ∧ b ≤ 65535) (hc : 0 ≤ c ∧ c ≤ 4294967295) (hd : 0 ≤ d ∧ d ≤ 65535) (hs : s.size ≤ 140737488351232) (h : e + 8 ≤ s.size) (h20 : 20 ≤ e) (he : e ≤ 60) :
    Calls Tryz.prog 31 #[.pointer (some ⟨B, 0, none⟩), .agg #[.int .u32 a, .int .u16 b, .int .u32 c, .int .u16 d]] w (Turned w B (emCells (S (emCh (L s) e t q a b c d)) e t q) 79) := by
  have hsL : (L s).length = s.size := L_length s
  have ce := fun W => e_ends a b c d W ha hb hc hd
  have c10 := fun W (hC : W.cell? ⟨B, 0, none⟩ = some (.string s)) => e_two W B s 10 hC hs ⟨by omega, by omega⟩
  rw [show get16 (L s) 10 = be16 (L s) 10 from get16_nat (k := 10) (by omega)] at c10
  have hx := be16_bd (L s) 10
  obtain ⟨n, hn⟩ : ∃ n, n = updates (be16 (L s) 10) (((L s).drop 12).take 8) (ipsOf a c) := ⟨_, rfl⟩
  have hnb : 0 ≤ n ∧ n ≤ 65535 := by rw [hn]; exact updates_bd hx
  obtain ⟨l1, hl1⟩ : ∃ l1, l1 = (L s).take 12 ++ (ipsOf a c ++ (L s).drop 20) := ⟨_, rfl⟩
  have hl1n : l1.length = s.size := by rw [hl1]; simp only [List.length_append, List.length_take, List.length_drop, ipsOf_len]; omega
  obtain ⟨l2, hl2⟩ : ∃ l2, l2 = lay l1 10 n := ⟨_, rfl⟩
  have hl2n : l2.length = s.size := by rw [hl2, lay_length (by omega), hl1n]
  have hmid : emMid (L s) a c = l2 := by unfold emMid; rw [← hl1, ← hn, ← hl2]
  have cu := fun W => Updates (be16 (L s) 10) (s.extract 12 20) (S (ipsOf a c)) W hx (by simp; omega) (by rw [S_size, ipsOf_len]; omega)
  rw [show updates (be16 (L s) 10) (L (s.extract 12 20)) (L (S (ipsOf a c))) = n from by rw [hn, L_S, L_extract]] at cu
  have cl1 := fun W (hC : Em W B s e t q) => e_layEm W B s e t q 12 (S (ipsOf a c)) hC hs (by rw [S_size, ipsOf_len]; omega) (S l1) (by rw [L_S, S_size, ipsOf_len, hl1])
  have cl2 := fun W (hC : Em W B (S l1) e t q) => e_layEm W B (S l1) e t q 10 (S (put16 n)) hC (by rw [S_size, hl1n]; exact hs) (by rw [S_size, S_size, put16_length, hl1n]; omega) (S l2) (by rw [L_S, L_S, S_size, put16_length, hl2, ← List.append_assoc]; rfl)
  have cw := fun W A hR => word_one n hnb W A hR
  have cf16 := fun W (hC : Em W B (S l2) e t q) (h6 : t.p = 6) => e_flow W B (S l2) e t q a b c d 16 hC ht ha hb hc hd (by rw [S_size, hl2n]; exact hs) (by rw [S_size, hl2n]; exact h) he (Or.inl ⟨h6, rfl⟩)
  have cf6 := fun W (hC : Em W B (S l2) e t q) (h17 : t.p = 17) => e_flow W B (S l2) e t q a b c d 6 hC ht ha hb hc hd (by rw [S_size, hl2n]; exact hs) (by rw [S_size, hl2n]; exact h) he (Or.inr ⟨h17, rfl⟩)
  have cm := fun W (hC : Em W B (S l2) e t q) => e_message W B (S l2) e t q a b c d hC hb hd (by rw [S_size, hl2n]; exact hs) (by rw [S_size, hl2n]; exact h) he
  rw [L_S] at cf16 cf6 cm
  have r6 : t.p = 6 → emCh (L s) e t q a b c d = emFlow l2 e t a b c d 16 := fun h => by unfold emCh; rw [hmid, if_pos h]
  have r17 : t.p = 17 → emCh (L s) e t q a b c d = emFlow l2 e t a b c d 6 := fun h => by unfold emCh; rw [hmid, if_neg (by omega), if_pos h]
  have ro : t.p ≠ 6 → t.p ≠ 17 → emCh (L s) e t q a b c d = emMsgN l2 e (if q = true then b else d) := fun h1 h2 => by unfold emCh; rw [hmid, if_neg h1, if_neg h2]
  obtain ⟨RV, hRV⟩ : ∃ RV, emCh (L s) e t q a b c d = RV := ⟨_, rfl⟩
  rw [hRV] at r6 r17 ro ⊢
  have i20 : (20 : Int) ≤ (s.size : Int) := by omega
  have i20n : 20 ≤ s.size := by omega
  generalize be16 (L s) 10 = x at *
  obtain ⟨i2, hi2⟩ : ∃ i2, i2 = S (ipsOf a c) := ⟨_, rfl⟩
  rw [← hi2] at ce cu cl1
  obtain ⟨p2, hp2⟩ : ∃ p2, p2 = S (putW [b, d]) := ⟨_, rfl⟩
  rw [← hp2] at ce
  obtain ⟨s1, hs1⟩ : ∃ s1, s1 = S l1 := ⟨_, rfl⟩
  rw [← hs1] at cl1 cl2
  obtain ⟨s2, hs2⟩ : ∃ s2, s2 = S l2 := ⟨_, rfl⟩
  rw [← hs2] at cl2 cf16 cf6 cm
  obtain ⟨w2', hw2'⟩ : ∃ x, x = S (put16 n) := ⟨_, rfl⟩
  rw [← hw2'] at cw cl2
  have CE := hide ce; have C10 := hide c10; have CU := hide cu; have CL1 := hide cl1; have CL2 := hide cl2; have CW := hide cw; have CF16 := hide cf16; have CF6 := hide cf6; have CM := hide cm; have HC := hide hC
  have R6 := hide r6; have R17 := hide r17; have RO := hide ro
  have hB : B < w.heap.size := Cells.lt hC
  clear ce c10 cu cl1 cl2 cw cf16 cf6 cm hC r6 r17 ro hRV hsL hx hn hnb hl1 hl1n hl2 hl2n hmid hi2 hp2 hs1 hs2 hw2' ht ha hb hc hd hs h h20 he
  go_enter Tryz.func31, Tryz.ntmps31
  have d0 := Cells.new w #[.int .u32 a, .int .u16 b, .int .u32 c, .int .u16 d] 28
  have bn := fresh_below w (.cells #[.int .u32 a, .int .u16 b, .int .u32 c, .int .u16 d] 28)
  have D0 := hide d0; have BN := hide bn
  clear d0 bn
  go_upto_region 1 with fail
  generalize (w.alloc (.cells #[.int .u32 a, .int .u16 b, .int .u32 c, .int .u16 d] 28)) = w1 at *
  have em1 := Cells.below BN.out HC.out
  have d0 := D0.out
  have EM1 := hide em1
  unfold Em emCells at em1
  obtain ⟨qem1_0, qem1_1, qem1_2, qem1_3, qem1_4, qem1_5, qem1_6, qem1_7⟩ := em1.q8
  obtain ⟨qd0_0, qd0_1, qd0_2, qd0_3⟩ := d0.q4
  have bb : Below w1.heap.size w1 w1 := Below.refl _ _
  clear em1 d0
  go_upto_region 2 with (go_at_call 63; (with_reducible refine (CE.out _).mono ?_); rintro e w2 ⟨rfl, b2⟩; have b2' := bstep bb b2)
  have s2' := Below.drew b2'
  clear b2
  focus
    refine wp_region_J [] (fun W => Below w1.heap.size w1 W) (by kernel_rfl) (s2') (fun hS0 => ?_)
    refine tJ 0 rfl hS0 ?_
    (try simp only [Act.put, putS])
    refine tJ 1 rfl hS0 ?_
    (try simp only [Act.put, putS])
    refine tJ 2 rfl hS0 ?_
    (try simp only [Act.put, putS])
    refine tJ 4 rfl hS0 ?_
    (try simp only [Act.put, putS])
    refine tJ 5 rfl hS0 ?_
    (try simp only [Act.put, putS])
    refine tJ 6 rfl hS0 ?_
    (try simp only [Act.put, putS])
    refine tJ 7 rfl hS0 ?_
    (try simp only [Act.put, putS])
    refine tJ 8 rfl hS0 ?_
    (try simp only [Act.put, putS])
    refine tJ 9 rfl hS0 ?_
    (try simp only [Act.put, putS])
    refine tJ 10 rfl hS0 ?_
    (try simp only [Act.put, putS])
    refine rJ [3] ?_
    refine (AllReadyJ.cons rfl (fun K hK => ?_) AllReadyJ.nil)
    rw [if_pos (by kernel_rfl)]
    (try simp only [putG])
    (focus go_simp)
    (focus ((with_reducible refine (C10.out _ (qem1_0 _ hS0)).mono ?_); rintro e wa ⟨rfl, ba⟩; have sq := bstep hS0 ba))
    (focus (try go_wp2_with fail))
    refine hK.out _ _ ?hs (fun hS0 => ?_)
    case hs => (first | with_reducible exact hS0 | with_reducible exact sq)
    clear hK K
    (try simp only [Act.put, putS])
    refine rJ [11] ?_
    refine (AllReadyJ.cons rfl (fun K hK => ?_) AllReadyJ.nil)
    rw [if_pos (by kernel_rfl)]
    (try simp only [putG])
    (focus go_simp)
    (focus ((with_reducible refine (CU.out _).mono ?_); rintro e wb ⟨rfl, bb2⟩; have sq := bstep hS0 bb2))
    (focus (try go_wp2_with fail))
    refine hK.out _ _ ?hs (fun hS0 => ?_)
    case hs => (first | with_reducible exact hS0 | with_reducible exact sq)
    clear hK K
    (try simp only [Act.put, putS])
    refine tJ 12 rfl hS0 ?_
    (try simp only [Act.put, putS])
    refine wpAnyJ_done (by kernel_rfl) ?_ _
  go_upto_region 4 with (go_at_call 33; (refine (CL1.out _ (Cells.below hS0 EM1.out)).mono ?_); rintro e w3 ⟨rfl, em3, on3⟩)
  have ON := hide (Only.trans (Only.of_below (bstep BN.out hS0) (Nat.le_refl _)) on3)
  have EM3 := hide em3
  have DD3 := hide (Cells.only (Cells.below hS0 D0.out) on3 (by omega))
  clear s2' hS0 sq ba bb2 b2' on3 em3 bb qem1_0 qem1_1 qem1_2 qem1_3 qem1_4 qem1_5 qem1_6 qem1_7 qd0_0 qd0_1 qd0_2 qd0_3 EM1 D0 BN CE C10 CU CL1
  have s4 : Below w3.heap.size w3 w3.drew := Below.drew (Below.refl _ _)
  focus
    refine wp_region_J [6] (fun W => Below w3.heap.size w3 W) (by kernel_rfl) (s4) (fun hS0 => ?_)
    refine bJ 0 [0, 1, 2, 6] rfl hS0 ?_
    (try simp only [Act.put, putS])
    refine bJ 1 [1, 2, 6] rfl hS0 ?_
    (try simp only [Act.put, putS])
    refine tJ 2 rfl hS0 ?_
    (try simp only [Act.put, putS])
    refine bJ 3 [3, 4, 5, 6] rfl hS0 ?_
    (try simp only [Act.put, putS])
    refine rJ [4] ?_
    refine (AllReadyJ.cons rfl (fun K hK => ?_) AllReadyJ.nil)
    rw [if_pos (by kernel_rfl)]
    (try simp only [putG])
    (focus go_simp)
    refine hK.out _ _ ?hs (fun hS0 => ?_)
    case hs => (first | with_reducible exact hS0 | with_reducible exact sq | exact bstep hS0 (fresh_below _ _))
    clear hK K
    (try simp only [Act.put, putS])
    refine rJ [5] ?_
    refine (AllReadyJ.cons rfl (fun K hK => ?_) AllReadyJ.nil)
    rw [if_pos (by kernel_rfl)]
    (try simp only [putG])
    (focus go_simp)
    (focus ((refine (CW.out _ _ (by (repeat' (first | with_reducible refine Row.afterdraw ?_ | with_reducible exact Row.freshAt _ _ _ _ _ _ (by simp) rfl rfl | (with_reducible refine Row.rise ?_ (fresh_below _ _)))))).mono ?_); rintro e w6 ⟨rfl, b6⟩; have sq := bstep hS0 b6))
    (focus (try go_wp2_with fail))
    refine hK.out _ _ ?hs (fun hS0 => ?_)
    case hs => (first | with_reducible exact hS0 | with_reducible exact sq | exact bstep hS0 (fresh_below _ _))
    clear hK K
    (try simp only [Act.put, putS])
    refine rJ [6] ?_
    refine (AllReadyJ.last rfl (by kernel_rfl) (fun K hK => ?_) AllReadyJ.nil)
    rw [if_pos (by kernel_rfl)]
    (try simp only [putG])
    (focus go_simp)
    (focus ((refine (CL2.out _ (Cells.below hS0 EM3.out)).mono ?_); rintro e w7 ⟨rfl, em7, on7⟩))
    (focus (try go_wp2_with fail))
    refine hK.out _ _ ?_
    clear hK K
    (try simp only [Act.put, putS])
    refine wpAnyJ_done (by kernel_rfl) ?_ _
  all_goals
    have dd7 := Cells.only (Cells.below hS0 DD3.out) on7 (by omega)
    have ON7 := hide (Only.trans (Only.then ON.out hS0) on7)
    have EM7 := hide em7
    clear s4 hS0 sq b6 on7
    unfold Em emCells at em7
    have y2 : w7.cell? ⟨B, 2, none⟩ = some (.int .u8 t.p) := em7.at_ 2
    have y0 : w7.cell? ⟨w.heap.size, 0, none⟩ = some (.int .u32 a) := dd7.at_ 0
    have y1 : w7.cell? ⟨w.heap.size, 1, none⟩ = some (.int .u16 b) := dd7.at_ 1
    have y3 : w7.cell? ⟨w.heap.size, 2, none⟩ = some (.int .u32 c) := dd7.at_ 2
    have y4 : w7.cell? ⟨w.heap.size, 3, none⟩ = some (.int .u16 d) := dd7.at_ 3
    clear em7 dd7
    by_cases p6 : t.p = 6
    · have q6 : (t.p == 6) = true := by simpa using p6
      have P6 := hide p6
      clear p6
      go_wp2_with (go_at_call 65; (refine (CF16.out _ EM7.out P6.out).mono ?_); rintro e w8 ⟨rfl, em8, on8⟩)
      first | go_end0 | ((try simp only [Exit.inBlock, Exit.then]); refine bodyPost_ret (v := .tuple #[]) (by simp [results, Tryz.results31, go_sem]; try rfl) rfl ?_)
      exact ⟨rfl, by rw [R6.out P6.out]; exact em8, Only.trans ON7.out on8⟩
    · have q6 : (t.p == 6) = false := by simpa using p6
      have P6 := hide p6
      clear p6
      by_cases p17 : t.p = 17
      · have q17 : (t.p == 17) = true := by simpa using p17
        have P17 := hide p17
        clear p17
        go_wp2_with (go_at_call 65; (refine (CF6.out _ EM7.out P17.out).mono ?_); rintro e w8 ⟨rfl, em8, on8⟩)
        first | go_end0 | ((try simp only [Exit.inBlock, Exit.then]); refine bodyPost_ret (v := .tuple #[]) (by simp [results, Tryz.results31, go_sem]; try rfl) rfl ?_)
        exact ⟨rfl, by rw [R17.out P17.out]; exact em8, Only.trans ON7.out on8⟩
      · have q17 : (t.p == 17) = false := by simpa using p17
        have P17 := hide p17
        clear p17
        go_wp2_with (go_at_call 66; (refine (CM.out _ EM7.out).mono ?_); rintro e w8 ⟨rfl, em8, on8⟩)
        first | go_end0 | ((try simp only [Exit.inBlock, Exit.then]); refine bodyPost_ret (v := .tuple #[]) (by simp [results, Tryz.results31, go_sem]; try rfl) rfl ?_)
        exact ⟨rfl, by rw [RO.out P6.out P17.out]; exact em8, Only.trans ON7.out on8⟩
end Go.Proofs.YtjeaknipmdfkdaaGreatDoor
end

section
/- embeds.Translate: an error and what it is about, both changed, over this program. -/
set_option linter.unusedVariables false
set_option linter.unusedSimpArgs false
namespace Go.Proofs.YtjeaknipmdfkdaaGreatDoor
open Go.RowKit
attribute [local go_sem] Oper.semAt_some envL lookV

/-- lay of a text that lies alone in a block -/
theorem e_lay1 (W : World) (B : Nat) (s : ByteArray) (k : Nat) (p : ByteArray) (hC : Cells W B #[.string s] 77) (hs : s.size ≤ 140737488351232) (h : k + p.size ≤ s.size) (n : ByteArray) (hn : S ((L s).take k ++ (L p ++ (L s).drop (k + p.size))) = n) :
    Calls Tryz.prog 33 #[.pointer (some ⟨B, 0, none⟩), .int .i64 k, .string p] W (fun en w' => en = .returned (.tuple #[]) ∧ Cells w' B #[.string n] 77 ∧ Only (fun i => i = B) W w') :=
  (e_lay W B _ _ s k p hC rfl hs h).mono (by
    rintro en w' ⟨h1, h2, h3⟩
    rw [hn] at h2
    exact ⟨h1, Cells.like h2 (by simp), h3⟩)
set_option maxRecDepth 100000 in
set_option maxHeartbeats 16000000 in
theorem e_Translate (oa ob oc od a b c d : Int) (s : ByteArray) (w : World) (K0 : Kinds w) (hoa : 0 ≤ oa ∧ oa ≤ 4294967295) (hob : 0 ≤ ob ∧ ob ≤ 65535) (hoc : 0 ≤ oc ∧ oc ≤ 4294967295) (hod : 0 ≤ od ∧ od ≤ 65535) (ha : 0 ≤ a ∧ a ≤ 4294967295) (hb : 0 ≤ b ∧ b ≤ 65535) (hc : 0 ≤ c ∧ c ≤ 4294967295) (hd : 0 ≤ d ∧ d ≤ 65535) (hs : s.size ≤ 140737488351232) :
    Calls Tryz.prog 11 #[.string s, .agg #[.int .u32 oa, .int .u16 ob, .int .u32 oc, .int .u16 od], .agg #[.int .u32 a, .int .u16 b, .int .u32 c, .int .u16 d]] w (Ret (.tuple #[.string (trOut s oa ob oc od a b c d), .int .i64 (trWhy s)]) w) := by
  have ca := fun W (hW : Below w.heap.size w W) => e_about W s (K0.below hW) hs
  unfold Abouts at ca
  by_cases h : emsWhy s = 0
  rotate_left 1
  · have e1 : trWhy s = emsWhy s := by unfold trWhy; rw [if_pos h]
    have e2 : trOut s oa ob oc od a b c d = { data := #[] } := by unfold trOut; rw [e1, if_neg h]
    rw [e1, e2]
    simp only [h, if_false] at ca
    have hr : (emsWhy s != 0) = true := by simpa using h
    generalize emsWhy s = r at *
    have CA := hide ca
    clear ca K0 hs h e1 e2 hoa hob hoc hod ha hb hc hd
    go_enter Tryz.func11, Tryz.ntmps11
    have d0 := Cells.new w #[.int .u32 oa, .int .u16 ob, .int .u32 oc, .int .u16 od] 28
    replace d0 := Cells.below (fresh_below (w.alloc (.cells #[.int .u32 oa, .int .u16 ob, .int .u32 oc, .int .u16 od] 28)) (.cells #[.int .u32 a, .int .u16 b, .int .u32 c, .int .u16 d] 28)) d0
    have d1 := Cells.new (w.alloc (.cells #[.int .u32 oa, .int .u16 ob, .int .u32 oc, .int .u16 od] 28)) #[.int .u32 a, .int .u16 b, .int .u32 c, .int .u16 d] 28
    have l0 : Below w.heap.size w ((w.alloc (.cells #[.int .u32 oa, .int .u16 ob, .int .u32 oc, .int .u16 od] 28)).alloc (.cells #[.int .u32 a, .int .u16 b, .int .u32 c, .int .u16 d] 28)) := (bstep (fresh_below _ _) (fresh_below _ _))
    simp only [World.size_alloc] at d1
    have L0 := hide l0; have D0 := hide d0; have D1 := hide d1
    clear l0 d0 d1
    go_upto_region 1 with fail
    have l0 := L0.out; have d0 := D0.out; have d1 := D1.out
    clear L0 D0 D1
    generalize ((w.alloc (.cells #[.int .u32 oa, .int .u16 ob, .int .u32 oc, .int .u16 od] 28)).alloc (.cells #[.int .u32 a, .int .u16 b, .int .u32 c, .int .u16 d] 28)) = w1 at *
    obtain ⟨qd0_0, qd0_1, qd0_2, qd0_3⟩ := d0.q4
    obtain ⟨qd1_0, qd1_1, qd1_2, qd1_3⟩ := d1.q4
    have bb : Below w1.heap.size w1 w1 := Below.refl _ _
    have L0 := hide l0; have D0 := hide d0; have D1 := hide d1
    clear l0 d0 d1
    go_wp2_with (go_at_call 28; (refine (CA.out _ L0.out).mono ?_); rintro e w2 ⟨m, rfl, b2⟩)
    go_ret2
    exact ⟨rfl, bstep (bstep L0.out b2) (fresh_below _ _)⟩
  have cr := fun W (hW : Below w.heap.size w W) => rw_Apply oa ob oc od s W (K0.below hW) hoa hob hoc hod hs
  simp only [h, if_true] at ca
  have ca' : ∀ W, Below w.heap.size w W → Calls Tryz.prog 28 #[.string s] W (fun en w' => ∃ B, en = .returned (.tuple #[.agg #[.int .u8 (msgOf (ipRest s)).t, .int .u8 (msgOf (ipRest s)).c, .int .u16 (msgOf (ipRest s)).n, .string (msgOf (ipRest s)).r, .string (emData s)], .pointer (some ⟨B, 0, none⟩), .int .i64 0]) ∧ W.heap.size ≤ B ∧ Em w' B (emData s) (emAt (L (emData s))) (emTup (L (emData s))) (emAsk (L (emData s))) ∧ Below W.heap.size W w') := fun W hW => ca W hW
  by_cases hw : rwWhy s = 0
  rotate_left 1
  · have e1 : trWhy s = rwWhy s := by unfold trWhy; rw [if_neg (by omega)]
    have e2 : trOut s oa ob oc od a b c d = { data := #[] } := by unfold trOut; rw [e1, if_neg hw]
    rw [e1, e2]
    have hr : (rwWhy s != 0) = true := by simpa using hw
    generalize rwWhy s = r at *
    obtain ⟨m, hm⟩ : ∃ m, m = msgOf (ipRest s) := ⟨_, rfl⟩
    rw [← hm] at ca'
    generalize rwOut s oa ob oc od = ro at *
    generalize emData s = dt at *
    generalize emAt (L dt) = et at *
    generalize emTup (L dt) = tt at *
    generalize emAsk (L dt) = qq at *
    have CA := hide ca'; have CR := hide cr
    clear ca ca' cr K0 hs h e1 e2 hw hm hoa hob hoc hod ha hb hc hd
    go_enter Tryz.func11, Tryz.ntmps11
    have d0 := Cells.new w #[.int .u32 oa, .int .u16 ob, .int .u32 oc, .int .u16 od] 28
    replace d0 := Cells.below (fresh_below (w.alloc (.cells #[.int .u32 oa, .int .u16 ob, .int .u32 oc, .int .u16 od] 28)) (.cells #[.int .u32 a, .int .u16 b, .int .u32 c, .int .u16 d] 28)) d0
    have d1 := Cells.new (w.alloc (.cells #[.int .u32 oa, .int .u16 ob, .int .u32 oc, .int .u16 od] 28)) #[.int .u32 a, .int .u16 b, .int .u32 c, .int .u16 d] 28
    have l0 : Below w.heap.size w ((w.alloc (.cells #[.int .u32 oa, .int .u16 ob, .int .u32 oc, .int .u16 od] 28)).alloc (.cells #[.int .u32 a, .int .u16 b, .int .u32 c, .int .u16 d] 28)) := (bstep (fresh_below _ _) (fresh_below _ _))
    simp only [World.size_alloc] at d1
    have L0 := hide l0; have D0 := hide d0; have D1 := hide d1
    clear l0 d0 d1
    go_upto_region 1 with fail
    have l0 := L0.out; have d0 := D0.out; have d1 := D1.out
    clear L0 D0 D1
    generalize ((w.alloc (.cells #[.int .u32 oa, .int .u16 ob, .int .u32 oc, .int .u16 od] 28)).alloc (.cells #[.int .u32 a, .int .u16 b, .int .u32 c, .int .u16 d] 28)) = w1 at *
    obtain ⟨qd0_0, qd0_1, qd0_2, qd0_3⟩ := d0.q4
    obtain ⟨qd1_0, qd1_1, qd1_2, qd1_3⟩ := d1.q4
    have bb : Below w1.heap.size w1 w1 := Below.refl _ _
    have L0 := hide l0; have D0 := hide d0; have D1 := hide d1
    clear l0 d0 d1
    go_upto_region 4 with (go_at_call 28; (refine (CA.out _ L0.out).mono ?_); rintro e w2 ⟨B, rfl, hB, hE, b2⟩)
    have bz := bstep (bstep bb b2) (fresh_below w2 (.cells #[.int .u8 m.t, .int .u8 m.c, .int .u16 m.n, .string m.r, .string dt] 64))
    clear hE b2 hB
    generalize (w2.alloc (.cells #[.int .u8 m.t, .int .u8 m.c, .int .u16 m.n, .string m.r, .string dt] 64)) = w3 at *
    go_wp2_with (go_at_call 15; (with_reducible refine (CR.out _ (bstep L0.out bz)).mono ?_); rintro e w4 ⟨rfl, b4⟩)
    go_ret2
    exact ⟨rfl, bstep (bstep L0.out bz) b4⟩
  have e1 : trWhy s = 0 := by unfold trWhy; rw [if_neg (by omega)]; exact hw
  obtain ⟨k, hk1, hk2, hk3, hk4, hk5, hk6⟩ := tr_size (a := oa) (b := ob) (c := oc) (d := od) e1 hoa hob hoc hod
  obtain ⟨_, _, hem⟩ := ems_seen h
  obtain ⟨p1, p2, p3, _, _, _⟩ := emWhy_parts hem
  have hdl : (L (emData s)).length = (emData s).size := L_length _
  have hnl := emNew_len hem a b c d
  have cc := fun W B (hC : Em W B (emData s) (emAt (L (emData s))) (emTup (L (emData s))) (emAsk (L (emData s)))) => e_change W B (emData s) (emAt (L (emData s))) (emTup (L (emData s))) (emAsk (L (emData s))) a b c d hC (emTup_ok _) ha hb hc hd (by omega) (by omega) (by omega) (by omega)
  obtain ⟨m, hm⟩ : ∃ m, m = msgOf (ipRest s) := ⟨_, rfl⟩
  have hmn : 0 ≤ m.n ∧ m.n ≤ 65535 := by rw [hm]; exact be16_bd _ _
  obtain ⟨nw, hnw⟩ : ∃ nw, nw = emNew (L (emData s)) a b c d := ⟨_, rfl⟩
  obtain ⟨ro, hro⟩ : ∃ ro, ro = rwOut s oa ob oc od := ⟨_, rfl⟩
  obtain ⟨ev, hev⟩ : ∃ ev : Nat, ev = (emData s).size / 2 * 2 := ⟨_, rfl⟩
  obtain ⟨sm, hsm⟩ : ∃ sm, sm = emSum s a b c d := ⟨_, rfl⟩
  have hnw2 : emCh (L (emData s)) (emAt (L (emData s))) (emTup (L (emData s))) (emAsk (L (emData s))) a b c d = nw := hnw.symm
  rw [hnw2] at cc
  rw [← hnw] at hnl
  have hsm2 : sm = updates m.n (L ((emData s).extract 0 ev)) (L ((S nw).extract 0 ev)) := by
    rw [hsm, L_extract, L_extract, L_S, List.drop_zero, List.drop_zero, Nat.sub_zero]
    unfold emSum emEven
    rw [← hnw, ← hm, hdl, ← hev]
  have hsb : 0 ≤ sm ∧ sm ≤ 65535 := by rw [hsm2]; exact updates_bd hmn
  rw [← hro] at hk4 hk5 cr
  obtain ⟨tx, htx⟩ : ∃ tx, tx = trOut s oa ob oc od a b c d := ⟨_, rfl⟩
  have htx2 : tx = S (lay ((L ro).take (k + 8) ++ nw) (k + 2) sm) := by
    rw [htx]
    unfold trOut trNew
    rw [if_pos e1, ← hro, ← hnw, ← hsm, show ro.size - (emData s).size = k + 8 from by omega]
    rfl
  rw [e1, ← htx]
  rw [← hm] at ca'
  rw [hw] at cr
  have hrl : (L ro).length = ro.size := L_length _
  have hl1 : ((L ro).take (k + 8) ++ nw).length = ro.size := by rw [List.length_append, List.length_take, hnl]; omega
  have cu := fun W => Updates m.n ((emData s).extract 0 ev) ((S nw).extract 0 ev) W hmn (by simp; omega) (by simp [S_size]; omega)
  rw [← hsm2] at cu
  have cl1 := fun W g (hC : Cells W g #[.string ro] 77) => e_lay1 W g ro (k + 8) (S nw) hC (by omega) (by rw [S_size, hnl]; omega) (S ((L ro).take (k + 8) ++ nw)) (by rw [L_S, S_size, hnl, List.drop_eq_nil_of_le (by omega), List.append_nil])
  have cl2 := fun W g (hC : Cells W g #[.string (S ((L ro).take (k + 8) ++ nw))] 77) => e_lay1 W g (S ((L ro).take (k + 8) ++ nw)) (k + 2) (S (put16 sm)) hC (by rw [S_size, hl1]; omega) (by rw [S_size, S_size, put16_length, hl1]; omega) tx (by rw [htx2, L_S, L_S, S_size, put16_length, ← List.append_assoc]; rfl)
  have cw := fun W A hR => word_one sm hsb W A hR
  have hz1 : (S nw).size = (emData s).size := by rw [S_size, hnl]; exact hdl
  generalize S (put16 sm) = ws at *
  generalize S ((L ro).take (k + 8) ++ nw) = t1 at *
  obtain ⟨sn, hsn⟩ : ∃ sn, sn = S nw := ⟨_, rfl⟩
  rw [← hsn] at cc cu cl1 hz1
  generalize emData s = dt at *
  obtain ⟨et, het⟩ : ∃ et : Nat, et = emAt (L dt) := ⟨_, rfl⟩
  rw [← het] at cc ca'
  generalize emTup (L dt) = tt at *
  generalize emAsk (L dt) = qq at *
  obtain ⟨z8, hz8⟩ : ∃ z8 : Nat, z8 = k + 8 := ⟨_, rfl⟩
  obtain ⟨z2, hz2⟩ : ∃ z2 : Nat, z2 = k + 2 := ⟨_, rfl⟩
  rw [← hz8] at cl1
  rw [← hz2] at cl2
  have an : bits .andNot .i64 (sn.size : Int) 1 = ((ev : Nat) : Int) := by rw [Go.Lib.andNot_one sn.size (by omega), hev, hz1]
  have w1 : IntKind.i64.wrap ((ro.size : Int) - (sn.size : Int)) = (z8 : Int) := by rw [IntWalk.i64_in _ (by omega)]; omega
  obtain ⟨z0, hz0⟩ : ∃ z0 : Int, z0 = (k : Int) := ⟨_, rfl⟩
  have w2 : IntKind.i64.wrap ((z8 : Int) - 8) = z0 := by rw [IntWalk.i64_in _ (by omega)]; omega
  have w3 : IntKind.i64.wrap (z0 + 2) = (z2 : Int) := by rw [IntWalk.i64_in _ (by omega)]; omega
  have i1 : ev ≤ sn.size := by omega
  have i2 : ev ≤ dt.size := by omega
  have i3 : (ev : Int) ≤ (sn.size : Int) := by omega
  have i4 : (ev : Int) ≤ (dt.size : Int) := by omega
  have hB0 : w.heap.size < (w.heap.size + 2) := by omega
  have CA := hide ca'; have CR := hide cr; have CC := hide cc; have CU := hide cu; have CL1 := hide cl1; have CL2 := hide cl2; have CW := hide cw
  clear ca ca' cr cc cu cl1 cl2 cw K0 hs h e1 hw hm hoa hob hoc hod ha hb hc hd hk1 hk2 hk3 hk4 hk5 hk6 hem p1 p2 p3 hdl hnl hmn hnw hnw2 hro hev hsm hsm2 hsb htx htx2 hrl hl1 hz1 hsn het hz8 hz2 hz0 hB0
  have W1 := hide w1; have W2 := hide w2; have W3 := hide w3
  clear w1 w2 w3
  go_enter Tryz.func11, Tryz.ntmps11
  have d0 := Cells.new w #[.int .u32 oa, .int .u16 ob, .int .u32 oc, .int .u16 od] 28
  replace d0 := Cells.below (fresh_below (w.alloc (.cells #[.int .u32 oa, .int .u16 ob, .int .u32 oc, .int .u16 od] 28)) (.cells #[.int .u32 a, .int .u16 b, .int .u32 c, .int .u16 d] 28)) d0
  have d1 := Cells.new (w.alloc (.cells #[.int .u32 oa, .int .u16 ob, .int .u32 oc, .int .u16 od] 28)) #[.int .u32 a, .int .u16 b, .int .u32 c, .int .u16 d] 28
  have l0 : Below w.heap.size w ((w.alloc (.cells #[.int .u32 oa, .int .u16 ob, .int .u32 oc, .int .u16 od] 28)).alloc (.cells #[.int .u32 a, .int .u16 b, .int .u32 c, .int .u16 d] 28)) := (bstep (fresh_below _ _) (fresh_below _ _))
  simp only [World.size_alloc] at d1
  have L0 := hide l0; have D0 := hide d0; have D1 := hide d1
  clear l0 d0 d1
  go_upto_region 1 with fail
  have l0 := L0.out; have d0 := D0.out; have d1 := D1.out
  clear L0 D0 D1
  generalize ((w.alloc (.cells #[.int .u32 oa, .int .u16 ob, .int .u32 oc, .int .u16 od] 28)).alloc (.cells #[.int .u32 a, .int .u16 b, .int .u32 c, .int .u16 d] 28)) = w1 at *
  obtain ⟨qd0_0, qd0_1, qd0_2, qd0_3⟩ := d0.q4
  obtain ⟨qd1_0, qd1_1, qd1_2, qd1_3⟩ := d1.q4
  have bb : Below w1.heap.size w1 w1 := Below.refl _ _
  have L0 := hide l0; have D0 := hide d0; have D1 := hide d1
  clear l0 d0 d1
  go_upto_region 4 with (go_at_call 28; (refine (CA.out _ L0.out).mono ?_); rintro e w2 ⟨B, rfl, hB, hE, b2⟩)
  have nn := Cells.new w2 #[.int .u8 m.t, .int .u8 m.c, .int .u16 m.n, .string m.r, .string dt] 64
  have bz := bstep (bstep bb b2) (fresh_below w2 (.cells #[.int .u8 m.t, .int .u8 m.c, .int .u16 m.n, .string m.r, .string dt] 64))
  have he := Cells.below (fresh_below w2 (.cells #[.int .u8 m.t, .int .u8 m.c, .int .u16 m.n, .string m.r, .string dt] 64)) hE
  have hlt := Cells.lt hE
  have hwB : w.heap.size ≤ B := Nat.le_trans L0.out.size hB
  generalize w2.heap.size = g2 at nn hlt ⊢
  generalize (w2.alloc (.cells #[.int .u8 m.t, .int .u8 m.c, .int .u16 m.n, .string m.r, .string dt] 64)) = w3 at *
  have NN := hide nn; have HE := hide he; have LT := hide hlt; have WB := hide hwB
  clear nn he hlt hE b2 hB hwB
  go_upto_region 7 with (go_at_call 15; (with_reducible refine (CR.out _ (bstep L0.out bz)).mono ?_); rintro e w4 ⟨rfl, b4⟩; have b4' := bstep bz b4)
  have HE4 := hide (Cells.below b4 HE.out); have NN4 := hide (Cells.below b4 NN.out)
  clear HE NN CA CR bz b4
  go_upto_region 8 with (go_at_call 31; (refine (CC.out _ _ HE4.out).mono ?_); rintro e w5 ⟨rfl, em5, on5⟩)
  have L5 := hide ((bstep L0.out b4').trans (on5.below (fun j e => by have := WB.out; omega) (bstep L0.out b4').size))
  have nn5 := Cells.only NN4.out on5 (by have := LT.out; omega)
  have E5 := hide em5; have N5 := hide nn5
  clear on5 b4' bb L0 D0 D1 qd0_0 qd0_1 qd0_2 qd0_3 qd1_0 qd1_1 qd1_2 qd1_3 CC HE4 NN4
  unfold emCells at em5
  have qem5_0 : ∀ W', Below w5.heap.size w5 W' → World.cell? W' ⟨B, 0, none⟩ = some (.string sn) := fun W' h => Cells.at_ (Cells.below h em5) 0
  have qnn5_2 : ∀ W', Below w5.heap.size w5 W' → World.cell? W' ⟨g2, 2, none⟩ = some (.int .u16 m.n) := fun W' h => Cells.at_ (Cells.below h nn5) 2
  have qnn5_4 : ∀ W', Below w5.heap.size w5 W' → World.cell? W' ⟨g2, 4, none⟩ = some (.string dt) := fun W' h => Cells.at_ (Cells.below h nn5) 4
  clear em5 nn5
  have bb : Below w5.heap.size w5 w5 := Below.refl _ _
  go_upto_region 9 with fail
  have s9 : Below w5.heap.size w5 w5.drew := Below.drew bb
  focus
    refine wp_region_J [] (fun W => Below w5.heap.size w5 W) (by kernel_rfl) (s9) (fun hS0 => ?_)
    refine tJ 0 rfl hS0 ?_
    (try simp only [Act.put, putS])
    refine tJ 1 rfl hS0 ?_
    (try simp only [Act.put, putS])
    refine tJ 2 rfl hS0 ?_
    (try simp only [Act.put, putS])
    refine tJ 3 rfl hS0 ?_
    (try simp only [Act.put, putS])
    refine tJ 4 rfl hS0 ?_
    (try simp only [Act.put, putS])
    refine tJ 5 rfl hS0 ?_
    (try simp only [Act.put, putS])
    refine tJ 6 rfl hS0 ?_
    (try simp only [Act.put, putS])
    refine tJ 7 rfl hS0 ?_
    (try simp only [Act.put, putS])
    refine tJ 8 rfl hS0 ?_
    (try simp only [Act.put, putS])
    refine tJ 9 rfl hS0 ?_
    (try simp only [Act.put, putS])
    refine tJ 10 rfl hS0 ?_
    (try simp only [Act.put, putS])
    refine tJ 11 rfl hS0 ?_
    (try simp only [Act.put, putS])
    refine tJ 12 rfl hS0 ?_
    (try simp only [Act.put, putS])
    refine rJ [13] ?_
    refine (AllReadyJ.cons rfl (fun K hK => ?_) AllReadyJ.nil)
    rw [if_pos (by kernel_rfl)]
    (try simp only [putG])
    (focus go_simp)
    (focus ((with_reducible refine (CU.out _).mono ?_); rintro e w6 ⟨rfl, b6⟩; have sq := bstep hS0 b6))
    (focus (try go_wp2_with fail))
    refine hK.out _ _ ?hs (fun hS0 => ?_)
    case hs => (first | with_reducible exact hS0 | with_reducible exact sq)
    clear hK K
    (try simp only [Act.put, putS])
    refine tJ 14 rfl hS0 ?_
    (try simp only [Act.put, putS])
    refine wpAnyJ_done (by kernel_rfl) ?_ _
  clear s9 sq b6
  go_upto_region 11 with fail
  have n7 := Cells.new w6 #[.string ro] 77
  have b7 := bstep hS0 (fresh_below w6 (.cells #[.string ro] 77))
  have hg : B < w6.heap.size := Nat.lt_of_lt_of_le (Cells.lt E5.out) hS0.size
  generalize w6.heap.size = g6 at n7 hg ⊢
  generalize (w6.alloc (.cells #[.string ro] 77)) = w7 at *
  have N7 := hide n7; have HG := hide hg; have B7 := hide b7
  clear n7 hg b7 hS0
  have e7 := Cells.below B7.out E5.out
  have E7 := hide e7
  have L7 := hide (bstep L5.out B7.out)
  clear E5 L5 N5 B7 bb qem5_0 qnn5_2 qnn5_4 CU an i1 i2 i3 i4
  unfold emCells at e7
  have qe7_0 : ∀ W', Below w7.heap.size w7 W' → World.cell? W' ⟨B, 0, none⟩ = some (.string sn) := fun W' h => Cells.at_ (Cells.below h e7) 0
  clear e7
  have w1' := W1.out
  have s11 : Below w7.heap.size w7 w7.drew := Below.drew (Below.refl _ _)
  focus
    refine wp_region_J [15] (fun W => Below w7.heap.size w7 W) (by kernel_rfl) (s11) (fun hS0 => ?_)
    refine tJ 0 rfl hS0 ?_
    (try simp only [Act.put, putS])
    refine bJ 1 [1, 2, 9, 15] rfl hS0 ?_
    (try simp only [Act.put, putS])
    refine bJ 2 [2, 9, 15] rfl hS0 ?_
    (try simp only [Act.put, putS])
    refine bJ 3 [3, 4, 5, 6, 7, 8, 9, 15] rfl hS0 ?_
    (try simp only [Act.put, putS])
    refine bJ 4 [4, 5, 6, 7, 8, 9, 15] rfl hS0 ?_
    (try simp only [Act.put, putS])
    refine bJ 5 [5, 6, 7, 8, 9, 15] rfl hS0 ?_
    (try simp only [Act.put, putS])
    refine bJ 6 [6, 7, 8, 9, 15] rfl hS0 ?_
    (try simp only [Act.put, putS])
    refine bJ 7 [7, 8, 9, 15] rfl hS0 ?_
    (try simp only [Act.put, putS])
    refine bJ 8 [8, 9, 15] rfl hS0 ?_
    (try simp only [Act.put, putS])
    refine tJ 9 rfl hS0 ?_
    (try simp only [Act.put, putS])
    refine bJ 10 [10, 11, 12, 13, 14, 15] rfl hS0 ?_
    (try simp only [Act.put, putS])
    refine bJ 11 [11, 12, 13, 14, 15] rfl hS0 ?_
    (try simp only [Act.put, putS])
    refine bJ 12 [12, 13, 14, 15] rfl hS0 ?_
    (try simp only [Act.put, putS])
    refine bJ 13 [13, 14, 15] rfl hS0 ?_
    (try simp only [Act.put, putS])
    refine tJ 14 rfl hS0 ?_
    (try simp only [Act.put, putS])
    refine rJ [15] ?_
    refine (AllReadyJ.last rfl (by kernel_rfl) (fun K hK => ?_) AllReadyJ.nil)
    rw [if_pos (by kernel_rfl)]
    (try simp only [putG])
    (focus go_simp)
    (focus ((refine (CL1.out _ _ (Cells.below hS0 N7.out)).mono ?_); rintro e w8 ⟨rfl, n8, on8⟩))
    (focus (try go_wp2_with fail))
    refine hK.out _ _ ?_
    clear hK K
    (try simp only [Act.put, putS])
    refine wpAnyJ_done (by kernel_rfl) ?_ _
  have L8 := hide ((bstep L7.out hS0).trans (on8.below (fun j e => by have := WB.out; have := HG.out; omega) (bstep L7.out hS0).size))
  have e8 := Cells.only (Cells.below hS0 E7.out) on8 (by have := HG.out; omega)
  have N8 := hide n8
  clear s11 hS0 on8 n8 N7 E7 L7 CL1 qe7_0
  unfold emCells at e8
  have qe8_0 : ∀ W', Below w8.heap.size w8 W' → World.cell? W' ⟨B, 0, none⟩ = some (.string sn) := fun W' h => Cells.at_ (Cells.below h e8) 0
  clear e8
  have w2' := W2.out; have w3' := W3.out
  go_upto_region 12 with fail
  have s12 : Below w8.heap.size w8 w8.drew := Below.drew (Below.refl _ _)
  focus
    refine wp_region_J [15] (fun W => Below w8.heap.size w8 W) (by kernel_rfl) (s12) (fun hS0 => ?_)
    refine tJ 0 rfl hS0 ?_
    (try simp only [Act.put, putS])
    refine bJ 1 [1, 2, 9, 10, 11, 15] rfl hS0 ?_
    (try simp only [Act.put, putS])
    refine bJ 2 [2, 9, 10, 11, 15] rfl hS0 ?_
    (try simp only [Act.put, putS])
    refine bJ 3 [3, 4, 5, 6, 7, 8, 9, 10, 11, 15] rfl hS0 ?_
    (try simp only [Act.put, putS])
    refine bJ 4 [4, 5, 6, 7, 8, 9, 10, 11, 15] rfl hS0 ?_
    (try simp only [Act.put, putS])
    refine bJ 5 [5, 6, 7, 8, 9, 10, 11, 15] rfl hS0 ?_
    (try simp only [Act.put, putS])
    refine bJ 6 [6, 7, 8, 9, 10, 11, 15] rfl hS0 ?_
    (try simp only [Act.put, putS])
    refine bJ 7 [7, 8, 9, 10, 11, 15] rfl hS0 ?_
    (try simp only [Act.put, putS])
    refine bJ 8 [8, 9, 10, 11, 15] rfl hS0 ?_
    (try simp only [Act.put, putS])
    refine bJ 9 [9, 10, 11, 15] rfl hS0 ?_
    (try simp only [Act.put, putS])
    refine bJ 10 [10, 11, 15] rfl hS0 ?_
    (try simp only [Act.put, putS])
    refine tJ 11 rfl hS0 ?_
    (try simp only [Act.put, putS])
    refine bJ 12 [12, 13, 14, 15] rfl hS0 ?_
    (try simp only [Act.put, putS])
    refine rJ [13] ?_
    refine (AllReadyJ.cons rfl (fun K hK => ?_) AllReadyJ.nil)
    rw [if_pos (by kernel_rfl)]
    (try simp only [putG])
    (focus go_simp)
    refine hK.out _ _ ?hs (fun hS0 => ?_)
    case hs => (first | with_reducible exact hS0 | with_reducible exact sq | exact bstep hS0 (fresh_below _ _))
    clear hK K
    (try simp only [Act.put, putS])
    refine rJ [14] ?_
    refine (AllReadyJ.cons rfl (fun K hK => ?_) AllReadyJ.nil)
    rw [if_pos (by kernel_rfl)]
    (try simp only [putG])
    (focus go_simp)
    (focus ((refine (CW.out _ _ (by (repeat' (first | with_reducible refine Row.afterdraw ?_ | with_reducible exact Row.freshAt _ _ _ _ _ _ (by simp) rfl rfl | (with_reducible refine Row.rise ?_ (fresh_below _ _)))))).mono ?_); rintro e w9 ⟨rfl, b9⟩; have sq := bstep hS0 b9))
    (focus (try go_wp2_with fail))
    refine hK.out _ _ ?hs (fun hS0 => ?_)
    case hs => (first | with_reducible exact hS0 | with_reducible exact sq | exact bstep hS0 (fresh_below _ _))
    clear hK K
    (try simp only [Act.put, putS])
    refine rJ [15] ?_
    refine (AllReadyJ.last rfl (by kernel_rfl) (fun K hK => ?_) AllReadyJ.nil)
    rw [if_pos (by kernel_rfl)]
    (try simp only [putG])
    (focus go_simp)
    (focus ((refine (CL2.out _ _ (Cells.below hS0 N8.out)).mono ?_); rintro e w10 ⟨rfl, n10, on10⟩))
    (focus (try go_wp2_with fail))
    refine hK.out _ _ ?_
    clear hK K
    (try simp only [Act.put, putS])
    refine wpAnyJ_done (by kernel_rfl) ?_ _
  have y0 : w10.cell? ⟨g6, 0, none⟩ = some (.string tx) := n10.at_ 0
  have lw := (bstep L8.out hS0).trans (on10.below (fun j e => by have := WB.out; have := HG.out; omega) (bstep L8.out hS0).size)
  have LW := hide lw
  clear s12 lw hS0 on10 n10
  go_wp2_with fail
  go_ret2
  exact ⟨rfl, LW.out⟩
end Go.Proofs.YtjeaknipmdfkdaaGreatDoor
end

section
/- The document's answer for ip (porterref04) over this program: a header's bytes. -/
set_option linter.unusedVariables false
set_option linter.unusedSimpArgs false
namespace Go.Proofs.YtjeaknipmdfkdaaGreatDoor
open Go.RowKit
attribute [local go_sem] Oper.semAt_some

set_option maxRecDepth 100000 in
set_option maxHeartbeats 2000000 in
theorem r4_Bytes (t i l p s d size sum : Int) (f : Bool) (o : ByteArray) (w : World) (hk : (Hd.mk t i f l p s d o).Ok) (h1 : o.size ≤ 40) (h2 : o.size % 4 = 0) (hz : 0 ≤ size ∧ size ≤ 65535) (hm : 0 ≤ sum ∧ sum ≤ 65535) :
    Calls Tryz.prog 41 #[.agg #[.int .u8 t, .int .u16 i, .bool f, .int .u8 l, .int .u8 p, .int .u32 s, .int .u32 d, .string o], .int .i64 size, .int .u16 sum] w (Ret (.string (S ((Hd.mk t i f l p s d o).bytes size sum))) w) := by
  obtain ⟨⟨t0, t1⟩, ⟨i0, i1⟩, ⟨l0, l1⟩, ⟨p0, p1⟩, hs, hd, ho⟩ := hk
  simp only at t0 t1 i0 i1 l0 l1 p0 p1 hs hd ho
  obtain ⟨c, hc⟩ : ∃ c, c = (Hd.mk t i f l p s d o).cut := ⟨_, rfl⟩
  have hcb : 0 ≤ c ∧ c ≤ 65535 := by rw [hc]; unfold Hd.cut; split <;> omega
  obtain ⟨v, hv⟩ : ∃ v, v = 69 + (o.size : Int) / 4 := ⟨_, rfl⟩
  have hend : S [byt v, byt t] ++ S (putW [size, i, c]) ++ S [byt l, byt p] ++ S (put16 sum) ++ S (put32 s) ++ S (put32 d) ++ o = S ((Hd.mk t i f l p s d o).bytes size sum) := by
    apply L_inj
    unfold Hd.bytes Hd.words
    rw [← hc]
    have e1 : put16 ((64 + (20 + (o.size : Int)) / 4) * 256 + t) = [byt v, byt t] := by
      unfold put16
      rw [show ((64 + (20 + (o.size : Int)) / 4) * 256 + t) / 256 = v from by rw [hv]; omega, byt_eq ((64 + (20 + (o.size : Int)) / 4) * 256 + t) t (by omega) t0 (by omega)]
    have e2 : put16 (l * 256 + p) = [byt l, byt p] := by
      unfold put16
      rw [show (l * 256 + p) / 256 = l from by omega, byt_eq (l * 256 + p) p (by omega) p0 (by omega)]
    simp only [L_append, L_S, putW, List.flatMap_cons, List.flatMap_nil, List.append_assoc, List.append_nil, e1, e2]
  have hl : ∀ x ∈ [size, i, c], 0 ≤ x ∧ x ≤ 65535 := by
    intro x hx
    simp only [List.mem_cons, List.not_mem_nil, or_false] at hx
    rcases hx with rfl | rfl | rfl <;> omega
  have f1 := fun (A : Option Addr) (W : World) (hr : Row W W.heap.size A 3 (ints16 [size, i, c])) => r_Word A 3 3 [size, i, c] W hr hl (by omega)
  have f2 := fun W => r_Put16 sum W hm.1 hm.2
  have f3 := fun W => r_Put32 s W hs.1 hs.2
  have f4 := fun W => r_Put32 d W hd.1 hd.2
  obtain ⟨s1, hs1⟩ : ∃ x, x = S [byt v, byt t] := ⟨_, rfl⟩
  obtain ⟨s2, hs2⟩ : ∃ x, x = S (putW [size, i, c]) := ⟨_, rfl⟩
  obtain ⟨s3, hs3⟩ : ∃ x, x = S [byt l, byt p] := ⟨_, rfl⟩
  obtain ⟨s4, hs4⟩ : ∃ x, x = S (put16 sum) := ⟨_, rfl⟩
  obtain ⟨s5, hs5⟩ : ∃ x, x = S (put32 s) := ⟨_, rfl⟩
  obtain ⟨s6, hs6⟩ : ∃ x, x = S (put32 d) := ⟨_, rfl⟩
  have a1 : s1.size = 2 := by rw [hs1]; rfl
  have a2 : s2.size = 6 := by rw [hs2]; rfl
  have a3 : s3.size = 2 := by rw [hs3]; rfl
  have a4 : s4.size = 2 := by rw [hs4]; rfl
  have a5 : s5.size = 4 := by rw [hs5]; rfl
  have a6 : s6.size = 4 := by rw [hs6]; rfl
  rw [← hs1, ← hs2, ← hs3, ← hs4, ← hs5, ← hs6] at hend
  rw [← hs2] at f1; rw [← hs4] at f2; rw [← hs5] at f3; rw [← hs6] at f4
  have cv : ∀ (W : World) (b : Nat), W.cell? ⟨b, 0, none⟩ = some (.int .u8 v) → W.cell? ⟨b, 1, none⟩ = some (.int .u8 t) → (convert 45 9 (.slice (some ⟨b, 0, none⟩) 2 2)).run Tryz.prog W = .ok (.string s1) W := fun W b h0 h1 => by
    rw [hs1]
    exact run_convert_bytes_arg (P := Tryz.prog) W 45 5 Tryz.underlying45 Tryz.underlying5 b 0 2 2 [v, t] rfl
      (fun i hi => by
        match i, hi with
        | 0, _ => exact h0
        | 1, _ => exact h1) 9 Tryz.underlying9
  have cw : ∀ (W : World) (b : Nat), W.cell? ⟨b, 0, none⟩ = some (.int .u8 l) → W.cell? ⟨b, 1, none⟩ = some (.int .u8 p) → (convert 45 9 (.slice (some ⟨b, 0, none⟩) 2 2)).run Tryz.prog W = .ok (.string s3) W := fun W b h0 h1 => by
    rw [hs3]
    exact run_convert_bytes_arg (P := Tryz.prog) W 45 5 Tryz.underlying45 Tryz.underlying5 b 0 2 2 [l, p] rfl
      (fun i hi => by
        match i, hi with
        | 0, _ => exact h0
        | 1, _ => exact h1) 9 Tryz.underlying9
  have b5 : (s1 ++ s2).size = 8 := by rw [ByteArray.size_append, a1, a2]
  have b6 : (s1 ++ s2 ++ s3).size = 10 := by rw [ByteArray.size_append, b5, a3]
  have b7 : (s1 ++ s2 ++ s3 ++ s4).size = 12 := by rw [ByteArray.size_append, b6, a4]
  have b8 : (s1 ++ s2 ++ s3 ++ s4 ++ s5).size = 16 := by rw [ByteArray.size_append, b7, a5]
  have b9 : (s1 ++ s2 ++ s3 ++ s4 ++ s5 ++ s6).size = 20 := by rw [ByteArray.size_append, b8, a6]
  have b10 : (s1 ++ s2 ++ s3 ++ s4 ++ s5 ++ s6 ++ o).size = 20 + o.size := by rw [ByteArray.size_append, b9]
  have wz : IntKind.u16.wrap size = size := by rw [IntKind.wrap_u16]; omega
  have wv : IntKind.u8.wrap v = v := by rw [IntKind.wrap_u8]; omega
  have hv2 : 69 + (o.size : Int) / 4 = v := hv.symm
  have F1 := hide f1; have F2 := hide f2; have F3 := hide f3; have F4 := hide f4; have HE := hide hend; have HC := hide hc
  clear f1 f2 f3 f4 hend hs1 hs2 hs3 hs4 hs5 hs6 hl hs hd hv hc hcb
  have hf : f = true ∨ f = false := by cases f <;> simp
  rcases hf with rfl | rfl
  · have hc : c = 16384 := HC.out
    subst hc
    go_enter Tryz.func41, Tryz.ntmps41
    have d0 := Cells.new w #[.int .u8 t, .int .u16 i, .bool true, .int .u8 l, .int .u8 p, .int .u32 s, .int .u32 d, .string o] 50
    have d1 := Cells.below (fresh_below (w.alloc (.cells #[.int .u8 t, .int .u16 i, .bool true, .int .u8 l, .int .u8 p, .int .u32 s, .int .u32 d, .string o] 50)) (.cells #[.int .u8 v, .int .u8 t] 5)) d0
    obtain ⟨xd0_0, xd0_1, xd0_2, xd0_3, xd0_4, xd0_5, xd0_6, xd0_7⟩ := d0.x8
    obtain ⟨yd0_0, yd0_1, yd0_2, yd0_3, yd0_4, yd0_5, yd0_6, yd0_7⟩ := d0.y8
    obtain ⟨xd1_0, xd1_1, xd1_2, xd1_3, xd1_4, xd1_5, xd1_6, xd1_7⟩ := d1.x8
    obtain ⟨yd1_0, yd1_1, yd1_2, yd1_3, yd1_4, yd1_5, yd1_6, yd1_7⟩ := d1.y8
    go_wp2_with fail
    (with_reducible refine (F1.out _ _ (by (repeat' (first | with_reducible refine Row.drawn ?_ | with_reducible exact Row.freshAt _ _ _ _ _ _ (by simp) rfl rfl | (with_reducible refine Row.up ?_ (fresh_below _ _)) | (with_reducible refine Row.up ?_ (by with_reducible assumption)))))).mono ?_)
    rintro e w2 ⟨rfl, b2⟩
    have d2 := Cells.up d1 (fresh_below _ _) b2
    replace b2 : Below w.heap.size w w2 := bstep (bstep (bstep (fresh_below _ _) (fresh_below _ _)) (fresh_below _ _)) b2
    have d3 := Cells.below (fresh_below w2 (.cells #[.int .u8 l, .int .u8 p] 5)) d2
    have b3 : Below w.heap.size w (w2.alloc (.cells #[.int .u8 l, .int .u8 p] 5)) := bstep b2 (fresh_below _ _)
    obtain ⟨xd2_0, xd2_1, xd2_2, xd2_3, xd2_4, xd2_5, xd2_6, xd2_7⟩ := d2.x8
    obtain ⟨yd2_0, yd2_1, yd2_2, yd2_3, yd2_4, yd2_5, yd2_6, yd2_7⟩ := d2.y8
    obtain ⟨xd3_0, xd3_1, xd3_2, xd3_3, xd3_4, xd3_5, xd3_6, xd3_7⟩ := d3.x8
    obtain ⟨yd3_0, yd3_1, yd3_2, yd3_3, yd3_4, yd3_5, yd3_6, yd3_7⟩ := d3.y8
    go_wp2_with fail
    clear xd0_0 xd0_1 xd0_2 xd0_3 xd0_4 xd0_5 xd0_6 xd0_7 xd1_0 xd1_1 xd1_2 xd1_3 xd1_4 xd1_5 xd1_6 xd1_7 d0 d1
    generalize (w2.alloc (.cells #[.int .u8 l, .int .u8 p] 5)) = w3 at *
    have SK := hide (fun (zX zY : World) (zh : (Below w.heap.size w zX ∧ zX.cell? ⟨w.heap.size, 5, none⟩ = some (.int .u32 s) ∧ zX.cell? ⟨w.heap.size, 6, none⟩ = some (.int .u32 d) ∧ zX.cell? ⟨w.heap.size, 7, none⟩ = some (.string o) ∧ True)) (zb : Below zX.heap.size zX zY) => (show (Below w.heap.size w zY ∧ zY.cell? ⟨w.heap.size, 5, none⟩ = some (.int .u32 s) ∧ zY.cell? ⟨w.heap.size, 6, none⟩ = some (.int .u32 d) ∧ zY.cell? ⟨w.heap.size, 7, none⟩ = some (.string o) ∧ True) from ⟨bstep zh.1 zb, cellAt zb zh.2.1, cellAt zb zh.2.2.1, cellAt zb zh.2.2.2.1, trivial⟩))
    have FS := hide (fun (zX : World) (zh : (Below w.heap.size w zX ∧ zX.cell? ⟨w.heap.size, 5, none⟩ = some (.int .u32 s) ∧ zX.cell? ⟨w.heap.size, 6, none⟩ = some (.int .u32 d) ∧ zX.cell? ⟨w.heap.size, 7, none⟩ = some (.string o) ∧ True)) => zh.1)
    have GS := hide (fun (zX : World) (zh : (Below w.heap.size w zX ∧ zX.cell? ⟨w.heap.size, 5, none⟩ = some (.int .u32 s) ∧ zX.cell? ⟨w.heap.size, 6, none⟩ = some (.int .u32 d) ∧ zX.cell? ⟨w.heap.size, 7, none⟩ = some (.string o) ∧ True)) => zh)
    have hS0 : (Below w.heap.size w w3 ∧ w3.cell? ⟨w.heap.size, 5, none⟩ = some (.int .u32 s) ∧ w3.cell? ⟨w.heap.size, 6, none⟩ = some (.int .u32 d) ∧ w3.cell? ⟨w.heap.size, 7, none⟩ = some (.string o) ∧ True) := ⟨(by (repeat' (first | with_reducible exact b3 | with_reducible exact Below.refl _ _ | with_reducible refine Below.setCell ?_ (by first | exact Nat.le_refl _ | (dsimp only; omega)) _ | with_reducible refine bstep ?_ (fresh_below _ _) | with_reducible refine Below.drew ?_))), d3.at_ 5, d3.at_ 6, d3.at_ 7, trivial⟩
    go_region_held_law (fun w' => (Below w.heap.size w w' ∧ w'.cell? ⟨w.heap.size, 5, none⟩ = some (.int .u32 s) ∧ w'.cell? ⟨w.heap.size, 6, none⟩ = some (.int .u32 d) ∧ w'.cell? ⟨w.heap.size, 7, none⟩ = some (.string o) ∧ True)) (first | assumption | exact SK.out _ _ hS0 (Below.refl _ _).drew | exact SK.out _ _ hS0 (fresh_below _ _).drew | exact SK.out _ _ (by assumption) (fresh_below _ _) | (refine SK.out _ _ ?_ (by assumption); assumption))
      (first | (go_at_call 39; (with_reducible refine (F2.out _).mono ?_); rintro e wq ⟨rfl, bq⟩) | (go_at_call 83; (with_reducible refine (F3.out _).mono ?_); rintro e wq ⟨rfl, bq⟩) | (go_at_call 83; (with_reducible refine (F4.out _).mono ?_); rintro e wq ⟨rfl, bq⟩))
    all_goals
      have gs := GS.out _ (by assumption)
      obtain ⟨gb, g0, g1, g2, _⟩ := gs
      go_wp2
      go_ret
      exact ⟨congrArg Ending.returned (v_str HE.out), (by first | exact FS.out _ (by assumption) | exact bstep (FS.out _ (by assumption)) (fresh_below _ _) | exact bstep (bstep (FS.out _ (by assumption)) (fresh_below _ _)) (fresh_below _ _))⟩
  · have hc : c = 0 := HC.out
    subst hc
    go_enter Tryz.func41, Tryz.ntmps41
    have d0 := Cells.new w #[.int .u8 t, .int .u16 i, .bool false, .int .u8 l, .int .u8 p, .int .u32 s, .int .u32 d, .string o] 50
    have d1 := Cells.below (fresh_below (w.alloc (.cells #[.int .u8 t, .int .u16 i, .bool false, .int .u8 l, .int .u8 p, .int .u32 s, .int .u32 d, .string o] 50)) (.cells #[.int .u8 v, .int .u8 t] 5)) d0
    obtain ⟨xd0_0, xd0_1, xd0_2, xd0_3, xd0_4, xd0_5, xd0_6, xd0_7⟩ := d0.x8
    obtain ⟨yd0_0, yd0_1, yd0_2, yd0_3, yd0_4, yd0_5, yd0_6, yd0_7⟩ := d0.y8
    obtain ⟨xd1_0, xd1_1, xd1_2, xd1_3, xd1_4, xd1_5, xd1_6, xd1_7⟩ := d1.x8
    obtain ⟨yd1_0, yd1_1, yd1_2, yd1_3, yd1_4, yd1_5, yd1_6, yd1_7⟩ := d1.y8
    go_wp2_with fail
    (with_reducible refine (F1.out _ _ (by (repeat' (first | with_reducible refine Row.drawn ?_ | with_reducible exact Row.freshAt _ _ _ _ _ _ (by simp) rfl rfl | (with_reducible refine Row.up ?_ (fresh_below _ _)) | (with_reducible refine Row.up ?_ (by with_reducible assumption)))))).mono ?_)
    rintro e w2 ⟨rfl, b2⟩
    have d2 := Cells.up d1 (fresh_below _ _) b2
    replace b2 : Below w.heap.size w w2 := bstep (bstep (bstep (fresh_below _ _) (fresh_below _ _)) (fresh_below _ _)) b2
    have d3 := Cells.below (fresh_below w2 (.cells #[.int .u8 l, .int .u8 p] 5)) d2
    have b3 : Below w.heap.size w (w2.alloc (.cells #[.int .u8 l, .int .u8 p] 5)) := bstep b2 (fresh_below _ _)
    obtain ⟨xd2_0, xd2_1, xd2_2, xd2_3, xd2_4, xd2_5, xd2_6, xd2_7⟩ := d2.x8
    obtain ⟨yd2_0, yd2_1, yd2_2, yd2_3, yd2_4, yd2_5, yd2_6, yd2_7⟩ := d2.y8
    obtain ⟨xd3_0, xd3_1, xd3_2, xd3_3, xd3_4, xd3_5, xd3_6, xd3_7⟩ := d3.x8
    obtain ⟨yd3_0, yd3_1, yd3_2, yd3_3, yd3_4, yd3_5, yd3_6, yd3_7⟩ := d3.y8
    go_wp2_with fail
    clear xd0_0 xd0_1 xd0_2 xd0_3 xd0_4 xd0_5 xd0_6 xd0_7 xd1_0 xd1_1 xd1_2 xd1_3 xd1_4 xd1_5 xd1_6 xd1_7 d0 d1
    generalize (w2.alloc (.cells #[.int .u8 l, .int .u8 p] 5)) = w3 at *
    have SK := hide (fun (zX zY : World) (zh : (Below w.heap.size w zX ∧ zX.cell? ⟨w.heap.size, 5, none⟩ = some (.int .u32 s) ∧ zX.cell? ⟨w.heap.size, 6, none⟩ = some (.int .u32 d) ∧ zX.cell? ⟨w.heap.size, 7, none⟩ = some (.string o) ∧ True)) (zb : Below zX.heap.size zX zY) => (show (Below w.heap.size w zY ∧ zY.cell? ⟨w.heap.size, 5, none⟩ = some (.int .u32 s) ∧ zY.cell? ⟨w.heap.size, 6, none⟩ = some (.int .u32 d) ∧ zY.cell? ⟨w.heap.size, 7, none⟩ = some (.string o) ∧ True) from ⟨bstep zh.1 zb, cellAt zb zh.2.1, cellAt zb zh.2.2.1, cellAt zb zh.2.2.2.1, trivial⟩))
    have FS := hide (fun (zX : World) (zh : (Below w.heap.size w zX ∧ zX.cell? ⟨w.heap.size, 5, none⟩ = some (.int .u32 s) ∧ zX.cell? ⟨w.heap.size, 6, none⟩ = some (.int .u32 d) ∧ zX.cell? ⟨w.heap.size, 7, none⟩ = some (.string o) ∧ True)) => zh.1)
    have GS := hide (fun (zX : World) (zh : (Below w.heap.size w zX ∧ zX.cell? ⟨w.heap.size, 5, none⟩ = some (.int .u32 s) ∧ zX.cell? ⟨w.heap.size, 6, none⟩ = some (.int .u32 d) ∧ zX.cell? ⟨w.heap.size, 7, none⟩ = some (.string o) ∧ True)) => zh)
    have hS0 : (Below w.heap.size w w3 ∧ w3.cell? ⟨w.heap.size, 5, none⟩ = some (.int .u32 s) ∧ w3.cell? ⟨w.heap.size, 6, none⟩ = some (.int .u32 d) ∧ w3.cell? ⟨w.heap.size, 7, none⟩ = some (.string o) ∧ True) := ⟨(by (repeat' (first | with_reducible exact b3 | with_reducible exact Below.refl _ _ | with_reducible refine Below.setCell ?_ (by first | exact Nat.le_refl _ | (dsimp only; omega)) _ | with_reducible refine bstep ?_ (fresh_below _ _) | with_reducible refine Below.drew ?_))), d3.at_ 5, d3.at_ 6, d3.at_ 7, trivial⟩
    go_region_held_law (fun w' => (Below w.heap.size w w' ∧ w'.cell? ⟨w.heap.size, 5, none⟩ = some (.int .u32 s) ∧ w'.cell? ⟨w.heap.size, 6, none⟩ = some (.int .u32 d) ∧ w'.cell? ⟨w.heap.size, 7, none⟩ = some (.string o) ∧ True)) (first | assumption | exact SK.out _ _ hS0 (Below.refl _ _).drew | exact SK.out _ _ hS0 (fresh_below _ _).drew | exact SK.out _ _ (by assumption) (fresh_below _ _) | (refine SK.out _ _ ?_ (by assumption); assumption))
      (first | (go_at_call 39; (with_reducible refine (F2.out _).mono ?_); rintro e wq ⟨rfl, bq⟩) | (go_at_call 83; (with_reducible refine (F3.out _).mono ?_); rintro e wq ⟨rfl, bq⟩) | (go_at_call 83; (with_reducible refine (F4.out _).mono ?_); rintro e wq ⟨rfl, bq⟩))
    all_goals
      have gs := GS.out _ (by assumption)
      obtain ⟨gb, g0, g1, g2, _⟩ := gs
      go_wp2
      go_ret
      exact ⟨congrArg Ending.returned (v_str HE.out), (by first | exact FS.out _ (by assumption) | exact bstep (FS.out _ (by assumption)) (fresh_below _ _) | exact bstep (bstep (FS.out _ (by assumption)) (fresh_below _ _)) (fresh_below _ _))⟩
end Go.Proofs.YtjeaknipmdfkdaaGreatDoor
end
