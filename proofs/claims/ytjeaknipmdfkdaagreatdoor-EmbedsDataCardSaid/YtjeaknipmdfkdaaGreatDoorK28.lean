/- Several texts of this claim, one behind the other. -/
import Derived.Test.YtjeaknipmdfkdaaGreatDoorK2
import Derived.Test.YtjeaknipmdfkdaaGreatDoorK27
import Derived.Test.YtjeaknipmdfkdaaGreatDoorK25
import Derived.Test.YtjeaknipmdfkdaaGreatDoorK1
import Derived.Lib.QuoteBits

section
/- embeds.message, embeds.change: what an error is about, changed, over this program. -/
set_option linter.unusedVariables false
set_option linter.unusedSimpArgs false
namespace Go.Proofs.YtjeaknipmdfkdaaGreatDoor
open Go.RowKit
attribute [local go_sem] Oper.semAt_some envL lookV

set_option maxRecDepth 100000 in
set_option maxHeartbeats 16000000 in
theorem e_message (w : World) (B : Nat) (s : ByteArray) (e : Nat) (t : Tup) (q : Bool) (a b c d : Int) (hC : Em w B s e t q) (hb : 0 ≤ b ∧ b ≤ 65535) (hd : 0 ≤ d ∧ d ≤ 65535) (hs : s.size ≤ 140737488351232) (h : e + 8 ≤ s.size) (he : e ≤ 60) :
    Calls Tryz.prog 66 #[.pointer (some ⟨B, 0, none⟩), .agg #[.int .u32 a, .int .u16 b, .int .u32 c, .int .u16 d]] w (Turned w B (emCells (S (emMsgN (L s) e (if q = true then b else d))) e t q) 79) := by
  have hsL : (L s).length = s.size := L_length s
  obtain ⟨id, hid⟩ : ∃ id, id = if q = true then b else d := ⟨_, rfl⟩
  have hidb : 0 ≤ id ∧ id ≤ 65535 := by rw [hid]; split <;> assumption
  rw [← hid]
  have b2 := be16_bd (L s) (e + 2); have b4 := be16_bd (L s) (e + 4)
  have hu := upd_bd b2 b4 hidb
  obtain ⟨z2, hz2⟩ : ∃ z2 : Nat, z2 = e + 2 := ⟨_, rfl⟩
  obtain ⟨z4, hz4⟩ : ∃ z4 : Nat, z4 = e + 4 := ⟨_, rfl⟩
  have c2 := fun W (hC : W.cell? ⟨B, 0, none⟩ = some (.string s)) => e_two W B s (z2 : Int) hC hs ⟨by omega, by omega⟩
  have c4 := fun W (hC : W.cell? ⟨B, 0, none⟩ = some (.string s)) => e_two W B s (z4 : Int) hC hs ⟨by omega, by omega⟩
  rw [get16_nat (by omega), hz2] at c2
  rw [get16_nat (by omega), hz4] at c4
  have cu := fun W => Update (be16 (L s) (e + 2)) (be16 (L s) (e + 4)) id W b2 b4 hidb
  obtain ⟨l1, hl1⟩ : ∃ l1, l1 = lay (L s) (e + 4) id := ⟨_, rfl⟩
  have hl1n : l1.length = s.size := by rw [hl1, lay_length (by omega), hsL]
  obtain ⟨n, hn⟩ : ∃ n, n = upd (be16 (L s) (e + 2)) (be16 (L s) (e + 4)) id := ⟨_, rfl⟩
  have RES : emMsgN (L s) e id = lay l1 z2 n := by unfold emMsgN; rw [← hl1, ← hn, ← hz2]
  rw [RES]
  rw [← hn] at hu cu
  rw [← hz2] at c2 cu
  rw [← hz4] at c4 cu hl1
  generalize be16 (L s) z2 = x2 at *
  generalize be16 (L s) z4 = x4 at *
  have cw1 := fun W A hR => word_one id hidb W A hR
  have cw2 := fun W A hR => word_one n hu W A hR
  have cl1 := fun W (hC : Em W B s e t q) => e_layEm W B s e t q z4 (S (put16 id)) hC hs (by rw [S_size, put16_length]; omega) (S l1) (by rw [L_S, S_size, put16_length, hl1, ← List.append_assoc]; rfl)
  have cl2 := fun W (hC : Em W B (S l1) e t q) => e_layEm W B (S l1) e t q z2 (S (put16 n)) hC (by rw [S_size, hl1n]; exact hs) (by rw [S_size, S_size, put16_length, hl1n]; omega) (S (lay l1 z2 n)) (by rw [L_S, L_S, S_size, put16_length, ← List.append_assoc]; rfl)
  generalize S (lay l1 z2 n) = s2 at *
  obtain ⟨s1, hs1⟩ : ∃ s1, s1 = S l1 := ⟨_, rfl⟩
  rw [← hs1] at cl1 cl2
  obtain ⟨w1', hw1'⟩ : ∃ x, x = S (put16 id) := ⟨_, rfl⟩
  obtain ⟨w2', hw2'⟩ : ∃ x, x = S (put16 n) := ⟨_, rfl⟩
  rw [← hw1'] at cw1 cl1
  rw [← hw2'] at cw2 cl2
  have kw2 : IntKind.i64.wrap ((e : Int) + 2) = (z2 : Int) := by rw [IntWalk.i64_in _ (by omega), hz2]; omega
  have kw4 : IntKind.i64.wrap ((e : Int) + 4) = (z4 : Int) := by rw [IntWalk.i64_in _ (by omega), hz4]; omega
  have C2 := hide c2; have C4 := hide c4; have CU := hide cu; have CW1 := hide cw1; have CW2 := hide cw2; have CL1 := hide cl1; have CL2 := hide cl2; have HC := hide hC
  have HID := hide hid
  have hB : B < w.heap.size := Cells.lt hC
  clear c2 c4 cu cw1 cw2 cl1 cl2 hC hsL hidb b2 b4 hu hz2 hz4 hl1 hl1n hn RES hs1 hw1' hw2' hb hd hs h he hid
  cases q
  · have hi : id = d := by rw [HID.out]; rfl
    subst hi
    clear HID
    go_enter Tryz.func66, Tryz.ntmps66
    have d0 := Cells.new w #[.int .u32 a, .int .u16 b, .int .u32 c, .int .u16 id] 28
    have bn := fresh_below w (.cells #[.int .u32 a, .int .u16 b, .int .u32 c, .int .u16 id] 28)
    have D0 := hide d0; have BN := hide bn
    clear d0 bn
    go_upto_region 1 with fail
    generalize (w.alloc (.cells #[.int .u32 a, .int .u16 b, .int .u32 c, .int .u16 id] 28)) = w1 at *
    have em1 := Cells.below BN.out HC.out
    have d0 := D0.out
    have EM1 := hide em1
    unfold Em emCells at em1
    obtain ⟨qem1_0, qem1_1, qem1_2, qem1_3, qem1_4, qem1_5, qem1_6, qem1_7⟩ := em1.q8
    obtain ⟨qd0_0, qd0_1, qd0_2, qd0_3⟩ := d0.q4
    have bb : Below w1.heap.size w1 w1 := Below.refl _ _
    clear em1 d0
    go_upto_region 4 with fail
    have s4 : Below w1.heap.size w1 w1.drew := Below.drew bb
    focus
      refine wp_region_J [] (fun W => Below w1.heap.size w1 W) (by kernel_rfl) (s4) (fun hS0 => ?_)
      refine tJ 0 rfl hS0 ?_
      (try simp only [Act.put, putS])
      refine tJ 1 rfl hS0 ?_
      (try simp only [Act.put, putS])
      refine tJ 2 rfl hS0 ?_
      (try simp only [Act.put, putS])
      refine tJ 3 rfl hS0 ?_
      (try simp only [Act.put, putS])
      refine tJ 4 rfl hS0 ?_
      (try simp only [Act.put, putS])
      refine tJ 5 rfl hS0 ?_
      (try simp only [Act.put, putS])
      refine tJ 6 rfl hS0 ?_
      (try simp only [Act.put, putS])
      refine tJ 7 rfl hS0 ?_
      (try simp only [Act.put, putS])
      refine tJ 9 rfl hS0 ?_
      (try simp only [Act.put, putS])
      refine tJ 10 rfl hS0 ?_
      (try simp only [Act.put, putS])
      refine tJ 11 rfl hS0 ?_
      (try simp only [Act.put, putS])
      refine tJ 12 rfl hS0 ?_
      (try simp only [Act.put, putS])
      refine tJ 13 rfl hS0 ?_
      (try simp only [Act.put, putS])
      refine tJ 14 rfl hS0 ?_
      (try simp only [Act.put, putS])
      refine tJ 15 rfl hS0 ?_
      (try simp only [Act.put, putS])
      refine tJ 16 rfl hS0 ?_
      (try simp only [Act.put, putS])
      refine tJ 18 rfl hS0 ?_
      (try simp only [Act.put, putS])
      refine rJ [8] ?_
      refine (AllReadyJ.cons rfl (fun K hK => ?_) AllReadyJ.nil)
      rw [if_pos (by kernel_rfl)]
      (try simp only [putG])
      (focus go_simp)
      (focus ((with_reducible refine (C2.out _ (qem1_0 _ hS0)).mono ?_); rintro e wa ⟨rfl, ba⟩; have sq := bstep hS0 ba))
      (focus (try go_wp2_with fail))
      refine hK.out _ _ ?hs (fun hS0 => ?_)
      case hs => (first | with_reducible exact hS0 | with_reducible exact sq)
      clear hK K
      (try simp only [Act.put, putS])
      refine rJ [17] ?_
      refine (AllReadyJ.cons rfl (fun K hK => ?_) AllReadyJ.nil)
      rw [if_pos (by kernel_rfl)]
      (try simp only [putG])
      (focus go_simp)
      (focus ((with_reducible refine (C4.out _ (qem1_0 _ hS0)).mono ?_); rintro e wb ⟨rfl, bb2⟩; have sq := bstep hS0 bb2))
      (focus (try go_wp2_with fail))
      refine hK.out _ _ ?hs (fun hS0 => ?_)
      case hs => (first | with_reducible exact hS0 | with_reducible exact sq)
      clear hK K
      (try simp only [Act.put, putS])
      refine rJ [19] ?_
      refine (AllReadyJ.cons rfl (fun K hK => ?_) AllReadyJ.nil)
      rw [if_pos (by kernel_rfl)]
      (try simp only [putG])
      (focus go_simp)
      (focus ((with_reducible refine (CU.out _).mono ?_); rintro e wc ⟨rfl, rfl⟩; have sq := hS0))
      (focus (try go_wp2_with fail))
      refine hK.out _ _ ?hs (fun hS0 => ?_)
      case hs => (first | with_reducible exact hS0 | with_reducible exact sq)
      clear hK K
      (try simp only [Act.put, putS])
      refine tJ 20 rfl hS0 ?_
      (try simp only [Act.put, putS])
      refine wpAnyJ_done (by kernel_rfl) ?_ _
    go_upto_region 5 with fail
    have s5 := Below.drew hS0
    clear s4 sq ba bb2
    focus
      refine wp_region_J [11] (fun W => Below w1.heap.size w1 W) (by kernel_rfl) (s5) (fun hS0 => ?_)
      refine bJ 0 [0, 1, 2, 11] rfl hS0 ?_
      (try simp only [Act.put, putS])
      refine bJ 1 [1, 2, 11] rfl hS0 ?_
      (try simp only [Act.put, putS])
      refine tJ 2 rfl hS0 ?_
      (try simp only [Act.put, putS])
      refine bJ 3 [3, 4, 5, 6, 7, 11] rfl hS0 ?_
      (try simp only [Act.put, putS])
      refine bJ 4 [4, 5, 6, 7, 11] rfl hS0 ?_
      (try simp only [Act.put, putS])
      refine bJ 5 [5, 6, 7, 11] rfl hS0 ?_
      (try simp only [Act.put, putS])
      refine bJ 6 [6, 7, 11] rfl hS0 ?_
      (try simp only [Act.put, putS])
      refine tJ 7 rfl hS0 ?_
      (try simp only [Act.put, putS])
      refine bJ 8 [8, 9, 10, 11] rfl hS0 ?_
      (try simp only [Act.put, putS])
      refine rJ [9] ?_
      refine (AllReadyJ.cons rfl (fun K hK => ?_) AllReadyJ.nil)
      rw [if_pos (by kernel_rfl)]
      (try simp only [putG])
      (focus go_simp)
      refine hK.out _ _ ?hs (fun hS0 => ?_)
      case hs => (first | with_reducible exact hS0 | with_reducible exact sq | exact bstep hS0 (fresh_below _ _))
      clear hK K
      (try simp only [Act.put, putS])
      refine rJ [10] ?_
      refine (AllReadyJ.cons rfl (fun K hK => ?_) AllReadyJ.nil)
      rw [if_pos (by kernel_rfl)]
      (try simp only [putG])
      (focus go_simp)
      (focus ((refine (CW1.out _ _ (by (repeat' (first | with_reducible refine Row.afterdraw ?_ | with_reducible exact Row.freshAt _ _ _ _ _ _ (by simp) rfl rfl | (with_reducible refine Row.rise ?_ (fresh_below _ _)))))).mono ?_); rintro e w6 ⟨rfl, b6⟩; have sq := bstep hS0 b6))
      (focus (try go_wp2_with fail))
      refine hK.out _ _ ?hs (fun hS0 => ?_)
      case hs => (first | with_reducible exact hS0 | with_reducible exact sq | exact bstep hS0 (fresh_below _ _))
      clear hK K
      (try simp only [Act.put, putS])
      refine rJ [11] ?_
      refine (AllReadyJ.last rfl (by kernel_rfl) (fun K hK => ?_) AllReadyJ.nil)
      rw [if_pos (by kernel_rfl)]
      (try simp only [putG])
      (focus go_simp)
      (focus ((refine (CL1.out _ (Cells.below hS0 EM1.out)).mono ?_); rintro e w7 ⟨rfl, em7, on7⟩))
      (focus (try go_wp2_with fail))
      refine hK.out _ _ ?_
      clear hK K
      (try simp only [Act.put, putS])
      refine wpAnyJ_done (by kernel_rfl) ?_ _
    have ON := hide (Only.trans (Only.of_below (bstep BN.out hS0) (Nat.le_refl _)) on7)
    have EM7 := hide em7
    clear s5 hS0 sq b6 on7 qem1_0 qem1_1 qem1_2 qem1_3 qem1_4 qem1_5 qem1_6 qem1_7 qd0_0 qd0_1 qd0_2 qd0_3 bb EM1 D0 BN
    unfold Em emCells at em7
    obtain ⟨qem7_0, qem7_1, qem7_2, qem7_3, qem7_4, qem7_5, qem7_6, qem7_7⟩ := em7.q8
    clear em7
    have bb : Below w7.heap.size w7 w7 := Below.refl _ _
    go_upto_region 6 with fail
    have s6 := Below.drew bb
    focus
      refine wp_region_J [11] (fun W => Below w7.heap.size w7 W) (by kernel_rfl) (s6) (fun hS0 => ?_)
      refine bJ 0 [0, 1, 2, 11] rfl hS0 ?_
      (try simp only [Act.put, putS])
      refine bJ 1 [1, 2, 11] rfl hS0 ?_
      (try simp only [Act.put, putS])
      refine tJ 2 rfl hS0 ?_
      (try simp only [Act.put, putS])
      refine bJ 3 [3, 4, 5, 6, 7, 11] rfl hS0 ?_
      (try simp only [Act.put, putS])
      refine bJ 4 [4, 5, 6, 7, 11] rfl hS0 ?_
      (try simp only [Act.put, putS])
      refine bJ 5 [5, 6, 7, 11] rfl hS0 ?_
      (try simp only [Act.put, putS])
      refine bJ 6 [6, 7, 11] rfl hS0 ?_
      (try simp only [Act.put, putS])
      refine tJ 7 rfl hS0 ?_
      (try simp only [Act.put, putS])
      refine bJ 8 [8, 9, 10, 11] rfl hS0 ?_
      (try simp only [Act.put, putS])
      refine rJ [9] ?_
      refine (AllReadyJ.cons rfl (fun K hK => ?_) AllReadyJ.nil)
      rw [if_pos (by kernel_rfl)]
      (try simp only [putG])
      (focus go_simp)
      refine hK.out _ _ ?hs (fun hS0 => ?_)
      case hs => (first | with_reducible exact hS0 | with_reducible exact sq | exact bstep hS0 (fresh_below _ _))
      clear hK K
      (try simp only [Act.put, putS])
      refine rJ [10] ?_
      refine (AllReadyJ.cons rfl (fun K hK => ?_) AllReadyJ.nil)
      rw [if_pos (by kernel_rfl)]
      (try simp only [putG])
      (focus go_simp)
      (focus ((refine (CW2.out _ _ (by (repeat' (first | with_reducible refine Row.afterdraw ?_ | with_reducible exact Row.freshAt _ _ _ _ _ _ (by simp) rfl rfl | (with_reducible refine Row.rise ?_ (fresh_below _ _)))))).mono ?_); rintro e w8 ⟨rfl, b8⟩; have sq := bstep hS0 b8))
      (focus (try go_wp2_with fail))
      refine hK.out _ _ ?hs (fun hS0 => ?_)
      case hs => (first | with_reducible exact hS0 | with_reducible exact sq | exact bstep hS0 (fresh_below _ _))
      clear hK K
      (try simp only [Act.put, putS])
      refine rJ [11] ?_
      refine (AllReadyJ.last rfl (by kernel_rfl) (fun K hK => ?_) AllReadyJ.nil)
      rw [if_pos (by kernel_rfl)]
      (try simp only [putG])
      (focus go_simp)
      (focus ((refine (CL2.out _ (Cells.below hS0 EM7.out)).mono ?_); rintro e w9 ⟨rfl, em9, on9⟩))
      (focus (try go_wp2_with fail))
      refine hK.out _ _ ?_
      clear hK K
      (try simp only [Act.put, putS])
      refine wpAnyJ_done (by kernel_rfl) ?_ _
    go_wp2_with fail
    first | go_end0 | ((try simp only [Exit.inBlock, Exit.then]); refine bodyPost_ret (v := .tuple #[]) (by simp [results, Tryz.results66, go_sem]; try rfl) rfl ?_)
    exact ⟨rfl, em9, Only.trans (Only.then ON.out hS0) on9⟩
  · have hi : id = b := by rw [HID.out]; rfl
    subst hi
    clear HID
    go_enter Tryz.func66, Tryz.ntmps66
    have d0 := Cells.new w #[.int .u32 a, .int .u16 id, .int .u32 c, .int .u16 d] 28
    have bn := fresh_below w (.cells #[.int .u32 a, .int .u16 id, .int .u32 c, .int .u16 d] 28)
    have D0 := hide d0; have BN := hide bn
    clear d0 bn
    go_upto_region 1 with fail
    generalize (w.alloc (.cells #[.int .u32 a, .int .u16 id, .int .u32 c, .int .u16 d] 28)) = w1 at *
    have em1 := Cells.below BN.out HC.out
    have d0 := D0.out
    have EM1 := hide em1
    unfold Em emCells at em1
    obtain ⟨qem1_0, qem1_1, qem1_2, qem1_3, qem1_4, qem1_5, qem1_6, qem1_7⟩ := em1.q8
    obtain ⟨qd0_0, qd0_1, qd0_2, qd0_3⟩ := d0.q4
    have bb : Below w1.heap.size w1 w1 := Below.refl _ _
    clear em1 d0
    go_upto_region 4 with fail
    have s4 : Below w1.heap.size w1 w1.drew := Below.drew bb
    focus
      refine wp_region_J [] (fun W => Below w1.heap.size w1 W) (by kernel_rfl) (s4) (fun hS0 => ?_)
      refine tJ 0 rfl hS0 ?_
      (try simp only [Act.put, putS])
      refine tJ 1 rfl hS0 ?_
      (try simp only [Act.put, putS])
      refine tJ 2 rfl hS0 ?_
      (try simp only [Act.put, putS])
      refine tJ 3 rfl hS0 ?_
      (try simp only [Act.put, putS])
      refine tJ 4 rfl hS0 ?_
      (try simp only [Act.put, putS])
      refine tJ 5 rfl hS0 ?_
      (try simp only [Act.put, putS])
      refine tJ 6 rfl hS0 ?_
      (try simp only [Act.put, putS])
      refine tJ 7 rfl hS0 ?_
      (try simp only [Act.put, putS])
      refine tJ 9 rfl hS0 ?_
      (try simp only [Act.put, putS])
      refine tJ 10 rfl hS0 ?_
      (try simp only [Act.put, putS])
      refine tJ 11 rfl hS0 ?_
      (try simp only [Act.put, putS])
      refine tJ 12 rfl hS0 ?_
      (try simp only [Act.put, putS])
      refine tJ 13 rfl hS0 ?_
      (try simp only [Act.put, putS])
      refine tJ 14 rfl hS0 ?_
      (try simp only [Act.put, putS])
      refine tJ 15 rfl hS0 ?_
      (try simp only [Act.put, putS])
      refine tJ 16 rfl hS0 ?_
      (try simp only [Act.put, putS])
      refine tJ 18 rfl hS0 ?_
      (try simp only [Act.put, putS])
      refine rJ [8] ?_
      refine (AllReadyJ.cons rfl (fun K hK => ?_) AllReadyJ.nil)
      rw [if_pos (by kernel_rfl)]
      (try simp only [putG])
      (focus go_simp)
      (focus ((with_reducible refine (C2.out _ (qem1_0 _ hS0)).mono ?_); rintro e wa ⟨rfl, ba⟩; have sq := bstep hS0 ba))
      (focus (try go_wp2_with fail))
      refine hK.out _ _ ?hs (fun hS0 => ?_)
      case hs => (first | with_reducible exact hS0 | with_reducible exact sq)
      clear hK K
      (try simp only [Act.put, putS])
      refine rJ [17] ?_
      refine (AllReadyJ.cons rfl (fun K hK => ?_) AllReadyJ.nil)
      rw [if_pos (by kernel_rfl)]
      (try simp only [putG])
      (focus go_simp)
      (focus ((with_reducible refine (C4.out _ (qem1_0 _ hS0)).mono ?_); rintro e wb ⟨rfl, bb2⟩; have sq := bstep hS0 bb2))
      (focus (try go_wp2_with fail))
      refine hK.out _ _ ?hs (fun hS0 => ?_)
      case hs => (first | with_reducible exact hS0 | with_reducible exact sq)
      clear hK K
      (try simp only [Act.put, putS])
      refine rJ [19] ?_
      refine (AllReadyJ.cons rfl (fun K hK => ?_) AllReadyJ.nil)
      rw [if_pos (by kernel_rfl)]
      (try simp only [putG])
      (focus go_simp)
      (focus ((with_reducible refine (CU.out _).mono ?_); rintro e wc ⟨rfl, rfl⟩; have sq := hS0))
      (focus (try go_wp2_with fail))
      refine hK.out _ _ ?hs (fun hS0 => ?_)
      case hs => (first | with_reducible exact hS0 | with_reducible exact sq)
      clear hK K
      (try simp only [Act.put, putS])
      refine tJ 20 rfl hS0 ?_
      (try simp only [Act.put, putS])
      refine wpAnyJ_done (by kernel_rfl) ?_ _
    go_upto_region 5 with fail
    have s5 := Below.drew hS0
    clear s4 sq ba bb2
    focus
      refine wp_region_J [11] (fun W => Below w1.heap.size w1 W) (by kernel_rfl) (s5) (fun hS0 => ?_)
      refine bJ 0 [0, 1, 2, 11] rfl hS0 ?_
      (try simp only [Act.put, putS])
      refine bJ 1 [1, 2, 11] rfl hS0 ?_
      (try simp only [Act.put, putS])
      refine tJ 2 rfl hS0 ?_
      (try simp only [Act.put, putS])
      refine bJ 3 [3, 4, 5, 6, 7, 11] rfl hS0 ?_
      (try simp only [Act.put, putS])
      refine bJ 4 [4, 5, 6, 7, 11] rfl hS0 ?_
      (try simp only [Act.put, putS])
      refine bJ 5 [5, 6, 7, 11] rfl hS0 ?_
      (try simp only [Act.put, putS])
      refine bJ 6 [6, 7, 11] rfl hS0 ?_
      (try simp only [Act.put, putS])
      refine tJ 7 rfl hS0 ?_
      (try simp only [Act.put, putS])
      refine bJ 8 [8, 9, 10, 11] rfl hS0 ?_
      (try simp only [Act.put, putS])
      refine rJ [9] ?_
      refine (AllReadyJ.cons rfl (fun K hK => ?_) AllReadyJ.nil)
      rw [if_pos (by kernel_rfl)]
      (try simp only [putG])
      (focus go_simp)
      refine hK.out _ _ ?hs (fun hS0 => ?_)
      case hs => (first | with_reducible exact hS0 | with_reducible exact sq | exact bstep hS0 (fresh_below _ _))
      clear hK K
      (try simp only [Act.put, putS])
      refine rJ [10] ?_
      refine (AllReadyJ.cons rfl (fun K hK => ?_) AllReadyJ.nil)
      rw [if_pos (by kernel_rfl)]
      (try simp only [putG])
      (focus go_simp)
      (focus ((refine (CW1.out _ _ (by (repeat' (first | with_reducible refine Row.afterdraw ?_ | with_reducible exact Row.freshAt _ _ _ _ _ _ (by simp) rfl rfl | (with_reducible refine Row.rise ?_ (fresh_below _ _)))))).mono ?_); rintro e w6 ⟨rfl, b6⟩; have sq := bstep hS0 b6))
      (focus (try go_wp2_with fail))
      refine hK.out _ _ ?hs (fun hS0 => ?_)
      case hs => (first | with_reducible exact hS0 | with_reducible exact sq | exact bstep hS0 (fresh_below _ _))
      clear hK K
      (try simp only [Act.put, putS])
      refine rJ [11] ?_
      refine (AllReadyJ.last rfl (by kernel_rfl) (fun K hK => ?_) AllReadyJ.nil)
      rw [if_pos (by kernel_rfl)]
      (try simp only [putG])
      (focus go_simp)
      (focus ((refine (CL1.out _ (Cells.below hS0 EM1.out)).mono ?_); rintro e w7 ⟨rfl, em7, on7⟩))
      (focus (try go_wp2_with fail))
      refine hK.out _ _ ?_
      clear hK K
      (try simp only [Act.put, putS])
      refine wpAnyJ_done (by kernel_rfl) ?_ _
    have ON := hide (Only.trans (Only.of_below (bstep BN.out hS0) (Nat.le_refl _)) on7)
    have EM7 := hide em7
    clear s5 hS0 sq b6 on7 qem1_0 qem1_1 qem1_2 qem1_3 qem1_4 qem1_5 qem1_6 qem1_7 qd0_0 qd0_1 qd0_2 qd0_3 bb EM1 D0 BN
    unfold Em emCells at em7
    obtain ⟨qem7_0, qem7_1, qem7_2, qem7_3, qem7_4, qem7_5, qem7_6, qem7_7⟩ := em7.q8
    clear em7
    have bb : Below w7.heap.size w7 w7 := Below.refl _ _
    go_upto_region 6 with fail
    have s6 := Below.drew bb
    focus
      refine wp_region_J [11] (fun W => Below w7.heap.size w7 W) (by kernel_rfl) (s6) (fun hS0 => ?_)
      refine bJ 0 [0, 1, 2, 11] rfl hS0 ?_
      (try simp only [Act.put, putS])
      refine bJ 1 [1, 2, 11] rfl hS0 ?_
      (try simp only [Act.put, putS])
      refine tJ 2 rfl hS0 ?_
      (try simp only [Act.put, putS])
      refine bJ 3 [3, 4, 5, 6, 7, 11] rfl hS0 ?_
      (try simp only [Act.put, putS])
      refine bJ 4 [4, 5, 6, 7, 11] rfl hS0 ?_
      (try simp only [Act.put, putS])
      refine bJ 5 [5, 6, 7, 11] rfl hS0 ?_
      (try simp only [Act.put, putS])
      refine bJ 6 [6, 7, 11] rfl hS0 ?_
      (try simp only [Act.put, putS])
      refine tJ 7 rfl hS0 ?_
      (try simp only [Act.put, putS])
      refine bJ 8 [8, 9, 10, 11] rfl hS0 ?_
      (try simp only [Act.put, putS])
      refine rJ [9] ?_
      refine (AllReadyJ.cons rfl (fun K hK => ?_) AllReadyJ.nil)
      rw [if_pos (by kernel_rfl)]
      (try simp only [putG])
      (focus go_simp)
      refine hK.out _ _ ?hs (fun hS0 => ?_)
      case hs => (first | with_reducible exact hS0 | with_reducible exact sq | exact bstep hS0 (fresh_below _ _))
      clear hK K
      (try simp only [Act.put, putS])
      refine rJ [10] ?_
      refine (AllReadyJ.cons rfl (fun K hK => ?_) AllReadyJ.nil)
      rw [if_pos (by kernel_rfl)]
      (try simp only [putG])
      (focus go_simp)
      (focus ((refine (CW2.out _ _ (by (repeat' (first | with_reducible refine Row.afterdraw ?_ | with_reducible exact Row.freshAt _ _ _ _ _ _ (by simp) rfl rfl | (with_reducible refine Row.rise ?_ (fresh_below _ _)))))).mono ?_); rintro e w8 ⟨rfl, b8⟩; have sq := bstep hS0 b8))
      (focus (try go_wp2_with fail))
      refine hK.out _ _ ?hs (fun hS0 => ?_)
      case hs => (first | with_reducible exact hS0 | with_reducible exact sq | exact bstep hS0 (fresh_below _ _))
      clear hK K
      (try simp only [Act.put, putS])
      refine rJ [11] ?_
      refine (AllReadyJ.last rfl (by kernel_rfl) (fun K hK => ?_) AllReadyJ.nil)
      rw [if_pos (by kernel_rfl)]
      (try simp only [putG])
      (focus go_simp)
      (focus ((refine (CL2.out _ (Cells.below hS0 EM7.out)).mono ?_); rintro e w9 ⟨rfl, em9, on9⟩))
      (focus (try go_wp2_with fail))
      refine hK.out _ _ ?_
      clear hK K
      (try simp only [Act.put, putS])
      refine wpAnyJ_done (by kernel_rfl) ?_ _
    go_wp2_with fail
    first | go_end0 | ((try simp only [Exit.inBlock, Exit.then]); refine bodyPost_ret (v := .tuple #[]) (by simp [results, Tryz.results66, go_sem]; try rfl) rfl ?_)
    exact ⟨rfl, em9, Only.trans (Only.then ON.out hS0) on9⟩
set_option maxRecDepth 100000 in
set_option maxHeartbeats 16000000 in
theorem e_change (w : World) (B : Nat) (s : ByteArray) (e : Nat) (t : Tup) (q : Bool) (a b c d : Int) (hC : Em w B s e t q) (ht : t.Ok) (ha : 0 ≤ a ∧ a ≤ 4294967295) (hb : 0 ≤ b ∧ b ≤ 65535) (hc : 0 ≤ c ∧ c ≤ 4294967295) (hd : 0 ≤ d ∧ d ≤ 65535) (hs : s.size ≤ 140737488351232) (h : e + 8 ≤ s.size) (h20 : 20 ≤ e) (he : e ≤ 60) :
    Calls Tryz.prog 31 #[.pointer (some ⟨B, 0, none⟩), .agg #[.int .u32 a, .int .u16 b, .int .u32 c, .int .u16 d]] w (Turned w B (emCells (S (emCh (L s) e t q a b c d)) e t q) 79) := by
  have hsL : (L s).length = s.size := L_length s
  have ce := fun W => e_ends a b c d W ha hb hc hd
  have c10 := fun W (hC : W.cell? ⟨B, 0, none⟩ = some (.string s)) => e_two W B s 10 hC hs ⟨by omega, by omega⟩
  rw [show get16 (L s) 10 = be16 (L s) 10 from get16_nat (k := 10) (by omega)] at c10
  have hx := be16_bd (L s) 10
  obtain ⟨n, hn⟩ : ∃ n, n = updates (be16 (L s) 10) (((L s).drop 12).take 8) (ipsOf a c) := ⟨_, rfl⟩
  have hnb : 0 ≤ n ∧ n ≤ 65535 := by rw [hn]; exact updates_bd hx
  obtain ⟨l1, hl1⟩ : ∃ l1, l1 = (L s).take 12 ++ (ipsOf a c ++ (L s).drop 20) := ⟨_, rfl⟩
  have hl1n : l1.length = s.size := by rw [hl1]; simp only [List.length_append, List.length_take, List.length_drop, ipsOf_len]; omega
  obtain ⟨l2, hl2⟩ : ∃ l2, l2 = lay l1 10 n := ⟨_, rfl⟩
  have hl2n : l2.length = s.size := by rw [hl2, lay_length (by omega), hl1n]
  have hmid : emMid (L s) a c = l2 := by unfold emMid; rw [← hl1, ← hn, ← hl2]
  have cu := fun W => Updates (be16 (L s) 10) (s.extract 12 20) (S (ipsOf a c)) W hx (by simp; omega) (by rw [S_size, ipsOf_len]; omega)
  rw [show updates (be16 (L s) 10) (L (s.extract 12 20)) (L (S (ipsOf a c))) = n from by rw [hn, L_S, L_extract]] at cu
  have cl1 := fun W (hC : Em W B s e t q) => e_layEm W B s e t q 12 (S (ipsOf a c)) hC hs (by rw [S_size, ipsOf_len]; omega) (S l1) (by rw [L_S, S_size, ipsOf_len, hl1])
  have cl2 := fun W (hC : Em W B (S l1) e t q) => e_layEm W B (S l1) e t q 10 (S (put16 n)) hC (by rw [S_size, hl1n]; exact hs) (by rw [S_size, S_size, put16_length, hl1n]; omega) (S l2) (by rw [L_S, L_S, S_size, put16_length, hl2, ← List.append_assoc]; rfl)
  have cw := fun W A hR => word_one n hnb W A hR
  have cf16 := fun W (hC : Em W B (S l2) e t q) (h6 : t.p = 6) => e_flow W B (S l2) e t q a b c d 16 hC ht ha hb hc hd (by rw [S_size, hl2n]; exact hs) (by rw [S_size, hl2n]; exact h) he (Or.inl ⟨h6, rfl⟩)
  have cf6 := fun W (hC : Em W B (S l2) e t q) (h17 : t.p = 17) => e_flow W B (S l2) e t q a b c d 6 hC ht ha hb hc hd (by rw [S_size, hl2n]; exact hs) (by rw [S_size, hl2n]; exact h) he (Or.inr ⟨h17, rfl⟩)
  have cm := fun W (hC : Em W B (S l2) e t q) => e_message W B (S l2) e t q a b c d hC hb hd (by rw [S_size, hl2n]; exact hs) (by rw [S_size, hl2n]; exact h) he
  rw [L_S] at cf16 cf6 cm
  have r6 : t.p = 6 → emCh (L s) e t q a b c d = emFlow l2 e t a b c d 16 := fun h => by unfold emCh; rw [hmid, if_pos h]
  have r17 : t.p = 17 → emCh (L s) e t q a b c d = emFlow l2 e t a b c d 6 := fun h => by unfold emCh; rw [hmid, if_neg (by omega), if_pos h]
  have ro : t.p ≠ 6 → t.p ≠ 17 → emCh (L s) e t q a b c d = emMsgN l2 e (if q = true then b else d) := fun h1 h2 => by unfold emCh; rw [hmid, if_neg h1, if_neg h2]
  obtain ⟨RV, hRV⟩ : ∃ RV, emCh (L s) e t q a b c d = RV := ⟨_, rfl⟩
  rw [hRV] at r6 r17 ro ⊢
  have i20 : (20 : Int) ≤ (s.size : Int) := by omega
  have i20n : 20 ≤ s.size := by omega
  generalize be16 (L s) 10 = x at *
  obtain ⟨i2, hi2⟩ : ∃ i2, i2 = S (ipsOf a c) := ⟨_, rfl⟩
  rw [← hi2] at ce cu cl1
  obtain ⟨p2, hp2⟩ : ∃ p2, p2 = S (putW [b, d]) := ⟨_, rfl⟩
  rw [← hp2] at ce
  obtain ⟨s1, hs1⟩ : ∃ s1, s1 = S l1 := ⟨_, rfl⟩
  rw [← hs1] at cl1 cl2
  obtain ⟨s2, hs2⟩ : ∃ s2, s2 = S l2 := ⟨_, rfl⟩
  rw [← hs2] at cl2 cf16 cf6 cm
  obtain ⟨w2', hw2'⟩ : ∃ x, x = S (put16 n) := ⟨_, rfl⟩
  rw [← hw2'] at cw cl2
  have CE := hide ce; have C10 := hide c10; have CU := hide cu; have CL1 := hide cl1; have CL2 := hide cl2; have CW := hide cw; have CF16 := hide cf16; have CF6 := hide cf6; have CM := hide cm; have HC := hide hC
  have R6 := hide r6; have R17 := hide r17; have RO := hide ro
  have hB : B < w.heap.size := Cells.lt hC
  clear ce c10 cu cl1 cl2 cw cf16 cf6 cm hC r6 r17 ro hRV hsL hx hn hnb hl1 hl1n hl2 hl2n hmid hi2 hp2 hs1 hs2 hw2' ht ha hb hc hd hs h h20 he
  go_enter Tryz.func31, Tryz.ntmps31
  have d0 := Cells.new w #[.int .u32 a, .int .u16 b, .int .u32 c, .int .u16 d] 28
  have bn := fresh_below w (.cells #[.int .u32 a, .int .u16 b, .int .u32 c, .int .u16 d] 28)
  have D0 := hide d0; have BN := hide bn
  clear d0 bn
  go_upto_region 1 with fail
  generalize (w.alloc (.cells #[.int .u32 a, .int .u16 b, .int .u32 c, .int .u16 d] 28)) = w1 at *
  have em1 := Cells.below BN.out HC.out
  have d0 := D0.out
  have EM1 := hide em1
  unfold Em emCells at em1
  obtain ⟨qem1_0, qem1_1, qem1_2, qem1_3, qem1_4, qem1_5, qem1_6, qem1_7⟩ := em1.q8
  obtain ⟨qd0_0, qd0_1, qd0_2, qd0_3⟩ := d0.q4
  have bb : Below w1.heap.size w1 w1 := Below.refl _ _
  clear em1 d0
  go_upto_region 2 with (go_at_call 63; (with_reducible refine (CE.out _).mono ?_); rintro e w2 ⟨rfl, b2⟩; have b2' := bstep bb b2)
  have s2' := Below.drew b2'
  clear b2
  focus
    refine wp_region_J [] (fun W => Below w1.heap.size w1 W) (by kernel_rfl) (s2') (fun hS0 => ?_)
    refine tJ 0 rfl hS0 ?_
    (try simp only [Act.put, putS])
    refine tJ 1 rfl hS0 ?_
    (try simp only [Act.put, putS])
    refine tJ 2 rfl hS0 ?_
    (try simp only [Act.put, putS])
    refine tJ 4 rfl hS0 ?_
    (try simp only [Act.put, putS])
    refine tJ 5 rfl hS0 ?_
    (try simp only [Act.put, putS])
    refine tJ 6 rfl hS0 ?_
    (try simp only [Act.put, putS])
    refine tJ 7 rfl hS0 ?_
    (try simp only [Act.put, putS])
    refine tJ 8 rfl hS0 ?_
    (try simp only [Act.put, putS])
    refine tJ 9 rfl hS0 ?_
    (try simp only [Act.put, putS])
    refine tJ 10 rfl hS0 ?_
    (try simp only [Act.put, putS])
    refine rJ [3] ?_
    refine (AllReadyJ.cons rfl (fun K hK => ?_) AllReadyJ.nil)
    rw [if_pos (by kernel_rfl)]
    (try simp only [putG])
    (focus go_simp)
    (focus ((with_reducible refine (C10.out _ (qem1_0 _ hS0)).mono ?_); rintro e wa ⟨rfl, ba⟩; have sq := bstep hS0 ba))
    (focus (try go_wp2_with fail))
    refine hK.out _ _ ?hs (fun hS0 => ?_)
    case hs => (first | with_reducible exact hS0 | with_reducible exact sq)
    clear hK K
    (try simp only [Act.put, putS])
    refine rJ [11] ?_
    refine (AllReadyJ.cons rfl (fun K hK => ?_) AllReadyJ.nil)
    rw [if_pos (by kernel_rfl)]
    (try simp only [putG])
    (focus go_simp)
    (focus ((with_reducible refine (CU.out _).mono ?_); rintro e wb ⟨rfl, bb2⟩; have sq := bstep hS0 bb2))
    (focus (try go_wp2_with fail))
    refine hK.out _ _ ?hs (fun hS0 => ?_)
    case hs => (first | with_reducible exact hS0 | with_reducible exact sq)
    clear hK K
    (try simp only [Act.put, putS])
    refine tJ 12 rfl hS0 ?_
    (try simp only [Act.put, putS])
    refine wpAnyJ_done (by kernel_rfl) ?_ _
  go_upto_region 4 with (go_at_call 33; (refine (CL1.out _ (Cells.below hS0 EM1.out)).mono ?_); rintro e w3 ⟨rfl, em3, on3⟩)
  have ON := hide (Only.trans (Only.of_below (bstep BN.out hS0) (Nat.le_refl _)) on3)
  have EM3 := hide em3
  have DD3 := hide (Cells.only (Cells.below hS0 D0.out) on3 (by omega))
  clear s2' hS0 sq ba bb2 b2' on3 em3 bb qem1_0 qem1_1 qem1_2 qem1_3 qem1_4 qem1_5 qem1_6 qem1_7 qd0_0 qd0_1 qd0_2 qd0_3 EM1 D0 BN CE C10 CU CL1
  have s4 : Below w3.heap.size w3 w3.drew := Below.drew (Below.refl _ _)
  focus
    refine wp_region_J [6] (fun W => Below w3.heap.size w3 W) (by kernel_rfl) (s4) (fun hS0 => ?_)
    refine bJ 0 [0, 1, 2, 6] rfl hS0 ?_
    (try simp only [Act.put, putS])
    refine bJ 1 [1, 2, 6] rfl hS0 ?_
    (try simp only [Act.put, putS])
    refine tJ 2 rfl hS0 ?_
    (try simp only [Act.put, putS])
    refine bJ 3 [3, 4, 5, 6] rfl hS0 ?_
    (try simp only [Act.put, putS])
    refine rJ [4] ?_
    refine (AllReadyJ.cons rfl (fun K hK => ?_) AllReadyJ.nil)
    rw [if_pos (by kernel_rfl)]
    (try simp only [putG])
    (focus go_simp)
    refine hK.out _ _ ?hs (fun hS0 => ?_)
    case hs => (first | with_reducible exact hS0 | with_reducible exact sq | exact bstep hS0 (fresh_below _ _))
    clear hK K
    (try simp only [Act.put, putS])
    refine rJ [5] ?_
    refine (AllReadyJ.cons rfl (fun K hK => ?_) AllReadyJ.nil)
    rw [if_pos (by kernel_rfl)]
    (try simp only [putG])
    (focus go_simp)
    (focus ((refine (CW.out _ _ (by (repeat' (first | with_reducible refine Row.afterdraw ?_ | with_reducible exact Row.freshAt _ _ _ _ _ _ (by simp) rfl rfl | (with_reducible refine Row.rise ?_ (fresh_below _ _)))))).mono ?_); rintro e w6 ⟨rfl, b6⟩; have sq := bstep hS0 b6))
    (focus (try go_wp2_with fail))
    refine hK.out _ _ ?hs (fun hS0 => ?_)
    case hs => (first | with_reducible exact hS0 | with_reducible exact sq | exact bstep hS0 (fresh_below _ _))
    clear hK K
    (try simp only [Act.put, putS])
    refine rJ [6] ?_
    refine (AllReadyJ.last rfl (by kernel_rfl) (fun K hK => ?_) AllReadyJ.nil)
    rw [if_pos (by kernel_rfl)]
    (try simp only [putG])
    (focus go_simp)
    (focus ((refine (CL2.out _ (Cells.below hS0 EM3.out)).mono ?_); rintro e w7 ⟨rfl, em7, on7⟩))
    (focus (try go_wp2_with fail))
    refine hK.out _ _ ?_
    clear hK K
    (try simp only [Act.put, putS])
    refine wpAnyJ_done (by kernel_rfl) ?_ _
  all_goals
    have dd7 := Cells.only (Cells.below hS0 DD3.out) on7 (by omega)
    have ON7 := hide (Only.trans (Only.then ON.out hS0) on7)
    have EM7 := hide em7
    clear s4 hS0 sq b6 on7
    unfold Em emCells at em7
    have y2 : w7.cell? ⟨B, 2, none⟩ = some (.int .u8 t.p) := em7.at_ 2
    have y0 : w7.cell? ⟨w.heap.size, 0, none⟩ = some (.int .u32 a) := dd7.at_ 0
    have y1 : w7.cell? ⟨w.heap.size, 1, none⟩ = some (.int .u16 b) := dd7.at_ 1
    have y3 : w7.cell? ⟨w.heap.size, 2, none⟩ = some (.int .u32 c) := dd7.at_ 2
    have y4 : w7.cell? ⟨w.heap.size, 3, none⟩ = some (.int .u16 d) := dd7.at_ 3
    clear em7 dd7
    by_cases p6 : t.p = 6
    · have q6 : (t.p == 6) = true := by simpa using p6
      have P6 := hide p6
      clear p6
      go_wp2_with (go_at_call 65; (refine (CF16.out _ EM7.out P6.out).mono ?_); rintro e w8 ⟨rfl, em8, on8⟩)
      first | go_end0 | ((try simp only [Exit.inBlock, Exit.then]); refine bodyPost_ret (v := .tuple #[]) (by simp [results, Tryz.results31, go_sem]; try rfl) rfl ?_)
      exact ⟨rfl, by rw [R6.out P6.out]; exact em8, Only.trans ON7.out on8⟩
    · have q6 : (t.p == 6) = false := by simpa using p6
      have P6 := hide p6
      clear p6
      by_cases p17 : t.p = 17
      · have q17 : (t.p == 17) = true := by simpa using p17
        have P17 := hide p17
        clear p17
        go_wp2_with (go_at_call 65; (refine (CF6.out _ EM7.out P17.out).mono ?_); rintro e w8 ⟨rfl, em8, on8⟩)
        first | go_end0 | ((try simp only [Exit.inBlock, Exit.then]); refine bodyPost_ret (v := .tuple #[]) (by simp [results, Tryz.results31, go_sem]; try rfl) rfl ?_)
        exact ⟨rfl, by rw [R17.out P17.out]; exact em8, Only.trans ON7.out on8⟩
      · have q17 : (t.p == 17) = false := by simpa using p17
        have P17 := hide p17
        clear p17
        go_wp2_with (go_at_call 66; (refine (CM.out _ EM7.out).mono ?_); rintro e w8 ⟨rfl, em8, on8⟩)
        first | go_end0 | ((try simp only [Exit.inBlock, Exit.then]); refine bodyPost_ret (v := .tuple #[]) (by simp [results, Tryz.results31, go_sem]; try rfl) rfl ?_)
        exact ⟨rfl, by rw [RO.out P6.out P17.out]; exact em8, Only.trans ON7.out on8⟩
end Go.Proofs.YtjeaknipmdfkdaaGreatDoor
end

section
/- embeds.Translate: an error and what it is about, both changed, over this program. -/
set_option linter.unusedVariables false
set_option linter.unusedSimpArgs false
namespace Go.Proofs.YtjeaknipmdfkdaaGreatDoor
open Go.RowKit
attribute [local go_sem] Oper.semAt_some envL lookV

/-- lay of a text that lies alone in a block -/
theorem e_lay1 (W : World) (B : Nat) (s : ByteArray) (k : Nat) (p : ByteArray) (hC : Cells W B #[.string s] 77) (hs : s.size ≤ 140737488351232) (h : k + p.size ≤ s.size) (n : ByteArray) (hn : S ((L s).take k ++ (L p ++ (L s).drop (k + p.size))) = n) :
    Calls Tryz.prog 33 #[.pointer (some ⟨B, 0, none⟩), .int .i64 k, .string p] W (fun en w' => en = .returned (.tuple #[]) ∧ Cells w' B #[.string n] 77 ∧ Only (fun i => i = B) W w') :=
  (e_lay W B _ _ s k p hC rfl hs h).mono (by
    rintro en w' ⟨h1, h2, h3⟩
    rw [hn] at h2
    exact ⟨h1, Cells.like h2 (by simp), h3⟩)
set_option maxRecDepth 100000 in
set_option maxHeartbeats 16000000 in
theorem e_Translate (oa ob oc od a b c d : Int) (s : ByteArray) (w : World) (K0 : Kinds w) (hoa : 0 ≤ oa ∧ oa ≤ 4294967295) (hob : 0 ≤ ob ∧ ob ≤ 65535) (hoc : 0 ≤ oc ∧ oc ≤ 4294967295) (hod : 0 ≤ od ∧ od ≤ 65535) (ha : 0 ≤ a ∧ a ≤ 4294967295) (hb : 0 ≤ b ∧ b ≤ 65535) (hc : 0 ≤ c ∧ c ≤ 4294967295) (hd : 0 ≤ d ∧ d ≤ 65535) (hs : s.size ≤ 140737488351232) :
    Calls Tryz.prog 11 #[.string s, .agg #[.int .u32 oa, .int .u16 ob, .int .u32 oc, .int .u16 od], .agg #[.int .u32 a, .int .u16 b, .int .u32 c, .int .u16 d]] w (Ret (.tuple #[.string (trOut s oa ob oc od a b c d), .int .i64 (trWhy s)]) w) := by
  have ca := fun W (hW : Below w.heap.size w W) => e_about W s (K0.below hW) hs
  unfold Abouts at ca
  by_cases h : emsWhy s = 0
  rotate_left 1
  · have e1 : trWhy s = emsWhy s := by unfold trWhy; rw [if_pos h]
    have e2 : trOut s oa ob oc od a b c d = { data := #[] } := by unfold trOut; rw [e1, if_neg h]
    rw [e1, e2]
    simp only [h, if_false] at ca
    have hr : (emsWhy s != 0) = true := by simpa using h
    generalize emsWhy s = r at *
    have CA := hide ca
    clear ca K0 hs h e1 e2 hoa hob hoc hod ha hb hc hd
    go_enter Tryz.func11, Tryz.ntmps11
    have d0 := Cells.new w #[.int .u32 oa, .int .u16 ob, .int .u32 oc, .int .u16 od] 28
    replace d0 := Cells.below (fresh_below (w.alloc (.cells #[.int .u32 oa, .int .u16 ob, .int .u32 oc, .int .u16 od] 28)) (.cells #[.int .u32 a, .int .u16 b, .int .u32 c, .int .u16 d] 28)) d0
    have d1 := Cells.new (w.alloc (.cells #[.int .u32 oa, .int .u16 ob, .int .u32 oc, .int .u16 od] 28)) #[.int .u32 a, .int .u16 b, .int .u32 c, .int .u16 d] 28
    have l0 : Below w.heap.size w ((w.alloc (.cells #[.int .u32 oa, .int .u16 ob, .int .u32 oc, .int .u16 od] 28)).alloc (.cells #[.int .u32 a, .int .u16 b, .int .u32 c, .int .u16 d] 28)) := (bstep (fresh_below _ _) (fresh_below _ _))
    simp only [World.size_alloc] at d1
    have L0 := hide l0; have D0 := hide d0; have D1 := hide d1
    clear l0 d0 d1
    go_upto_region 1 with fail
    have l0 := L0.out; have d0 := D0.out; have d1 := D1.out
    clear L0 D0 D1
    generalize ((w.alloc (.cells #[.int .u32 oa, .int .u16 ob, .int .u32 oc, .int .u16 od] 28)).alloc (.cells #[.int .u32 a, .int .u16 b, .int .u32 c, .int .u16 d] 28)) = w1 at *
    obtain ⟨qd0_0, qd0_1, qd0_2, qd0_3⟩ := d0.q4
    obtain ⟨qd1_0, qd1_1, qd1_2, qd1_3⟩ := d1.q4
    have bb : Below w1.heap.size w1 w1 := Below.refl _ _
    have L0 := hide l0; have D0 := hide d0; have D1 := hide d1
    clear l0 d0 d1
    go_wp2_with (go_at_call 28; (refine (CA.out _ L0.out).mono ?_); rintro e w2 ⟨m, rfl, b2⟩)
    go_ret2
    exact ⟨rfl, bstep (bstep L0.out b2) (fresh_below _ _)⟩
  have cr := fun W (hW : Below w.heap.size w W) => rw_Apply oa ob oc od s W (K0.below hW) hoa hob hoc hod hs
  simp only [h, if_true] at ca
  have ca' : ∀ W, Below w.heap.size w W → Calls Tryz.prog 28 #[.string s] W (fun en w' => ∃ B, en = .returned (.tuple #[.agg #[.int .u8 (msgOf (ipRest s)).t, .int .u8 (msgOf (ipRest s)).c, .int .u16 (msgOf (ipRest s)).n, .string (msgOf (ipRest s)).r, .string (emData s)], .pointer (some ⟨B, 0, none⟩), .int .i64 0]) ∧ W.heap.size ≤ B ∧ Em w' B (emData s) (emAt (L (emData s))) (emTup (L (emData s))) (emAsk (L (emData s))) ∧ Below W.heap.size W w') := fun W hW => ca W hW
  by_cases hw : rwWhy s = 0
  rotate_left 1
  · have e1 : trWhy s = rwWhy s := by unfold trWhy; rw [if_neg (by omega)]
    have e2 : trOut s oa ob oc od a b c d = { data := #[] } := by unfold trOut; rw [e1, if_neg hw]
    rw [e1, e2]
    have hr : (rwWhy s != 0) = true := by simpa using hw
    generalize rwWhy s = r at *
    obtain ⟨m, hm⟩ : ∃ m, m = msgOf (ipRest s) := ⟨_, rfl⟩
    rw [← hm] at ca'
    generalize rwOut s oa ob oc od = ro at *
    generalize emData s = dt at *
    generalize emAt (L dt) = et at *
    generalize emTup (L dt) = tt at *
    generalize emAsk (L dt) = qq at *
    have CA := hide ca'; have CR := hide cr
    clear ca ca' cr K0 hs h e1 e2 hw hm hoa hob hoc hod ha hb hc hd
    go_enter Tryz.func11, Tryz.ntmps11
    have d0 := Cells.new w #[.int .u32 oa, .int .u16 ob, .int .u32 oc, .int .u16 od] 28
    replace d0 := Cells.below (fresh_below (w.alloc (.cells #[.int .u32 oa, .int .u16 ob, .int .u32 oc, .int .u16 od] 28)) (.cells #[.int .u32 a, .int .u16 b, .int .u32 c, .int .u16 d] 28)) d0
    have d1 := Cells.new (w.alloc (.cells #[.int .u32 oa, .int .u16 ob, .int .u32 oc, .int .u16 od] 28)) #[.int .u32 a, .int .u16 b, .int .u32 c, .int .u16 d] 28
    have l0 : Below w.heap.size w ((w.alloc (.cells #[.int .u32 oa, .int .u16 ob, .int .u32 oc, .int .u16 od] 28)).alloc (.cells #[.int .u32 a, .int .u16 b, .int .u32 c, .int .u16 d] 28)) := (bstep (fresh_below _ _) (fresh_below _ _))
    simp only [World.size_alloc] at d1
    have L0 := hide l0; have D0 := hide d0; have D1 := hide d1
    clear l0 d0 d1
    go_upto_region 1 with fail
    have l0 := L0.out; have d0 := D0.out; have d1 := D1.out
    clear L0 D0 D1
    generalize ((w.alloc (.cells #[.int .u32 oa, .int .u16 ob, .int .u32 oc, .int .u16 od] 28)).alloc (.cells #[.int .u32 a, .int .u16 b, .int .u32 c, .int .u16 d] 28)) = w1 at *
    obtain ⟨qd0_0, qd0_1, qd0_2, qd0_3⟩ := d0.q4
    obtain ⟨qd1_0, qd1_1, qd1_2, qd1_3⟩ := d1.q4
    have bb : Below w1.heap.size w1 w1 := Below.refl _ _
    have L0 := hide l0; have D0 := hide d0; have D1 := hide d1
    clear l0 d0 d1
    go_upto_region 4 with (go_at_call 28; (refine (CA.out _ L0.out).mono ?_); rintro e w2 ⟨B, rfl, hB, hE, b2⟩)
    have bz := bstep (bstep bb b2) (fresh_below w2 (.cells #[.int .u8 m.t, .int .u8 m.c, .int .u16 m.n, .string m.r, .string dt] 64))
    clear hE b2 hB
    generalize (w2.alloc (.cells #[.int .u8 m.t, .int .u8 m.c, .int .u16 m.n, .string m.r, .string dt] 64)) = w3 at *
    go_wp2_with (go_at_call 15; (with_reducible refine (CR.out _ (bstep L0.out bz)).mono ?_); rintro e w4 ⟨rfl, b4⟩)
    go_ret2
    exact ⟨rfl, bstep (bstep L0.out bz) b4⟩
  have e1 : trWhy s = 0 := by unfold trWhy; rw [if_neg (by omega)]; exact hw
  obtain ⟨k, hk1, hk2, hk3, hk4, hk5, hk6⟩ := tr_size (a := oa) (b := ob) (c := oc) (d := od) e1 hoa hob hoc hod
  obtain ⟨_, _, hem⟩ := ems_seen h
  obtain ⟨p1, p2, p3, _, _, _⟩ := emWhy_parts hem
  have hdl : (L (emData s)).length = (emData s).size := L_length _
  have hnl := emNew_len hem a b c d
  have cc := fun W B (hC : Em W B (emData s) (emAt (L (emData s))) (emTup (L (emData s))) (emAsk (L (emData s)))) => e_change W B (emData s) (emAt (L (emData s))) (emTup (L (emData s))) (emAsk (L (emData s))) a b c d hC (emTup_ok _) ha hb hc hd (by omega) (by omega) (by omega) (by omega)
  obtain ⟨m, hm⟩ : ∃ m, m = msgOf (ipRest s) := ⟨_, rfl⟩
  have hmn : 0 ≤ m.n ∧ m.n ≤ 65535 := by rw [hm]; exact be16_bd _ _
  obtain ⟨nw, hnw⟩ : ∃ nw, nw = emNew (L (emData s)) a b c d := ⟨_, rfl⟩
  obtain ⟨ro, hro⟩ : ∃ ro, ro = rwOut s oa ob oc od := ⟨_, rfl⟩
  obtain ⟨ev, hev⟩ : ∃ ev : Nat, ev = (emData s).size / 2 * 2 := ⟨_, rfl⟩
  obtain ⟨sm, hsm⟩ : ∃ sm, sm = emSum s a b c d := ⟨_, rfl⟩
  have hnw2 : emCh (L (emData s)) (emAt (L (emData s))) (emTup (L (emData s))) (emAsk (L (emData s))) a b c d = nw := hnw.symm
  rw [hnw2] at cc
  rw [← hnw] at hnl
  have hsm2 : sm = updates m.n (L ((emData s).extract 0 ev)) (L ((S nw).extract 0 ev)) := by
    rw [hsm, L_extract, L_extract, L_S, List.drop_zero, List.drop_zero, Nat.sub_zero]
    unfold emSum emEven
    rw [← hnw, ← hm, hdl, ← hev]
  have hsb : 0 ≤ sm ∧ sm ≤ 65535 := by rw [hsm2]; exact updates_bd hmn
  rw [← hro] at hk4 hk5 cr
  obtain ⟨tx, htx⟩ : ∃ tx, tx = trOut s oa ob oc od a b c d := ⟨_, rfl⟩
  have htx2 : tx = S (lay ((L ro).take (k + 8) ++ nw) (k + 2) sm) := by
    rw [htx]
    unfold trOut trNew
    rw [if_pos e1, ← hro, ← hnw, ← hsm, show ro.size - (emData s).size = k + 8 from by omega]
    rfl
  rw [e1, ← htx]
  rw [← hm] at ca'
  rw [hw] at cr
  have hrl : (L ro).length = ro.size := L_length _
  have hl1 : ((L ro).take (k + 8) ++ nw).length = ro.size := by rw [List.length_append, List.length_take, hnl]; omega
  have cu := fun W => Updates m.n ((emData s).extract 0 ev) ((S nw).extract 0 ev) W hmn (by simp; omega) (by simp [S_size]; omega)
  rw [← hsm2] at cu
  have cl1 := fun W g (hC : Cells W g #[.string ro] 77) => e_lay1 W g ro (k + 8) (S nw) hC (by omega) (by rw [S_size, hnl]; omega) (S ((L ro).take (k + 8) ++ nw)) (by rw [L_S, S_size, hnl, List.drop_eq_nil_of_le (by omega), List.append_nil])
  have cl2 := fun W g (hC : Cells W g #[.string (S ((L ro).take (k + 8) ++ nw))] 77) => e_lay1 W g (S ((L ro).take (k + 8) ++ nw)) (k + 2) (S (put16 sm)) hC (by rw [S_size, hl1]; omega) (by rw [S_size, S_size, put16_length, hl1]; omega) tx (by rw [htx2, L_S, L_S, S_size, put16_length, ← List.append_assoc]; rfl)
  have cw := fun W A hR => word_one sm hsb W A hR
  have hz1 : (S nw).size = (emData s).size := by rw [S_size, hnl]; exact hdl
  generalize S (put16 sm) = ws at *
  generalize S ((L ro).take (k + 8) ++ nw) = t1 at *
  obtain ⟨sn, hsn⟩ : ∃ sn, sn = S nw := ⟨_, rfl⟩
  rw [← hsn] at cc cu cl1 hz1
  generalize emData s = dt at *
  obtain ⟨et, het⟩ : ∃ et : Nat, et = emAt (L dt) := ⟨_, rfl⟩
  rw [← het] at cc ca'
  generalize emTup (L dt) = tt at *
  generalize emAsk (L dt) = qq at *
  obtain ⟨z8, hz8⟩ : ∃ z8 : Nat, z8 = k + 8 := ⟨_, rfl⟩
  obtain ⟨z2, hz2⟩ : ∃ z2 : Nat, z2 = k + 2 := ⟨_, rfl⟩
  rw [← hz8] at cl1
  rw [← hz2] at cl2
  have an : bits .andNot .i64 (sn.size : Int) 1 = ((ev : Nat) : Int) := by rw [Go.Lib.andNot_one sn.size (by omega), hev, hz1]
  have w1 : IntKind.i64.wrap ((ro.size : Int) - (sn.size : Int)) = (z8 : Int) := by rw [IntWalk.i64_in _ (by omega)]; omega
  obtain ⟨z0, hz0⟩ : ∃ z0 : Int, z0 = (k : Int) := ⟨_, rfl⟩
  have w2 : IntKind.i64.wrap ((z8 : Int) - 8) = z0 := by rw [IntWalk.i64_in _ (by omega)]; omega
  have w3 : IntKind.i64.wrap (z0 + 2) = (z2 : Int) := by rw [IntWalk.i64_in _ (by omega)]; omega
  have i1 : ev ≤ sn.size := by omega
  have i2 : ev ≤ dt.size := by omega
  have i3 : (ev : Int) ≤ (sn.size : Int) := by omega
  have i4 : (ev : Int) ≤ (dt.size : Int) := by omega
  have hB0 : w.heap.size < (w.heap.size + 2) := by omega
  have CA := hide ca'; have CR := hide cr; have CC := hide cc; have CU := hide cu; have CL1 := hide cl1; have CL2 := hide cl2; have CW := hide cw
  clear ca ca' cr cc cu cl1 cl2 cw K0 hs h e1 hw hm hoa hob hoc hod ha hb hc hd hk1 hk2 hk3 hk4 hk5 hk6 hem p1 p2 p3 hdl hnl hmn hnw hnw2 hro hev hsm hsm2 hsb htx htx2 hrl hl1 hz1 hsn het hz8 hz2 hz0 hB0
  have W1 := hide w1; have W2 := hide w2; have W3 := hide w3
  clear w1 w2 w3
  go_enter Tryz.func11, Tryz.ntmps11
  have d0 := Cells.new w #[.int .u32 oa, .int .u16 ob, .int .u32 oc, .int .u16 od] 28
  replace d0 := Cells.below (fresh_below (w.alloc (.cells #[.int .u32 oa, .int .u16 ob, .int .u32 oc, .int .u16 od] 28)) (.cells #[.int .u32 a, .int .u16 b, .int .u32 c, .int .u16 d] 28)) d0
  have d1 := Cells.new (w.alloc (.cells #[.int .u32 oa, .int .u16 ob, .int .u32 oc, .int .u16 od] 28)) #[.int .u32 a, .int .u16 b, .int .u32 c, .int .u16 d] 28
  have l0 : Below w.heap.size w ((w.alloc (.cells #[.int .u32 oa, .int .u16 ob, .int .u32 oc, .int .u16 od] 28)).alloc (.cells #[.int .u32 a, .int .u16 b, .int .u32 c, .int .u16 d] 28)) := (bstep (fresh_below _ _) (fresh_below _ _))
  simp only [World.size_alloc] at d1
  have L0 := hide l0; have D0 := hide d0; have D1 := hide d1
  clear l0 d0 d1
  go_upto_region 1 with fail
  have l0 := L0.out; have d0 := D0.out; have d1 := D1.out
  clear L0 D0 D1
  generalize ((w.alloc (.cells #[.int .u32 oa, .int .u16 ob, .int .u32 oc, .int .u16 od] 28)).alloc (.cells #[.int .u32 a, .int .u16 b, .int .u32 c, .int .u16 d] 28)) = w1 at *
  obtain ⟨qd0_0, qd0_1, qd0_2, qd0_3⟩ := d0.q4
  obtain ⟨qd1_0, qd1_1, qd1_2, qd1_3⟩ := d1.q4
  have bb : Below w1.heap.size w1 w1 := Below.refl _ _
  have L0 := hide l0; have D0 := hide d0; have D1 := hide d1
  clear l0 d0 d1
  go_upto_region 4 with (go_at_call 28; (refine (CA.out _ L0.out).mono ?_); rintro e w2 ⟨B, rfl, hB, hE, b2⟩)
  have nn := Cells.new w2 #[.int .u8 m.t, .int .u8 m.c, .int .u16 m.n, .string m.r, .string dt] 64
  have bz := bstep (bstep bb b2) (fresh_below w2 (.cells #[.int .u8 m.t, .int .u8 m.c, .int .u16 m.n, .string m.r, .string dt] 64))
  have he := Cells.below (fresh_below w2 (.cells #[.int .u8 m.t, .int .u8 m.c, .int .u16 m.n, .string m.r, .string dt] 64)) hE
  have hlt := Cells.lt hE
  have hwB : w.heap.size ≤ B := Nat.le_trans L0.out.size hB
  generalize w2.heap.size = g2 at nn hlt ⊢
  generalize (w2.alloc (.cells #[.int .u8 m.t, .int .u8 m.c, .int .u16 m.n, .string m.r, .string dt] 64)) = w3 at *
  have NN := hide nn; have HE := hide he; have LT := hide hlt; have WB := hide hwB
  clear nn he hlt hE b2 hB hwB
  go_upto_region 7 with (go_at_call 15; (with_reducible refine (CR.out _ (bstep L0.out bz)).mono ?_); rintro e w4 ⟨rfl, b4⟩; have b4' := bstep bz b4)
  have HE4 := hide (Cells.below b4 HE.out); have NN4 := hide (Cells.below b4 NN.out)
  clear HE NN CA CR bz b4
  go_upto_region 8 with (go_at_call 31; (refine (CC.out _ _ HE4.out).mono ?_); rintro e w5 ⟨rfl, em5, on5⟩)
  have L5 := hide ((bstep L0.out b4').trans (on5.below (fun j e => by have := WB.out; omega) (bstep L0.out b4').size))
  have nn5 := Cells.only NN4.out on5 (by have := LT.out; omega)
  have E5 := hide em5; have N5 := hide nn5
  clear on5 b4' bb L0 D0 D1 qd0_0 qd0_1 qd0_2 qd0_3 qd1_0 qd1_1 qd1_2 qd1_3 CC HE4 NN4
  unfold emCells at em5
  have qem5_0 : ∀ W', Below w5.heap.size w5 W' → World.cell? W' ⟨B, 0, none⟩ = some (.string sn) := fun W' h => Cells.at_ (Cells.below h em5) 0
  have qnn5_2 : ∀ W', Below w5.heap.size w5 W' → World.cell? W' ⟨g2, 2, none⟩ = some (.int .u16 m.n) := fun W' h => Cells.at_ (Cells.below h nn5) 2
  have qnn5_4 : ∀ W', Below w5.heap.size w5 W' → World.cell? W' ⟨g2, 4, none⟩ = some (.string dt) := fun W' h => Cells.at_ (Cells.below h nn5) 4
  clear em5 nn5
  have bb : Below w5.heap.size w5 w5 := Below.refl _ _
  go_upto_region 9 with fail
  have s9 : Below w5.heap.size w5 w5.drew := Below.drew bb
  focus
    refine wp_region_J [] (fun W => Below w5.heap.size w5 W) (by kernel_rfl) (s9) (fun hS0 => ?_)
    refine tJ 0 rfl hS0 ?_
    (try simp only [Act.put, putS])
    refine tJ 1 rfl hS0 ?_
    (try simp only [Act.put, putS])
    refine tJ 2 rfl hS0 ?_
    (try simp only [Act.put, putS])
    refine tJ 3 rfl hS0 ?_
    (try simp only [Act.put, putS])
    refine tJ 4 rfl hS0 ?_
    (try simp only [Act.put, putS])
    refine tJ 5 rfl hS0 ?_
    (try simp only [Act.put, putS])
    refine tJ 6 rfl hS0 ?_
    (try simp only [Act.put, putS])
    refine tJ 7 rfl hS0 ?_
    (try simp only [Act.put, putS])
    refine tJ 8 rfl hS0 ?_
    (try simp only [Act.put, putS])
    refine tJ 9 rfl hS0 ?_
    (try simp only [Act.put, putS])
    refine tJ 10 rfl hS0 ?_
    (try simp only [Act.put, putS])
    refine tJ 11 rfl hS0 ?_
    (try simp only [Act.put, putS])
    refine tJ 12 rfl hS0 ?_
    (try simp only [Act.put, putS])
    refine rJ [13] ?_
    refine (AllReadyJ.cons rfl (fun K hK => ?_) AllReadyJ.nil)
    rw [if_pos (by kernel_rfl)]
    (try simp only [putG])
    (focus go_simp)
    (focus ((with_reducible refine (CU.out _).mono ?_); rintro e w6 ⟨rfl, b6⟩; have sq := bstep hS0 b6))
    (focus (try go_wp2_with fail))
    refine hK.out _ _ ?hs (fun hS0 => ?_)
    case hs => (first | with_reducible exact hS0 | with_reducible exact sq)
    clear hK K
    (try simp only [Act.put, putS])
    refine tJ 14 rfl hS0 ?_
    (try simp only [Act.put, putS])
    refine wpAnyJ_done (by kernel_rfl) ?_ _
  clear s9 sq b6
  go_upto_region 11 with fail
  have n7 := Cells.new w6 #[.string ro] 77
  have b7 := bstep hS0 (fresh_below w6 (.cells #[.string ro] 77))
  have hg : B < w6.heap.size := Nat.lt_of_lt_of_le (Cells.lt E5.out) hS0.size
  generalize w6.heap.size = g6 at n7 hg ⊢
  generalize (w6.alloc (.cells #[.string ro] 77)) = w7 at *
  have N7 := hide n7; have HG := hide hg; have B7 := hide b7
  clear n7 hg b7 hS0
  have e7 := Cells.below B7.out E5.out
  have E7 := hide e7
  have L7 := hide (bstep L5.out B7.out)
  clear E5 L5 N5 B7 bb qem5_0 qnn5_2 qnn5_4 CU an i1 i2 i3 i4
  unfold emCells at e7
  have qe7_0 : ∀ W', Below w7.heap.size w7 W' → World.cell? W' ⟨B, 0, none⟩ = some (.string sn) := fun W' h => Cells.at_ (Cells.below h e7) 0
  clear e7
  have w1' := W1.out
  have s11 : Below w7.heap.size w7 w7.drew := Below.drew (Below.refl _ _)
  focus
    refine wp_region_J [15] (fun W => Below w7.heap.size w7 W) (by kernel_rfl) (s11) (fun hS0 => ?_)
    refine tJ 0 rfl hS0 ?_
    (try simp only [Act.put, putS])
    refine bJ 1 [1, 2, 9, 15] rfl hS0 ?_
    (try simp only [Act.put, putS])
    refine bJ 2 [2, 9, 15] rfl hS0 ?_
    (try simp only [Act.put, putS])
    refine bJ 3 [3, 4, 5, 6, 7, 8, 9, 15] rfl hS0 ?_
    (try simp only [Act.put, putS])
    refine bJ 4 [4, 5, 6, 7, 8, 9, 15] rfl hS0 ?_
    (try simp only [Act.put, putS])
    refine bJ 5 [5, 6, 7, 8, 9, 15] rfl hS0 ?_
    (try simp only [Act.put, putS])
    refine bJ 6 [6, 7, 8, 9, 15] rfl hS0 ?_
    (try simp only [Act.put, putS])
    refine bJ 7 [7, 8, 9, 15] rfl hS0 ?_
    (try simp only [Act.put, putS])
    refine bJ 8 [8, 9, 15] rfl hS0 ?_
    (try simp only [Act.put, putS])
    refine tJ 9 rfl hS0 ?_
    (try simp only [Act.put, putS])
    refine bJ 10 [10, 11, 12, 13, 14, 15] rfl hS0 ?_
    (try simp only [Act.put, putS])
    refine bJ 11 [11, 12, 13, 14, 15] rfl hS0 ?_
    (try simp only [Act.put, putS])
    refine bJ 12 [12, 13, 14, 15] rfl hS0 ?_
    (try simp only [Act.put, putS])
    refine bJ 13 [13, 14, 15] rfl hS0 ?_
    (try simp only [Act.put, putS])
    refine tJ 14 rfl hS0 ?_
    (try simp only [Act.put, putS])
    refine rJ [15] ?_
    refine (AllReadyJ.last rfl (by kernel_rfl) (fun K hK => ?_) AllReadyJ.nil)
    rw [if_pos (by kernel_rfl)]
    (try simp only [putG])
    (focus go_simp)
    (focus ((refine (CL1.out _ _ (Cells.below hS0 N7.out)).mono ?_); rintro e w8 ⟨rfl, n8, on8⟩))
    (focus (try go_wp2_with fail))
    refine hK.out _ _ ?_
    clear hK K
    (try simp only [Act.put, putS])
    refine wpAnyJ_done (by kernel_rfl) ?_ _
  have L8 := hide ((bstep L7.out hS0).trans (on8.below (fun j e => by have := WB.out; have := HG.out; omega) (bstep L7.out hS0).size))
  have e8 := Cells.only (Cells.below hS0 E7.out) on8 (by have := HG.out; omega)
  have N8 := hide n8
  clear s11 hS0 on8 n8 N7 E7 L7 CL1 qe7_0
  unfold emCells at e8
  have qe8_0 : ∀ W', Below w8.heap.size w8 W' → World.cell? W' ⟨B, 0, none⟩ = some (.string sn) := fun W' h => Cells.at_ (Cells.below h e8) 0
  clear e8
  have w2' := W2.out; have w3' := W3.out
  go_upto_region 12 with fail
  have s12 : Below w8.heap.size w8 w8.drew := Below.drew (Below.refl _ _)
  focus
    refine wp_region_J [15] (fun W => Below w8.heap.size w8 W) (by kernel_rfl) (s12) (fun hS0 => ?_)
    refine tJ 0 rfl hS0 ?_
    (try simp only [Act.put, putS])
    refine bJ 1 [1, 2, 9, 10, 11, 15] rfl hS0 ?_
    (try simp only [Act.put, putS])
    refine bJ 2 [2, 9, 10, 11, 15] rfl hS0 ?_
    (try simp only [Act.put, putS])
    refine bJ 3 [3, 4, 5, 6, 7, 8, 9, 10, 11, 15] rfl hS0 ?_
    (try simp only [Act.put, putS])
    refine bJ 4 [4, 5, 6, 7, 8, 9, 10, 11, 15] rfl hS0 ?_
    (try simp only [Act.put, putS])
    refine bJ 5 [5, 6, 7, 8, 9, 10, 11, 15] rfl hS0 ?_
    (try simp only [Act.put, putS])
    refine bJ 6 [6, 7, 8, 9, 10, 11, 15] rfl hS0 ?_
    (try simp only [Act.put, putS])
    refine bJ 7 [7, 8, 9, 10, 11, 15] rfl hS0 ?_
    (try simp only [Act.put, putS])
    refine bJ 8 [8, 9, 10, 11, 15] rfl hS0 ?_
    (try simp only [Act.put, putS])
    refine bJ 9 [9, 10, 11, 15] rfl hS0 ?_
    (try simp only [Act.put, putS])
    refine bJ 10 [10, 11, 15] rfl hS0 ?_
    (try simp only [Act.put, putS])
    refine tJ 11 rfl hS0 ?_
    (try simp only [Act.put, putS])
    refine bJ 12 [12, 13, 14, 15] rfl hS0 ?_
    (try simp only [Act.put, putS])
    refine rJ [13] ?_
    refine (AllReadyJ.cons rfl (fun K hK => ?_) AllReadyJ.nil)
    rw [if_pos (by kernel_rfl)]
    (try simp only [putG])
    (focus go_simp)
    refine hK.out _ _ ?hs (fun hS0 => ?_)
    case hs => (first | with_reducible exact hS0 | with_reducible exact sq | exact bstep hS0 (fresh_below _ _))
    clear hK K
    (try simp only [Act.put, putS])
    refine rJ [14] ?_
    refine (AllReadyJ.cons rfl (fun K hK => ?_) AllReadyJ.nil)
    rw [if_pos (by kernel_rfl)]
    (try simp only [putG])
    (focus go_simp)
    (focus ((refine (CW.out _ _ (by (repeat' (first | with_reducible refine Row.afterdraw ?_ | with_reducible exact Row.freshAt _ _ _ _ _ _ (by simp) rfl rfl | (with_reducible refine Row.rise ?_ (fresh_below _ _)))))).mono ?_); rintro e w9 ⟨rfl, b9⟩; have sq := bstep hS0 b9))
    (focus (try go_wp2_with fail))
    refine hK.out _ _ ?hs (fun hS0 => ?_)
    case hs => (first | with_reducible exact hS0 | with_reducible exact sq | exact bstep hS0 (fresh_below _ _))
    clear hK K
    (try simp only [Act.put, putS])
    refine rJ [15] ?_
    refine (AllReadyJ.last rfl (by kernel_rfl) (fun K hK => ?_) AllReadyJ.nil)
    rw [if_pos (by kernel_rfl)]
    (try simp only [putG])
    (focus go_simp)
    (focus ((refine (CL2.out _ _ (Cells.below hS0 N8.out)).mono ?_); rintro e w10 ⟨rfl, n10, on10⟩))
    (focus (try go_wp2_with fail))
    refine hK.out _ _ ?_
    clear hK K
    (try simp only [Act.put, putS])
    refine wpAnyJ_done (by kernel_rfl) ?_ _
  have y0 : w10.cell? ⟨g6, 0, none⟩ = some (.string tx) := n10.at_ 0
  have lw := (bstep L8.out hS0).trans (on10.below (fun j e => by have := WB.out; have := HG.out; omega) (bstep L8.out hS0).size)
  have LW := hide lw
  clear s12 lw hS0 on10 n10
  go_wp2_with fail
  go_ret2
  exact ⟨rfl, LW.out⟩
end Go.Proofs.YtjeaknipmdfkdaaGreatDoor
end

section
/- The chapter's examples of errors: told, walked. -/
set_option linter.unusedVariables false
set_option linter.unusedSimpArgs false
namespace Go.Proofs.YtjeaknipmdfkdaaGreatDoor
open Go.RowKit Go.Maps
attribute [local go_sem] Oper.semAt_some

theorem Cells.newB {n : Nat} {w W : World} (h : Below n w W) (cs : Array Value) (T : TypeId) : Cells (W.alloc (.cells cs T)) W.heap.size cs T := Cells.new W cs T
theorem ti_s (w : World) (K : Kinds w) : Calls Tryz.prog 9 #[.string { data := #[69, 0, 0, 61, 0, 0, 0, 0, 64, 1, 108, 186, 1, 2, 3, 4, 10, 0, 0, 1, 3, 1, 11, 36, 0, 0, 0, 0, 69, 0, 0, 33, 0, 0, 0, 0, 64, 17, 108, 198, 10, 0, 0, 1, 1, 2, 3, 4, 0, 5, 0, 53, 0, 13, 161, 171, 113, 117, 101, 114, 121] }] w (Ret (.tuple #[.agg #[.int .u8 17, .int .u32 167772161, .int .u16 5, .int .u32 16909060, .int .u16 53], .int .i64 0]) w) := by
  have c := e_Inner w { data := #[69, 0, 0, 61, 0, 0, 0, 0, 64, 1, 108, 186, 1, 2, 3, 4, 10, 0, 0, 1, 3, 1, 11, 36, 0, 0, 0, 0, 69, 0, 0, 33, 0, 0, 0, 0, 64, 17, 108, 198, 10, 0, 0, 1, 1, 2, 3, 4, 0, 5, 0, 53, 0, 13, 161, 171, 113, 117, 101, 114, 121] } K (by decide)
  rw [told_s.2, told_s.1] at c
  exact c
theorem ti_u (w : World) (K : Kinds w) : Calls Tryz.prog 9 #[.string { data := #[69, 0, 0, 61, 0, 0, 0, 0, 63, 1, 107, 173, 1, 2, 3, 4, 5, 6, 7, 8, 3, 1, 13, 49, 0, 0, 0, 0, 69, 0, 0, 33, 0, 0, 0, 0, 64, 17, 106, 185, 5, 6, 7, 8, 1, 2, 3, 4, 35, 40, 0, 53, 0, 13, 124, 123, 113, 117, 101, 114, 121] }] w (Ret (.tuple #[.agg #[.int .u8 17, .int .u32 84281096, .int .u16 9000, .int .u32 16909060, .int .u16 53], .int .i64 0]) w) := by
  have c := e_Inner w { data := #[69, 0, 0, 61, 0, 0, 0, 0, 63, 1, 107, 173, 1, 2, 3, 4, 5, 6, 7, 8, 3, 1, 13, 49, 0, 0, 0, 0, 69, 0, 0, 33, 0, 0, 0, 0, 64, 17, 106, 185, 5, 6, 7, 8, 1, 2, 3, 4, 35, 40, 0, 53, 0, 13, 124, 123, 113, 117, 101, 114, 121] } K (by decide)
  rw [told_u.2, told_u.1] at c
  exact c
theorem ti_h (w : World) (K : Kinds w) : Calls Tryz.prog 9 #[.string { data := #[69, 0, 0, 55, 0, 0, 0, 0, 64, 1, 108, 192, 1, 2, 3, 4, 10, 0, 0, 1, 3, 1, 91, 183, 0, 0, 0, 0, 69, 0, 0, 33, 0, 0, 0, 0, 64, 17, 108, 198, 10, 0, 0, 1, 1, 2, 3, 4, 0, 5, 0, 53, 0, 13, 161] }] w (Ret (.tuple #[.agg #[.int .u8 0, .int .u32 0, .int .u16 0, .int .u32 0, .int .u16 0], .int .i64 15]) w) := by
  have c := e_Inner w { data := #[69, 0, 0, 55, 0, 0, 0, 0, 64, 1, 108, 192, 1, 2, 3, 4, 10, 0, 0, 1, 3, 1, 91, 183, 0, 0, 0, 0, 69, 0, 0, 33, 0, 0, 0, 0, 64, 17, 108, 198, 10, 0, 0, 1, 1, 2, 3, 4, 0, 5, 0, 53, 0, 13, 161] } K (by decide)
  have e : inTup { data := #[69, 0, 0, 55, 0, 0, 0, 0, 64, 1, 108, 192, 1, 2, 3, 4, 10, 0, 0, 1, 3, 1, 91, 183, 0, 0, 0, 0, 69, 0, 0, 33, 0, 0, 0, 0, 64, 17, 108, 198, 10, 0, 0, 1, 1, 2, 3, 4, 0, 5, 0, 53, 0, 13, 161] } = ⟨0, 0, 0, 0, 0⟩ := by unfold inTup; rw [told_h, if_neg (by decide)]
  rw [e, told_h] at c
  exact c
theorem ti_i (w : World) (K : Kinds w) : Calls Tryz.prog 9 #[.string { data := #[69, 0, 0, 33, 0, 0, 0, 0, 64, 17, 108, 198, 10, 0, 0, 1, 1, 2, 3, 4, 0, 5, 0, 53, 0, 13, 161, 171, 113, 117, 101, 114, 121] }] w (Ret (.tuple #[.agg #[.int .u8 0, .int .u32 0, .int .u16 0, .int .u32 0, .int .u16 0], .int .i64 15]) w) := by
  have c := e_Inner w { data := #[69, 0, 0, 33, 0, 0, 0, 0, 64, 17, 108, 198, 10, 0, 0, 1, 1, 2, 3, 4, 0, 5, 0, 53, 0, 13, 161, 171, 113, 117, 101, 114, 121] } K (by decide)
  have e : inTup { data := #[69, 0, 0, 33, 0, 0, 0, 0, 64, 17, 108, 198, 10, 0, 0, 1, 1, 2, 3, 4, 0, 5, 0, 53, 0, 13, 161, 171, 113, 117, 101, 114, 121] } = ⟨0, 0, 0, 0, 0⟩ := by unfold inTup; rw [told_i, if_neg (by decide)]
  rw [e, told_i] at c
  exact c
theorem ti_j (w : World) (K : Kinds w) : Calls Tryz.prog 9 #[.string { data := #[69, 0, 0, 89, 0, 0, 0, 0, 64, 1, 108, 158, 1, 2, 3, 4, 10, 0, 0, 1, 3, 1, 252, 254, 0, 0, 0, 0, 69, 0, 0, 61, 0, 0, 0, 0, 64, 1, 108, 186, 1, 2, 3, 4, 10, 0, 0, 1, 3, 1, 11, 36, 0, 0, 0, 0, 69, 0, 0, 33, 0, 0, 0, 0, 64, 17, 108, 198, 10, 0, 0, 1, 1, 2, 3, 4, 0, 5, 0, 53, 0, 13, 161, 171, 113, 117, 101, 114, 121] }] w (Ret (.tuple #[.agg #[.int .u8 0, .int .u32 0, .int .u16 0, .int .u32 0, .int .u16 0], .int .i64 15]) w) := by
  have c := e_Inner w { data := #[69, 0, 0, 89, 0, 0, 0, 0, 64, 1, 108, 158, 1, 2, 3, 4, 10, 0, 0, 1, 3, 1, 252, 254, 0, 0, 0, 0, 69, 0, 0, 61, 0, 0, 0, 0, 64, 1, 108, 186, 1, 2, 3, 4, 10, 0, 0, 1, 3, 1, 11, 36, 0, 0, 0, 0, 69, 0, 0, 33, 0, 0, 0, 0, 64, 17, 108, 198, 10, 0, 0, 1, 1, 2, 3, 4, 0, 5, 0, 53, 0, 13, 161, 171, 113, 117, 101, 114, 121] } K (by decide)
  have e : inTup { data := #[69, 0, 0, 89, 0, 0, 0, 0, 64, 1, 108, 158, 1, 2, 3, 4, 10, 0, 0, 1, 3, 1, 252, 254, 0, 0, 0, 0, 69, 0, 0, 61, 0, 0, 0, 0, 64, 1, 108, 186, 1, 2, 3, 4, 10, 0, 0, 1, 3, 1, 11, 36, 0, 0, 0, 0, 69, 0, 0, 33, 0, 0, 0, 0, 64, 17, 108, 198, 10, 0, 0, 1, 1, 2, 3, 4, 0, 5, 0, 53, 0, 13, 161, 171, 113, 117, 101, 114, 121] } = ⟨0, 0, 0, 0, 0⟩ := by unfold inTup; rw [told_j, if_neg (by decide)]
  rw [e, told_j] at c
  exact c
theorem tr_s (w : World) (K : Kinds w) : Calls Tryz.prog 11 #[.string { data := #[69, 0, 0, 61, 0, 0, 0, 0, 64, 1, 108, 186, 1, 2, 3, 4, 10, 0, 0, 1, 3, 1, 11, 36, 0, 0, 0, 0, 69, 0, 0, 33, 0, 0, 0, 0, 64, 17, 108, 198, 10, 0, 0, 1, 1, 2, 3, 4, 0, 5, 0, 53, 0, 13, 161, 171, 113, 117, 101, 114, 121] }, .agg #[.int .u32 16909060, .int .u16 0, .int .u32 84281096, .int .u16 0], .agg #[.int .u32 84281096, .int .u16 9000, .int .u32 16909060, .int .u16 53]] w (Ret (.tuple #[.string { data := #[69, 0, 0, 61, 0, 0, 0, 0, 63, 1, 107, 173, 1, 2, 3, 4, 5, 6, 7, 8, 3, 1, 13, 49, 0, 0, 0, 0, 69, 0, 0, 33, 0, 0, 0, 0, 64, 17, 106, 185, 5, 6, 7, 8, 1, 2, 3, 4, 35, 40, 0, 53, 0, 13, 124, 123, 113, 117, 101, 114, 121] }, .int .i64 0]) w) := by
  have c := e_Translate 16909060 0 84281096 0 84281096 9000 16909060 53 { data := #[69, 0, 0, 61, 0, 0, 0, 0, 64, 1, 108, 186, 1, 2, 3, 4, 10, 0, 0, 1, 3, 1, 11, 36, 0, 0, 0, 0, 69, 0, 0, 33, 0, 0, 0, 0, 64, 17, 108, 198, 10, 0, 0, 1, 1, 2, 3, 4, 0, 5, 0, 53, 0, 13, 161, 171, 113, 117, 101, 114, 121] } w K (by decide) (by decide) (by decide) (by decide) (by decide) (by decide) (by decide) (by decide) (by decide)
  rw [told_t.2, told_t.1] at c
  exact c
set_option maxRecDepth 100000 in
set_option maxHeartbeats 8000000 in
theorem tolds (w : World) (hTb : Tabs w) : Calls Tryz.prog 8 #[] w (Ret (.bool true) w) := by
  have KK := hide (show Kinds w from hTb.1); have TB := hide hTb
  have M0 := hide tl_made; have S0 := hide tl_s; have SH := hide tl_h; have SJ := hide tl_j
  have IS := hide ti_s; have IU := hide ti_u; have IH := hide ti_h; have II := hide ti_i; have IJ := hide ti_j; have TR := hide tr_s
  have TX := hide tuple_text; have TX2 := hide tuple_text2
  clear hTb
  go_enter Tryz.func8, Tryz.ntmps8
  have d1 := Cells.new w #[.int .u32 167772161, .int .u16 5] 26
  replace d1 := Cells.below (fresh_below (w.alloc (.cells #[.int .u32 167772161, .int .u16 5] 26)) (.cells #[.int .u32 16909060, .int .u16 53] 26)) d1
  have d2 := Cells.new (w.alloc (.cells #[.int .u32 167772161, .int .u16 5] 26)) #[.int .u32 16909060, .int .u16 53] 26
  have l0 : Below w.heap.size w ((w.alloc (.cells #[.int .u32 167772161, .int .u16 5] 26)).alloc (.cells #[.int .u32 16909060, .int .u16 53] 26)) := (bstep (fresh_below _ _) (fresh_below _ _))
  simp only [World.size_alloc] at d2
  have L0 := hide l0; have D1 := hide d1; have D2 := hide d2
  clear l0 d1 d2
  go_upto_region 2 with fail
  have l0 := L0.out; have d1 := D1.out; have d2 := D2.out
  clear L0 D1 D2
  generalize ((w.alloc (.cells #[.int .u32 167772161, .int .u16 5] 26)).alloc (.cells #[.int .u32 16909060, .int .u16 53] 26)) = wa at *
  have qd1_0 : ∀ W', Below wa.heap.size wa W' → World.cell? W' ⟨w.heap.size, 0, none⟩ = some (.int .u32 167772161) := fun W' h => Cells.at_ (Cells.below h d1) 0
  have qd1_1 : ∀ W', Below wa.heap.size wa W' → World.cell? W' ⟨w.heap.size, 1, none⟩ = some (.int .u16 5) := fun W' h => Cells.at_ (Cells.below h d1) 1
  have qd2_0 : ∀ W', Below wa.heap.size wa W' → World.cell? W' ⟨w.heap.size + 1, 0, none⟩ = some (.int .u32 16909060) := fun W' h => Cells.at_ (Cells.below h d2) 0
  have qd2_1 : ∀ W', Below wa.heap.size wa W' → World.cell? W' ⟨w.heap.size + 1, 1, none⟩ = some (.int .u16 53) := fun W' h => Cells.at_ (Cells.below h d2) 1
  have bb : Below wa.heap.size wa wa := Below.refl _ _
  have L0 := hide l0; have D1 := hide d1; have D2 := hide d2
  clear l0 d1 d2
  clear bb qd1_0 qd1_1 qd2_0 qd2_1
  have ud1 := D1.out
  have xud1_0 : wa.cell? ⟨w.heap.size, 0, none⟩ = some (.int .u32 167772161) := ud1.at_ 0
  have xud1_1 : wa.cell? ⟨w.heap.size, 1, none⟩ = some (.int .u16 5) := ud1.at_ 1
  clear ud1
  have ud2 := D2.out
  have xud2_0 : wa.cell? ⟨w.heap.size + 1, 0, none⟩ = some (.int .u32 16909060) := ud2.at_ 0
  have xud2_1 : wa.cell? ⟨w.heap.size + 1, 1, none⟩ = some (.int .u16 53) := ud2.at_ 1
  clear ud2
  go_upto_region 3 with (go_at_call 25; (with_reducible refine (M0.out _).mono ?_); rintro e2 w2 ⟨rfl, b2⟩)
  clear xud1_0 xud1_1 xud2_0 xud2_1
  have bn := b2
  replace D1 := hide (Cells.below bn D1.out)
  replace D2 := hide (Cells.below bn D2.out)
  replace L0 := hide (bstep L0.out bn)
  clear bn b2
  generalize w2 = wb at *
  have ud1 := D1.out
  have xud1_0 : wb.cell? ⟨w.heap.size, 0, none⟩ = some (.int .u32 167772161) := ud1.at_ 0
  have xud1_1 : wb.cell? ⟨w.heap.size, 1, none⟩ = some (.int .u16 5) := ud1.at_ 1
  clear ud1
  have ud2 := D2.out
  have xud2_0 : wb.cell? ⟨w.heap.size + 1, 0, none⟩ = some (.int .u32 16909060) := ud2.at_ 0
  have xud2_1 : wb.cell? ⟨w.heap.size + 1, 1, none⟩ = some (.int .u16 53) := ud2.at_ 1
  clear ud2
  go_upto_region 4 with (go_at_call 26; (with_reducible refine (S0.out _).mono ?_); rintro e2 w2 ⟨rfl, b2⟩)
  clear xud1_0 xud1_1 xud2_0 xud2_1
  have bn := b2
  replace D1 := hide (Cells.below bn D1.out)
  replace D2 := hide (Cells.below bn D2.out)
  replace L0 := hide (bstep L0.out bn)
  clear bn b2
  generalize w2 = wc at *
  go_upto_region 5 with (go_at_call 9; (with_reducible refine (IS.out _ (KK.out.below L0.out)).mono ?_); rintro e2 w2 ⟨rfl, b2⟩)
  have nn := Cells.new w2 #[.int .u8 17, .int .u32 167772161, .int .u16 5, .int .u32 16909060, .int .u16 53] 33
  have bn : Below wc.heap.size wc (w2.alloc (.cells #[.int .u8 17, .int .u32 167772161, .int .u16 5, .int .u32 16909060, .int .u16 53] 33)) := bstep b2 (fresh_below _ _)
  replace D1 := hide (Cells.below bn D1.out)
  replace D2 := hide (Cells.below bn D2.out)
  replace L0 := hide (bstep L0.out bn)
  clear bn b2
  generalize w2.heap.size = g5 at nn ⊢
  generalize (w2.alloc (.cells #[.int .u8 17, .int .u32 167772161, .int .u16 5, .int .u32 16909060, .int .u16 53] 33)) = wd at *
  have kg5 := Cells.lt nn
  have D5 := hide nn
  clear nn
  have ud2 := D2.out
  have xud2_0 : wd.cell? ⟨w.heap.size + 1, 0, none⟩ = some (.int .u32 16909060) := ud2.at_ 0
  have xud2_1 : wd.cell? ⟨w.heap.size + 1, 1, none⟩ = some (.int .u16 53) := ud2.at_ 1
  clear ud2
  go_upto_region 6 with fail
  clear xud2_0 xud2_1
  have nn := Cells.new wd #[.int .u32 84281096, .int .u16 9000, .int .u32 16909060, .int .u16 53] 28
  have bn : Below wd.heap.size wd (wd.alloc (.cells #[.int .u32 84281096, .int .u16 9000, .int .u32 16909060, .int .u16 53] 28)) := fresh_below _ _
  replace D1 := hide (Cells.below bn D1.out)
  replace D2 := hide (Cells.below bn D2.out)
  replace D5 := hide (Cells.below bn D5.out)
  replace L0 := hide (bstep L0.out bn)
  clear bn
  generalize wd.heap.size = g7 at nn ⊢
  generalize (wd.alloc (.cells #[.int .u32 84281096, .int .u16 9000, .int .u32 16909060, .int .u16 53] 28)) = we at *
  have kg7 := Cells.lt nn
  have D7 := hide nn
  clear nn
  have ud2 := D2.out
  have xud2_0 : we.cell? ⟨w.heap.size + 1, 0, none⟩ = some (.int .u32 16909060) := ud2.at_ 0
  have xud2_1 : we.cell? ⟨w.heap.size + 1, 1, none⟩ = some (.int .u16 53) := ud2.at_ 1
  clear ud2
  go_upto_region 7 with fail
  clear xud2_0 xud2_1
  have nn := Cells.new we #[.int .u32 16909060, .int .u16 0, .int .u32 84281096, .int .u16 0] 28
  have bn : Below we.heap.size we (we.alloc (.cells #[.int .u32 16909060, .int .u16 0, .int .u32 84281096, .int .u16 0] 28)) := fresh_below _ _
  replace D1 := hide (Cells.below bn D1.out)
  replace D2 := hide (Cells.below bn D2.out)
  replace D5 := hide (Cells.below bn D5.out)
  replace D7 := hide (Cells.below bn D7.out)
  replace L0 := hide (bstep L0.out bn)
  clear bn
  generalize we.heap.size = g8 at nn ⊢
  generalize (we.alloc (.cells #[.int .u32 16909060, .int .u16 0, .int .u32 84281096, .int .u16 0] 28)) = wf at *
  have kg8 := Cells.lt nn
  have D8 := hide nn
  clear nn
  have ud7 := D7.out
  obtain ⟨xud7_0, xud7_1, xud7_2, xud7_3⟩ := ud7.x4
  clear ud7
  have ud8 := D8.out
  obtain ⟨xud8_0, xud8_1, xud8_2, xud8_3⟩ := ud8.x4
  clear ud8
  go_upto_region 8 with (go_at_call 11; (with_reducible refine (TR.out _ (KK.out.below L0.out)).mono ?_); rintro e2 w2 ⟨rfl, b2⟩)
  clear xud7_0 xud7_1 xud7_2 xud7_3 xud8_0 xud8_1 xud8_2 xud8_3
  have bn := b2
  replace D1 := hide (Cells.below bn D1.out)
  replace D2 := hide (Cells.below bn D2.out)
  replace D5 := hide (Cells.below bn D5.out)
  replace L0 := hide (bstep L0.out bn)
  clear bn b2
  generalize w2 = wg at *
  go_upto_region 9 with (go_at_call 9; (with_reducible refine (IU.out _ (KK.out.below L0.out)).mono ?_); rintro e2 w2 ⟨rfl, b2⟩)
  have nn := Cells.new w2 #[.int .u8 17, .int .u32 84281096, .int .u16 9000, .int .u32 16909060, .int .u16 53] 33
  have bn : Below wg.heap.size wg (w2.alloc (.cells #[.int .u8 17, .int .u32 84281096, .int .u16 9000, .int .u32 16909060, .int .u16 53] 33)) := bstep b2 (fresh_below _ _)
  replace D1 := hide (Cells.below bn D1.out)
  replace D2 := hide (Cells.below bn D2.out)
  replace D5 := hide (Cells.below bn D5.out)
  replace L0 := hide (bstep L0.out bn)
  clear bn b2
  generalize w2.heap.size = g9 at nn ⊢
  generalize (w2.alloc (.cells #[.int .u8 17, .int .u32 84281096, .int .u16 9000, .int .u32 16909060, .int .u16 53] 33)) = wh at *
  have kg9 := Cells.lt nn
  have D9 := hide nn
  clear nn
  have d1 := D1.out; have d2 := D2.out; have l0 := L0.out
  have y10 : ∀ W, Below wh.heap.size wh W → W.cell? ⟨w.heap.size, 0, none⟩ = some (.int .u32 167772161) := fun W h => (Cells.below h d1).at_ 0
  have y20 : ∀ W, Below wh.heap.size wh W → W.cell? ⟨w.heap.size + 1, 0, none⟩ = some (.int .u32 16909060) := fun W h => (Cells.below h d2).at_ 0
  have sA : Below wh.heap.size wh wh.drew := Below.drew (Below.refl _ _)
  clear d1 d2 l0
  have hx27 : ({ data := #[69, 0, 0, 33, 0, 0, 0, 0, 64, 17, 108, 198, 10, 0, 0, 1, 1, 2, 3, 4, 0, 5, 0, 53, 0, 13, 161, 171, 113, 117, 101, 114, 121] } : ByteArray).extract 0 27 = { data := #[69, 0, 0, 33, 0, 0, 0, 0, 64, 17, 108, 198, 10, 0, 0, 1, 1, 2, 3, 4, 0, 5, 0, 53, 0, 13, 161] } := by kernel_rfl
  have HX := hide hx27
  clear hx27
  focus
    refine wp_region_J [] (fun W => Below wh.heap.size wh W) (by kernel_rfl) (sA) (fun hS0 => ?_)
    refine tJ 0 rfl hS0 ?_
    (try simp only [Act.put, putS])
    refine tJ 1 rfl hS0 ?_
    (try simp only [Act.put, putS])
    refine tJ 2 rfl hS0 ?_
    (try simp only [Act.put, putS])
    refine tJ 3 rfl hS0 ?_
    (try simp only [Act.put, putS])
    refine tJ 4 rfl hS0 ?_
    (try simp only [Act.put, putS])
    refine tJ 5 rfl hS0 ?_
    (try simp only [Act.put, putS])
    refine rJ [6, 11] ?_
    refine (AllReadyJ.cons rfl (fun K hK => ?_) (AllReadyJ.cons rfl (fun K hK => ?_) AllReadyJ.nil))
    rw [if_pos (by kernel_rfl)]
    (try simp only [putG])
    (focus go_simp)
    (focus ((try dsimp only); (try rw [HX.out]); (with_reducible refine (SH.out _).mono ?_); rintro e wi ⟨rfl, ba⟩; have sq := bstep hS0 ba; (try replace dz := Cells.below ba dz)))
    (focus (try go_wp2_with fail))
    refine hK.out _ _ ?hs (fun hS0 => ?_)
    case hs => (first | with_reducible exact hS0 | with_reducible exact sq | with_reducible exact bstep hS0 (fresh_below _ _) | (repeat' (first | with_reducible exact hS0 | with_reducible refine Below.setCell ?_ (by first | exact zz | (dsimp only; omega)) _)))
    clear hK K
    (try simp only [Act.put, putS])
    refine rJ [7, 11] ?_
    refine (AllReadyJ.cons rfl (fun K hK => ?_) (AllReadyJ.cons rfl (fun K hK => ?_) AllReadyJ.nil))
    rw [if_pos (by kernel_rfl)]
    (try simp only [putG])
    (focus go_simp)
    (focus ((with_reducible refine (IH.out _ (KK.out.below (bstep L0.out hS0))).mono ?_); rintro e wj ⟨rfl, ba⟩; have sq := bstep hS0 ba; (try replace dz := Cells.below ba dz)))
    (focus (try go_wp2_with fail))
    refine hK.out _ _ ?hs (fun hS0 => ?_)
    case hs => (first | with_reducible exact hS0 | with_reducible exact sq | with_reducible exact bstep hS0 (fresh_below _ _) | (repeat' (first | with_reducible exact hS0 | with_reducible refine Below.setCell ?_ (by first | exact zz | (dsimp only; omega)) _)))
    clear hK K
    (try simp only [Act.put, putS])
    refine tJ 8 rfl hS0 ?_
    (try simp only [Act.put, putS])
    refine tJ 9 rfl hS0 ?_
    (try simp only [Act.put, putS])
    refine tJ 10 rfl hS0 ?_
    (try simp only [Act.put, putS])
    refine rJ [11] ?_
    refine (AllReadyJ.cons rfl (fun K hK => ?_) AllReadyJ.nil)
    (focus (rw [if_pos (by kernel_rfl)]; (try simp only [putG]); (focus go_simp); have dz := Cells.newB hS0 #[.int .u8 0, .int .u32 0, .int .u16 0, .int .u32 0, .int .u16 0] 33; have zz := Below.size hS0; (try rw [show wh.drew.heap.size = wh.heap.size from rfl] at dz)))
    (focus (try go_wp2_with fail))
    refine hK.out _ _ ?hs (fun hS0 => ?_)
    case hs => (first | with_reducible exact hS0 | with_reducible exact sq | with_reducible exact bstep hS0 (fresh_below _ _) | (repeat' (first | with_reducible exact hS0 | with_reducible refine Below.setCell ?_ (by first | exact zz | (dsimp only; omega)) _)))
    clear hK K
    (try simp only [Act.put, putS])
    refine rJ [12] ?_
    refine (AllReadyJ.cons rfl (fun K hK => ?_) AllReadyJ.nil)
    (focus (rw [if_pos (by kernel_rfl)]; (try simp only [putG]); have x0 : World.cell? _ ⟨_, 0, none⟩ = some (.int .u8 0) := dz.at_ 0; have f0 := dz.free 0; have x1 : World.cell? _ ⟨_, 1, none⟩ = some (.int .u32 0) := dz.at_ 1; have f1 := dz.free 1; have x2 : World.cell? _ ⟨_, 2, none⟩ = some (.int .u16 0) := dz.at_ 2; have f2 := dz.free 2; have x3 : World.cell? _ ⟨_, 3, none⟩ = some (.int .u32 0) := dz.at_ 3; have f3 := dz.free 3; have x4 : World.cell? _ ⟨_, 4, none⟩ = some (.int .u16 0) := dz.at_ 4; have f4 := dz.free 4; (focus go_simp); clear x0 x1 x2 x3 x4 f0 f1 f2 f3 f4))
    (focus (try go_wp2_with fail))
    refine hK.out _ _ ?hs (fun hS0 => ?_)
    case hs => (first | with_reducible exact hS0 | with_reducible exact sq | with_reducible exact bstep hS0 (fresh_below _ _) | (repeat' (first | with_reducible exact hS0 | with_reducible refine Below.setCell ?_ (by first | exact zz | (dsimp only; omega)) _)))
    clear hK K
    (try simp only [Act.put, putS])
    refine tJ 13 rfl hS0 ?_
    (try simp only [Act.put, putS])
    refine wpAnyJ_done (by kernel_rfl) ?_ _
    rotate_left 1
    (focus (rw [if_pos (by kernel_rfl)]; (try simp only [putG]); (focus go_simp); have dz := Cells.newB hS0 #[.int .u8 0, .int .u32 0, .int .u16 0, .int .u32 0, .int .u16 0] 33; have zz := Below.size hS0; (try rw [show wh.drew.heap.size = wh.heap.size from rfl] at dz)))
    (focus (try go_wp2_with fail))
    refine hK.out _ _ ?hs (fun hS0 => ?_)
    case hs => (first | with_reducible exact hS0 | with_reducible exact sq | with_reducible exact bstep hS0 (fresh_below _ _) | (repeat' (first | with_reducible exact hS0 | with_reducible refine Below.setCell ?_ (by first | exact zz | (dsimp only; omega)) _)))
    clear hK K
    (try simp only [Act.put, putS])
    refine rJ [7] ?_
    refine (AllReadyJ.cons rfl (fun K hK => ?_) AllReadyJ.nil)
    rw [if_pos (by kernel_rfl)]
    (try simp only [putG])
    (focus go_simp)
    (focus ((with_reducible refine (IH.out _ (KK.out.below (bstep L0.out hS0))).mono ?_); rintro e wj ⟨rfl, ba⟩; have sq := bstep hS0 ba; (try replace dz := Cells.below ba dz)))
    (focus (try go_wp2_with fail))
    refine hK.out _ _ ?hs (fun hS0 => ?_)
    case hs => (first | with_reducible exact hS0 | with_reducible exact sq | with_reducible exact bstep hS0 (fresh_below _ _) | (repeat' (first | with_reducible exact hS0 | with_reducible refine Below.setCell ?_ (by first | exact zz | (dsimp only; omega)) _)))
    clear hK K
    (try simp only [Act.put, putS])
    refine tJ 8 rfl hS0 ?_
    (try simp only [Act.put, putS])
    refine tJ 9 rfl hS0 ?_
    (try simp only [Act.put, putS])
    refine tJ 10 rfl hS0 ?_
    (try simp only [Act.put, putS])
    refine rJ [12] ?_
    refine (AllReadyJ.cons rfl (fun K hK => ?_) AllReadyJ.nil)
    (focus (rw [if_pos (by kernel_rfl)]; (try simp only [putG]); have x0 : World.cell? _ ⟨_, 0, none⟩ = some (.int .u8 0) := dz.at_ 0; have f0 := dz.free 0; have x1 : World.cell? _ ⟨_, 1, none⟩ = some (.int .u32 0) := dz.at_ 1; have f1 := dz.free 1; have x2 : World.cell? _ ⟨_, 2, none⟩ = some (.int .u16 0) := dz.at_ 2; have f2 := dz.free 2; have x3 : World.cell? _ ⟨_, 3, none⟩ = some (.int .u32 0) := dz.at_ 3; have f3 := dz.free 3; have x4 : World.cell? _ ⟨_, 4, none⟩ = some (.int .u16 0) := dz.at_ 4; have f4 := dz.free 4; (focus go_simp); clear x0 x1 x2 x3 x4 f0 f1 f2 f3 f4))
    (focus (try go_wp2_with fail))
    refine hK.out _ _ ?hs (fun hS0 => ?_)
    case hs => (first | with_reducible exact hS0 | with_reducible exact sq | with_reducible exact bstep hS0 (fresh_below _ _) | (repeat' (first | with_reducible exact hS0 | with_reducible refine Below.setCell ?_ (by first | exact zz | (dsimp only; omega)) _)))
    clear hK K
    (try simp only [Act.put, putS])
    refine tJ 13 rfl hS0 ?_
    (try simp only [Act.put, putS])
    refine wpAnyJ_done (by kernel_rfl) ?_ _
    rotate_left 1
    (focus (rw [if_pos (by kernel_rfl)]; (try simp only [putG]); (focus go_simp); have dz := Cells.newB hS0 #[.int .u8 0, .int .u32 0, .int .u16 0, .int .u32 0, .int .u16 0] 33; have zz := Below.size hS0; (try rw [show wh.drew.heap.size = wh.heap.size from rfl] at dz)))
    (focus (try go_wp2_with fail))
    refine hK.out _ _ ?hs (fun hS0 => ?_)
    case hs => (first | with_reducible exact hS0 | with_reducible exact sq | with_reducible exact bstep hS0 (fresh_below _ _) | (repeat' (first | with_reducible exact hS0 | with_reducible refine Below.setCell ?_ (by first | exact zz | (dsimp only; omega)) _)))
    clear hK K
    (try simp only [Act.put, putS])
    refine rJ [6] ?_
    refine (AllReadyJ.cons rfl (fun K hK => ?_) AllReadyJ.nil)
    rw [if_pos (by kernel_rfl)]
    (try simp only [putG])
    (focus go_simp)
    (focus ((try dsimp only); (try rw [HX.out]); (with_reducible refine (SH.out _).mono ?_); rintro e wi ⟨rfl, ba⟩; have sq := bstep hS0 ba; (try replace dz := Cells.below ba dz)))
    (focus (try go_wp2_with fail))
    refine hK.out _ _ ?hs (fun hS0 => ?_)
    case hs => (first | with_reducible exact hS0 | with_reducible exact sq | with_reducible exact bstep hS0 (fresh_below _ _) | (repeat' (first | with_reducible exact hS0 | with_reducible refine Below.setCell ?_ (by first | exact zz | (dsimp only; omega)) _)))
    clear hK K
    (try simp only [Act.put, putS])
    refine rJ [7] ?_
    refine (AllReadyJ.cons rfl (fun K hK => ?_) AllReadyJ.nil)
    rw [if_pos (by kernel_rfl)]
    (try simp only [putG])
    (focus go_simp)
    (focus ((with_reducible refine (IH.out _ (KK.out.below (bstep L0.out hS0))).mono ?_); rintro e wj ⟨rfl, ba⟩; have sq := bstep hS0 ba; (try replace dz := Cells.below ba dz)))
    (focus (try go_wp2_with fail))
    refine hK.out _ _ ?hs (fun hS0 => ?_)
    case hs => (first | with_reducible exact hS0 | with_reducible exact sq | with_reducible exact bstep hS0 (fresh_below _ _) | (repeat' (first | with_reducible exact hS0 | with_reducible refine Below.setCell ?_ (by first | exact zz | (dsimp only; omega)) _)))
    clear hK K
    (try simp only [Act.put, putS])
    refine tJ 8 rfl hS0 ?_
    (try simp only [Act.put, putS])
    refine tJ 9 rfl hS0 ?_
    (try simp only [Act.put, putS])
    refine tJ 10 rfl hS0 ?_
    (try simp only [Act.put, putS])
    refine rJ [12] ?_
    refine (AllReadyJ.cons rfl (fun K hK => ?_) AllReadyJ.nil)
    (focus (rw [if_pos (by kernel_rfl)]; (try simp only [putG]); have x0 : World.cell? _ ⟨_, 0, none⟩ = some (.int .u8 0) := dz.at_ 0; have f0 := dz.free 0; have x1 : World.cell? _ ⟨_, 1, none⟩ = some (.int .u32 0) := dz.at_ 1; have f1 := dz.free 1; have x2 : World.cell? _ ⟨_, 2, none⟩ = some (.int .u16 0) := dz.at_ 2; have f2 := dz.free 2; have x3 : World.cell? _ ⟨_, 3, none⟩ = some (.int .u32 0) := dz.at_ 3; have f3 := dz.free 3; have x4 : World.cell? _ ⟨_, 4, none⟩ = some (.int .u16 0) := dz.at_ 4; have f4 := dz.free 4; (focus go_simp); clear x0 x1 x2 x3 x4 f0 f1 f2 f3 f4))
    (focus (try go_wp2_with fail))
    refine hK.out _ _ ?hs (fun hS0 => ?_)
    case hs => (first | with_reducible exact hS0 | with_reducible exact sq | with_reducible exact bstep hS0 (fresh_below _ _) | (repeat' (first | with_reducible exact hS0 | with_reducible refine Below.setCell ?_ (by first | exact zz | (dsimp only; omega)) _)))
    clear hK K
    (try simp only [Act.put, putS])
    refine tJ 13 rfl hS0 ?_
    (try simp only [Act.put, putS])
    refine wpAnyJ_done (by kernel_rfl) ?_ _
    rotate_left 1
  all_goals
    have d5 := D5.out; have d9 := D9.out
    obtain ⟨qd5_0, qd5_1, qd5_2, qd5_3, qd5_4⟩ := d5.q5
    obtain ⟨qd9_0, qd9_1, qd9_2, qd9_3, qd9_4⟩ := d9.q5
    clear d5 d9
    go_wp2_with (first | (go_at_call 9; (with_reducible refine (II.out _ (KK.out.below (bstep L0.out (by assumption)))).mono ?_); rintro ek wk ⟨rfl, bk⟩; have bk' := bstep (by assumption : Below wh.heap.size wh _) bk; clear bk; have bkn := bstep bk' (fresh_below wk (.cells #[.int .u8 0, .int .u32 0, .int .u16 0, .int .u32 0, .int .u16 0] 33))) | (go_at_call 26; (with_reducible refine (SJ.out _).mono ?_); rintro el wl ⟨rfl, bl⟩; have bl' := bstep (by assumption : Below wh.heap.size wh _) bl; clear bl) | (go_at_call 9; (with_reducible refine (IJ.out _ (KK.out.below (bstep L0.out (by assumption)))).mono ?_); rintro em wm ⟨rfl, bm⟩; have bm' := bstep (by assumption : Below wh.heap.size wh _) bm; clear bm; have bmn := bstep bm' (fresh_below wm (.cells #[.int .u8 0, .int .u32 0, .int .u16 0, .int .u32 0, .int .u16 0] 33))) | (go_at_call 27; (with_reducible refine (TX2.out _ (TB.out.below (bstep L0.out (by assumption)))).mono ?_); rintro en wn ⟨rfl, bn⟩; have bn' := bstep (by assumption : Below wh.heap.size wh _) bn; clear bn) | (go_at_call 27; (with_reducible refine (TX.out _ (TB.out.below (bstep L0.out (by assumption)))).mono ?_); rintro eo wo ⟨rfl, bo⟩; have bo' := bstep (by assumption : Below wh.heap.size wh _) bo; clear bo))
    go_ret
    exact ⟨rfl, bstep L0.out (by assumption)⟩
end Go.Proofs.YtjeaknipmdfkdaaGreatDoor
end
