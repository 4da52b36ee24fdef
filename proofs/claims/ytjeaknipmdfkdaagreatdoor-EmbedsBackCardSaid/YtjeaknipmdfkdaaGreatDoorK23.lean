/- Several texts of this claim, one behind the other. -/
import Derived.Test.YtjeaknipmdfkdaaGreatDoorK22
import Derived.Test.YtjeaknipmdfkdaaGreatDoorK2
import Derived.Test.YtjeaknipmdfkdaaGreatDoorK19
import Derived.Test.YtjeaknipmdfkdaaGreatDoorK6
import Derived.Test.YtjeaknipmdfkdaaGreatDoorK1
import Derived.Deep.CutRange
import Derived.Test.YtjeaknipmdfkdaaGreatDoorK14

section
/- EmbedsInner, plain. No walk. -/
set_option linter.unusedVariables false
set_option linter.unusedSimpArgs false
namespace Go.Proofs.YtjeaknipmdfkdaaGreatDoor
open Go.RowKit

/-- an error that is translated, and what it was -/
theorem em_two {s : ByteArray} {oa ob oc od a b c d : Int} (h : emsWhy s = 0) (hl : 1 < (seenOf s).l) (hoa : 0 ≤ oa ∧ oa ≤ 4294967295) (hoc : 0 ≤ oc ∧ oc ≤ 4294967295)
    (ha : 0 ≤ a ∧ a ≤ 4294967295) (hb : 0 ≤ b ∧ b ≤ 65535) (hc : 0 ≤ c ∧ c ≤ 4294967295) (hd : 0 ≤ d ∧ d ≤ 65535) :
    ∃ H P R : List UInt8, s = S (H ++ P ++ R) ∧ Whole H P ∧ at_ H 9 = 1 ∧ 8 ≤ P.length ∧ kindOf (at_ P 0) = 3 ∧ emWhy (P.drop 8) = 0 ∧ 1 < at_ H 8 ∧ rwWhy s = 0 ∧ trWhy s = 0 ∧ rwOut s oa ob oc od = S (headNew H oa oc ++ P) ∧ trOut s oa ob oc od a b c d = S (headNew H oa oc ++ trLow P a b c d) ∧
      Whole (headNew H oa oc) (trLow P a b c d) ∧ at_ (headNew H oa oc) 8 = at_ H 8 - 1 ∧ at_ (headNew H oa oc) 9 = 1 ∧ be32 (headNew H oa oc) 12 = oa ∧ be32 (headNew H oa oc) 16 = oc ∧
      (trLow P a b c d).length = P.length ∧ kindOf (at_ (trLow P a b c d) 0) = 3 ∧ (trLow P a b c d).drop 8 = emNew (P.drop 8) a b c d ∧ emWhy ((trLow P a b c d).drop 8) = 0 := by
  obtain ⟨H, P, R, hs, w, h9, h8, hk, hem, h1, e1, e2, e3, e4⟩ := tr_parts (oa := oa) (ob := ob) (oc := oc) (od := od) (a := a) (b := b) (c := c) (d := d) h hl
  have hz := low_len h8 hem a b c d
  obtain ⟨w2, g8, g9, g12, g16⟩ := head_whole (Q := trLow P a b c d) w hoa hoc (by omega) hz
  have hdp := low_drop h8 hem a b c d
  obtain ⟨_, _, k3, _⟩ := em_again hem ha hb hc hd _ rfl
  exact ⟨H, P, R, hs, w, h9, h8, hk, hem, h1, e1, e2, e3, e4, w2, g8, by rw [g9, h9], g12, g16, hz, by rw [low_at h8 hem a b c d (by omega) (by omega)]; exact hk, hdp, by rw [hdp]; exact k3⟩
theorem em_inner {s : ByteArray} {oa ob oc od a b c d : Int} (h : emsWhy s = 0) (hl : 1 < (seenOf s).l) (hoa : 0 ≤ oa ∧ oa ≤ 4294967295) (hoc : 0 ≤ oc ∧ oc ≤ 4294967295)
    (ha : 0 ≤ a ∧ a ≤ 4294967295) (hb : 0 ≤ b ∧ b ≤ 65535) (hc : 0 ≤ c ∧ c ≤ 4294967295) (hd : 0 ≤ d ∧ d ≤ 65535) (u : ByteArray) (hu : trOut s oa ob oc od a b c d = u) :
    trWhy s = 0 ∧ emsWhy u = 0 ∧ seenWhy u = 0 ∧ seenOf u = ⟨⟨1, oa, 0, oc, 0⟩, 3, 0, false, (seenOf s).l - 1⟩ ∧ ipWhy s = 0 ∧ ipWhy u = 0 ∧ (emData u).size = (emData s).size ∧ 28 ≤ (emData s).size ∧ u.size ≤ s.size ∧
    emTup (L (emData u)) = emWant (L (emData s)) a b c d ∧ at_ (L (emData u)) 0 = at_ (L (emData s)) 0 ∧ 20 ≤ emAt (L (emData s)) ∧ emAt (L (emData s)) + 8 ≤ (emData s).size ∧
    holds [(L (emData s)).take (emAt (L (emData s)))] = holds [(L (emData u)).take (emAt (L (emData s)))] ∧ holds [L (ipRest s)] = holds [L (ipRest u)] ∧ 8 ≤ (ipRest s).size ∧ 8 ≤ (ipRest u).size := by
  obtain ⟨H, P, R, hs, w, h9, h8, hk, hem, h1, e1, e2, e3, e4, w2, g8, g9, g12, g16, hz, k2, hdp, k3⟩ := em_two (oa := oa) (ob := ob) (oc := oc) (od := od) h hl hoa hoc ha hb hc hd
  obtain ⟨s1, s2, s3, s4, s5, s6⟩ := err_of R w h9 h8 hk hem
  obtain ⟨u1, u2, u3, u4, u5, u6⟩ := err_of [] w2 g9 (by omega) k2 k3
  rw [e4] at hu
  rw [List.append_nil, hu] at u1 u2 u3 u4 u5 u6
  rw [← hs] at s1 s2 s3 s4 s5 s6
  obtain ⟨p1, p2, p3, _⟩ := emWhy_parts hem
  obtain ⟨m1, m2, m3, m4, _, m6, m7, _, m8⟩ := em_again hem ha hb hc hd _ rfl
  have hh := headNew_length (H := H) oa oc w.h20
  have hsz : s.size = H.length + P.length + R.length := by rw [hs, S_size, List.length_append, List.length_append]
  have husz : u.size = H.length + P.length := by rw [← hu, S_size, List.length_append, hh, hz]
  rw [s5, u5, L_S, L_S, hdp, S_size, S_size, m1, List.length_drop, s4, u4, L_S, L_S, S_size, S_size, s2]
  rw [List.length_drop] at p3
  refine ⟨e2, u6, u1, ?_, s3, u3, rfl, by omega, by omega, m6, m8, p1, p3, ?_, (low_holds h8 hem a b c d hk).symm, h8, by omega⟩
  · rw [u2, g12, g16, g8]
  · rw [m2] at m7; exact m7.symm
end Go.Proofs.YtjeaknipmdfkdaaGreatDoor
end

section
/- embeds: two, addr, lay, ends, over this program. -/
set_option linter.unusedVariables false
set_option linter.unusedSimpArgs false
namespace Go.Proofs.YtjeaknipmdfkdaaGreatDoor
open Go.RowKit
attribute [local go_sem] Oper.semAt_some envL lookV

theorem e_two (w : World) (B : Nat) (s : ByteArray) (i : Int) (hC : w.cell? ⟨B, 0, none⟩ = some (.string s)) (hs : s.size ≤ 140737488351232) (hi : -9223372036854775808 ≤ i ∧ i ≤ 9223372036854775807) :
    Calls Tryz.prog 64 #[.pointer (some ⟨B, 0, none⟩), .int .i64 i] w (Ret (.int .u16 (get16 (L s) i)) w) := by
  have c := fun W => Get16 s i W (reach_max hs) hi
  generalize get16 (L s) i = x at *
  generalize has s.size i 2 = y at *
  have C := hide c
  clear c hs hi
  have bb : Below w.heap.size w w := Below.refl _ _
  go_enter Tryz.func64, Tryz.ntmps64
  go_wp2_with ((go_at_call 68; (with_reducible refine (C.out _).mono ?_); rintro e2 w2 ⟨rfl, b2⟩; have b2' := bstep (by assumption : Below w.heap.size w _) b2; clear b2))
  go_ret
  exact ⟨rfl, by assumption⟩
theorem e_addr (w : World) (B : Nat) (s : ByteArray) (i : Int) (hC : w.cell? ⟨B, 0, none⟩ = some (.string s)) (hs : s.size ≤ 140737488351232) (hi : -9223372036854775808 ≤ i ∧ i ≤ 9223372036854775807) :
    Calls Tryz.prog 104 #[.pointer (some ⟨B, 0, none⟩), .int .i64 i] w (Ret (.int .u32 (get32 (L s) i)) w) := by
  have c := fun W => Get32 s i W (reach_max hs) hi
  generalize get32 (L s) i = x at *
  generalize has s.size i 4 = y at *
  have C := hide c
  clear c hs hi
  have bb : Below w.heap.size w w := Below.refl _ _
  go_enter Tryz.func104, Tryz.ntmps104
  go_wp2_with ((go_at_call 93; (with_reducible refine (C.out _).mono ?_); rintro e2 w2 ⟨rfl, b2⟩; have b2' := bstep (by assumption : Below w.heap.size w _) b2; clear b2))
  go_ret
  exact ⟨rfl, by assumption⟩
theorem e_lay (w : World) (B : Nat) (cs : Array Value) (T : TypeId) (s : ByteArray) (k : Nat) (p : ByteArray) (hC : Cells w B cs T) (h0 : cs[0]? = some (.string s)) (hs : s.size ≤ 140737488351232) (h : k + p.size ≤ s.size) :
    Calls Tryz.prog 33 #[.pointer (some ⟨B, 0, none⟩), .int .i64 k, .string p] w (Turned w B (cs.setIfInBounds 0 (.string (S ((L s).take k ++ (L p ++ (L s).drop (k + p.size)))))) T) := by
  have c := fun W => With_in s k p W hs h
  generalize S ((L s).take k ++ (L p ++ (L s).drop (k + p.size))) = x at *
  obtain ⟨z, hz⟩ : ∃ z : Int, z = (k : Int) := ⟨_, rfl⟩
  rw [← hz] at c ⊢
  have C := hide c; have HC := hide hC
  have q0 : ∀ W', Below w.heap.size w W' → W'.cell? ⟨B, 0, none⟩ = some (.string s) := fun W' hW => by rw [(Cells.below hW hC).at_ 0]; exact h0
  have f0 : ∀ W', Below w.heap.size w W' → W'.frozen? ⟨B, 0, none⟩ = false := fun W' hW => (Cells.below hW hC).free 0
  have bb : Below w.heap.size w w := Below.refl _ _
  clear c hC h0 hs h hz
  go_enter Tryz.func33, Tryz.ntmps33
  go_wp2_with (go_at_call 70; (with_reducible refine (C.out _).mono ?_); rintro e2 w2 ⟨rfl, b2⟩)
  go_end0
  exact ⟨rfl, Cells.set_ (Cells.below b2 HC.out) 0 _, Only.setAt (Only.of_below b2 (Nat.le_refl _)) 0 _ (Or.inl rfl)⟩
set_option maxRecDepth 100000 in
set_option maxHeartbeats 2000000 in
theorem e_ends (a b c d : Int) (w : World) (ha : 0 ≤ a ∧ a ≤ 4294967295) (hb : 0 ≤ b ∧ b ≤ 65535) (hc : 0 ≤ c ∧ c ≤ 4294967295) (hd : 0 ≤ d ∧ d ≤ 65535) :
    Calls Tryz.prog 63 #[.agg #[.int .u32 a, .int .u16 b, .int .u32 c, .int .u16 d]] w (Ret (.tuple #[.string (S (ipsOf a c)), .string (S (putW [b, d]))]) w) := by
  have f1 := fun W => Put32 a W ha.1 ha.2
  have f2 := fun W => Put32 c W hc.1 hc.2
  have f3 := fun (W : World) (A : Option Addr) (hR : Row W W.heap.size A 2 [.int .u16 b, .int .u16 d]) => Word A 2 2 [b, d] W hR (by intro x hx; simp only [List.mem_cons, List.not_mem_nil, or_false] at hx; rcases hx with rfl | rfl; exact hb; exact hd) (by omega)
  have e3 : S (put32 a) ++ S (put32 c) = S (ipsOf a c) := by rw [S_append]; rfl
  have z3 : (S (put32 a)).size + (S (put32 c)).size ≤ 1000 := by rw [S_size, S_size]; simp [put32, put16_length]
  obtain ⟨s1, h1⟩ : ∃ s, s = S (put32 a) := ⟨_, rfl⟩
  obtain ⟨s2, h2⟩ : ∃ s, s = S (put32 c) := ⟨_, rfl⟩
  obtain ⟨s4, h4⟩ : ∃ s, s = S (putW [b, d]) := ⟨_, rfl⟩
  rw [← h1] at f1 e3 z3; rw [← h2] at f2 e3 z3; rw [← h4] at f3 ⊢; rw [← e3]
  have z4 : (s1 ++ s2).size ≤ 1000 := by rw [ByteArray.size_append]; exact z3
  have z5 : ¬ 9223372036854775807 < s1.size + s2.size := by omega
  have F1 := hide f1; have F2 := hide f2; have F3 := hide f3
  clear f1 f2 f3 e3 h1 h2 h4 ha hb hc hd
  go_enter Tryz.func63, Tryz.ntmps63
  have d0 := Cells.new w #[.int .u32 a, .int .u16 b, .int .u32 c, .int .u16 d] 28
  have l0 : Below w.heap.size w (w.alloc (.cells #[.int .u32 a, .int .u16 b, .int .u32 c, .int .u16 d] 28)) := (fresh_below _ _)
  have L0 := hide l0; have D0 := hide d0
  clear l0 d0
  go_upto_region 1 with fail
  have l0 := L0.out; have d0 := D0.out
  clear L0 D0
  generalize (w.alloc (.cells #[.int .u32 a, .int .u16 b, .int .u32 c, .int .u16 d] 28)) = w1 at *
  obtain ⟨qd0_0, qd0_1, qd0_2, qd0_3⟩ := d0.q4
  have bb : Below w1.heap.size w1 w1 := Below.refl _ _
  have L0 := hide l0; have D0 := hide d0
  clear l0 d0
  have s0 : Below w1.heap.size w1 w1.drew := Below.drew bb
  focus
    refine wp_region_J [] (fun W => Below w1.heap.size w1 W) (by kernel_rfl) (s0) (fun hS0 => ?_)
    refine tJ 0 rfl hS0 ?_
    (try simp only [Act.put, putS])
    refine tJ 1 rfl hS0 ?_
    (try simp only [Act.put, putS])
    refine tJ 2 rfl hS0 ?_
    (try simp only [Act.put, putS])
    refine tJ 4 rfl hS0 ?_
    (try simp only [Act.put, putS])
    refine tJ 5 rfl hS0 ?_
    (try simp only [Act.put, putS])
    refine tJ 6 rfl hS0 ?_
    (try simp only [Act.put, putS])
    refine tJ 9 rfl hS0 ?_
    (try simp only [Act.put, putS])
    refine tJ 10 rfl hS0 ?_
    (try simp only [Act.put, putS])
    refine tJ 11 rfl hS0 ?_
    (try simp only [Act.put, putS])
    refine tJ 12 rfl hS0 ?_
    (try simp only [Act.put, putS])
    refine tJ 13 rfl hS0 ?_
    (try simp only [Act.put, putS])
    refine tJ 14 rfl hS0 ?_
    (try simp only [Act.put, putS])
    refine rJ [3, 15] ?_
    refine (AllReadyJ.cons rfl (fun K hK => ?_) (AllReadyJ.cons rfl (fun K hK => ?_) AllReadyJ.nil))
    rw [if_pos (by kernel_rfl)]
    (try simp only [putG])
    (focus go_simp)
    (focus ((with_reducible refine (F1.out _).mono ?_); rintro e wq3 ⟨rfl, bq3⟩; have sq := bstep hS0 bq3))
    (focus (try go_wp2_with fail))
    refine hK.out _ _ ?hs (fun hS0 => ?_)
    case hs => (first | with_reducible exact hS0 | with_reducible exact sq | exact bstep hS0 (fresh_below _ _))
    clear hK K
    (try simp only [Act.put, putS])
    refine rJ [7, 15] ?_
    refine (AllReadyJ.cons rfl (fun K hK => ?_) (AllReadyJ.cons rfl (fun K hK => ?_) AllReadyJ.nil))
    rw [if_pos (by kernel_rfl)]
    (try simp only [putG])
    (focus go_simp)
    (focus ((with_reducible refine (F2.out _).mono ?_); rintro e wq7 ⟨rfl, bq7⟩; have sq := bstep hS0 bq7))
    (focus (try go_wp2_with fail))
    refine hK.out _ _ ?hs (fun hS0 => ?_)
    case hs => (first | with_reducible exact hS0 | with_reducible exact sq | exact bstep hS0 (fresh_below _ _))
    clear hK K
    (try simp only [Act.put, putS])
    refine tJ 8 rfl hS0 ?_
    (try simp only [Act.put, putS])
    refine rJ [15] ?_
    refine (AllReadyJ.cons rfl (fun K hK => ?_) AllReadyJ.nil)
    rw [if_pos (by kernel_rfl)]
    (try simp only [putG])
    (focus go_simp)
    refine hK.out _ _ ?hs (fun hS0 => ?_)
    case hs => (first | with_reducible exact hS0 | with_reducible exact sq | exact bstep hS0 (fresh_below _ _))
    clear hK K
    (try simp only [Act.put, putS])
    refine rJ [16] ?_
    refine (AllReadyJ.cons rfl (fun K hK => ?_) AllReadyJ.nil)
    rw [if_pos (by kernel_rfl)]
    (try simp only [putG])
    (focus go_simp)
    (focus ((refine (F3.out _ _ (by (repeat' (first | with_reducible refine Row.afterdraw ?_ | with_reducible exact Row.freshAt _ _ _ _ _ _ (by simp) rfl rfl | (with_reducible refine Row.rise ?_ (fresh_below _ _)) | (with_reducible refine Row.rise ?_ bq7) | (with_reducible refine Row.rise ?_ bq3))))).mono ?_); rintro e wq16 ⟨rfl, bq16⟩; have sq := bstep hS0 bq16))
    (focus (try go_wp2_with fail))
    refine hK.out _ _ ?hs (fun hS0 => ?_)
    case hs => (first | with_reducible exact hS0 | with_reducible exact sq | exact bstep hS0 (fresh_below _ _))
    clear hK K
    (try simp only [Act.put, putS])
    refine tJ 17 rfl hS0 ?_
    (try simp only [Act.put, putS])
    refine tJ 18 rfl hS0 ?_
    (try simp only [Act.put, putS])
    refine wpAnyJ_done (by kernel_rfl) ?_ _
    rotate_left 1
    rw [if_pos (by kernel_rfl)]
    (try simp only [putG])
    (focus go_simp)
    refine hK.out _ _ ?hs (fun hS0 => ?_)
    case hs => (first | with_reducible exact hS0 | with_reducible exact sq | exact bstep hS0 (fresh_below _ _))
    clear hK K
    (try simp only [Act.put, putS])
    refine rJ [7] ?_
    refine (AllReadyJ.cons rfl (fun K hK => ?_) AllReadyJ.nil)
    rw [if_pos (by kernel_rfl)]
    (try simp only [putG])
    (focus go_simp)
    (focus ((with_reducible refine (F2.out _).mono ?_); rintro e wq7 ⟨rfl, bq7⟩; have sq := bstep hS0 bq7))
    (focus (try go_wp2_with fail))
    refine hK.out _ _ ?hs (fun hS0 => ?_)
    case hs => (first | with_reducible exact hS0 | with_reducible exact sq | exact bstep hS0 (fresh_below _ _))
    clear hK K
    (try simp only [Act.put, putS])
    refine tJ 8 rfl hS0 ?_
    (try simp only [Act.put, putS])
    refine rJ [16] ?_
    refine (AllReadyJ.cons rfl (fun K hK => ?_) AllReadyJ.nil)
    rw [if_pos (by kernel_rfl)]
    (try simp only [putG])
    (focus go_simp)
    (focus ((refine (F3.out _ _ (by (repeat' (first | with_reducible refine Row.afterdraw ?_ | with_reducible exact Row.freshAt _ _ _ _ _ _ (by simp) rfl rfl | (with_reducible refine Row.rise ?_ (fresh_below _ _)) | (with_reducible refine Row.rise ?_ bq7) | (with_reducible refine Row.rise ?_ bq3))))).mono ?_); rintro e wq16 ⟨rfl, bq16⟩; have sq := bstep hS0 bq16))
    (focus (try go_wp2_with fail))
    refine hK.out _ _ ?hs (fun hS0 => ?_)
    case hs => (first | with_reducible exact hS0 | with_reducible exact sq | exact bstep hS0 (fresh_below _ _))
    clear hK K
    (try simp only [Act.put, putS])
    refine tJ 17 rfl hS0 ?_
    (try simp only [Act.put, putS])
    refine tJ 18 rfl hS0 ?_
    (try simp only [Act.put, putS])
    refine wpAnyJ_done (by kernel_rfl) ?_ _
    rotate_left 1
    rw [if_pos (by kernel_rfl)]
    (try simp only [putG])
    (focus go_simp)
    refine hK.out _ _ ?hs (fun hS0 => ?_)
    case hs => (first | with_reducible exact hS0 | with_reducible exact sq | exact bstep hS0 (fresh_below _ _))
    clear hK K
    (try simp only [Act.put, putS])
    refine rJ [3] ?_
    refine (AllReadyJ.cons rfl (fun K hK => ?_) AllReadyJ.nil)
    rw [if_pos (by kernel_rfl)]
    (try simp only [putG])
    (focus go_simp)
    (focus ((with_reducible refine (F1.out _).mono ?_); rintro e wq3 ⟨rfl, bq3⟩; have sq := bstep hS0 bq3))
    (focus (try go_wp2_with fail))
    refine hK.out _ _ ?hs (fun hS0 => ?_)
    case hs => (first | with_reducible exact hS0 | with_reducible exact sq | exact bstep hS0 (fresh_below _ _))
    clear hK K
    (try simp only [Act.put, putS])
    refine rJ [7] ?_
    refine (AllReadyJ.cons rfl (fun K hK => ?_) AllReadyJ.nil)
    rw [if_pos (by kernel_rfl)]
    (try simp only [putG])
    (focus go_simp)
    (focus ((with_reducible refine (F2.out _).mono ?_); rintro e wq7 ⟨rfl, bq7⟩; have sq := bstep hS0 bq7))
    (focus (try go_wp2_with fail))
    refine hK.out _ _ ?hs (fun hS0 => ?_)
    case hs => (first | with_reducible exact hS0 | with_reducible exact sq | exact bstep hS0 (fresh_below _ _))
    clear hK K
    (try simp only [Act.put, putS])
    refine tJ 8 rfl hS0 ?_
    (try simp only [Act.put, putS])
    refine rJ [16] ?_
    refine (AllReadyJ.cons rfl (fun K hK => ?_) AllReadyJ.nil)
    rw [if_pos (by kernel_rfl)]
    (try simp only [putG])
    (focus go_simp)
    (focus ((refine (F3.out _ _ (by (repeat' (first | with_reducible refine Row.afterdraw ?_ | with_reducible exact Row.freshAt _ _ _ _ _ _ (by simp) rfl rfl | (with_reducible refine Row.rise ?_ (fresh_below _ _)) | (with_reducible refine Row.rise ?_ bq7) | (with_reducible refine Row.rise ?_ bq3))))).mono ?_); rintro e wq16 ⟨rfl, bq16⟩; have sq := bstep hS0 bq16))
    (focus (try go_wp2_with fail))
    refine hK.out _ _ ?hs (fun hS0 => ?_)
    case hs => (first | with_reducible exact hS0 | with_reducible exact sq | exact bstep hS0 (fresh_below _ _))
    clear hK K
    (try simp only [Act.put, putS])
    refine tJ 17 rfl hS0 ?_
    (try simp only [Act.put, putS])
    refine tJ 18 rfl hS0 ?_
    (try simp only [Act.put, putS])
    refine wpAnyJ_done (by kernel_rfl) ?_ _
    rotate_left 1
  all_goals
    go_wp2_with fail
    go_ret2
    exact ⟨rfl, bstep L0.out hS0⟩
end Go.Proofs.YtjeaknipmdfkdaaGreatDoor
end

section
/- embeds.query: the query that an error is about, over this program. -/
set_option linter.unusedVariables false
set_option linter.unusedSimpArgs false
namespace Go.Proofs.YtjeaknipmdfkdaaGreatDoor
open Go.RowKit
attribute [local go_sem] Oper.semAt_some envL lookV

/-- what query leaves: the packet with its ID; none: it is no query -/
def Asked (w : World) (B : Nat) (s : ByteArray) (e : Int) (p a c id : Int) (ask is : Bool) (en : Ending) (w' : World) : Prop :=
  if is = true then en = .returned (.tuple #[.pointer (some ⟨B, 0, none⟩), .int .i64 0]) ∧ Em w' B s e (if ask = true then ⟨p, a, id, c, 0⟩ else ⟨p, a, 0, c, id⟩) ask ∧ Only (fun i => i = B) w w'
  else en = .returned (.tuple #[.pointer none, .int .i64 15]) ∧ Below w.heap.size w w'
set_option maxRecDepth 100000 in
set_option maxHeartbeats 8000000 in
theorem e_query (w : World) (B : Nat) (s : ByteArray) (k : Nat) (p a c : Int) (hC : Em w B s k ⟨p, a, 0, c, 0⟩ false) (K0 : Kinds w) (hs : s.size ≤ 140737488351232) (h : k + 8 ≤ s.size) :
    Calls Tryz.prog 105 #[.pointer (some ⟨B, 0, none⟩)] w (Asked w B s k p a c (be16 (L s) (k + 4)) (qAsk ⟨at_ (L s) k, at_ (L s) (k + 1), 0, { data := #[] }, { data := #[] }⟩) (qIs ⟨at_ (L s) k, at_ (L s) (k + 1), 0, { data := #[] }, { data := #[] }⟩)) := by
  have h0 := at_bd (L s) k; have h1 := at_bd (L s) (k + 1)
  have c1 := fun W (hW : Below w.heap.size w W) => i_Query ⟨at_ (L s) k, at_ (L s) (k + 1), 0, { data := #[] }, { data := #[] }⟩ W ⟨h0, h1, ⟨(by decide : (0 : Int) ≤ 0), (by decide : (0 : Int) ≤ 65535)⟩, Nat.zero_le _, Nat.zero_le _⟩ (K0.below hW)
  obtain ⟨z4, hz4⟩ : ∃ z : Int, z = (k : Int) + 4 := ⟨_, rfl⟩
  obtain ⟨z1, hz1⟩ : ∃ z : Nat, z = k + 1 := ⟨_, rfl⟩
  have c2 := fun W (hW : Below w.heap.size w W) => e_two W B s z4 (by rw [(Cells.below hW hC).at_ 0]; rfl) hs ⟨by omega, by omega⟩
  rw [show get16 (L s) z4 = be16 (L s) (k + 4) from by rw [hz4, show (k : Int) + 4 = ((k + 4 : Nat) : Int) from rfl, get16_nat (by rw [L_length]; omega)]] at c2
  simp only at c1
  have i0 : k < s.size := by omega
  have i1 : z1 < s.size := by omega
  have e0 : (((s[k]'i0).toNat : Nat) : Int) = at_ (L s) k := by rw [getElem_L s k (by omega)]; rfl
  have e1 : (((s[z1]'i1).toNat : Nat) : Int) = at_ (L s) (k + 1) := by rw [getElem_L s z1 (by omega), hz1]; rfl
  generalize qAsk ⟨at_ (L s) k, at_ (L s) (k + 1), 0, { data := #[] }, { data := #[] }⟩ = ask at *
  generalize qIs ⟨at_ (L s) k, at_ (L s) (k + 1), 0, { data := #[] }, { data := #[] }⟩ = is at *
  generalize be16 (L s) (k + 4) = id at *
  generalize at_ (L s) k = x0 at *
  generalize at_ (L s) (k + 1) = x1 at *
  have hw1 : IntKind.i64.wrap ((k : Int) + 1) = (z1 : Int) := by rw [IntWalk.i64_in _ (by omega)]; omega
  have hw4 : IntKind.i64.wrap ((k : Int) + 4) = z4 := by rw [IntWalk.i64_in _ (by omega), hz4]
  have j0 : (k : Int) < (s.size : Int) := by omega
  have j1 : (z1 : Int) < (s.size : Int) := by omega
  have C1 := hide c1; have C2 := hide c2; have HC := hide hC
  have q0 : ∀ W', Below w.heap.size w W' → W'.cell? ⟨B, 0, none⟩ = some (.string s) := fun W' hW => (Cells.below hW hC).at_ 0
  have q1 : ∀ W', Below w.heap.size w W' → W'.cell? ⟨B, 1, none⟩ = some (.int .i64 (k : Int)) := fun W' hW => (Cells.below hW hC).at_ 1
  have bb : Below w.heap.size w w := Below.refl _ _
  clear c1 c2 hC K0 hs h h0 h1 hz4 hz1
  go_enter Tryz.func105, Tryz.ntmps105
  go_upto_region 1 with fail
  have s0 : Below w.heap.size w w.drew := Below.drew bb
  focus
    refine wp_region_J [] (fun W => Below w.heap.size w W) (by kernel_rfl) (s0) (fun hS0 => ?_)
    refine tJ 0 rfl hS0 ?_
    (try simp only [Act.put, putS])
    refine tJ 1 rfl hS0 ?_
    (try simp only [Act.put, putS])
    refine tJ 2 rfl hS0 ?_
    (try simp only [Act.put, putS])
    refine tJ 3 rfl hS0 ?_
    (try simp only [Act.put, putS])
    refine tJ 4 rfl hS0 ?_
    (try simp only [Act.put, putS])
    refine tJ 5 rfl hS0 ?_
    (try simp only [Act.put, putS])
    refine tJ 6 rfl hS0 ?_
    (try simp only [Act.put, putS])
    refine tJ 7 rfl hS0 ?_
    (try simp only [Act.put, putS])
    refine tJ 8 rfl hS0 ?_
    (try simp only [Act.put, putS])
    refine tJ 9 rfl hS0 ?_
    (try simp only [Act.put, putS])
    refine tJ 10 rfl hS0 ?_
    (try simp only [Act.put, putS])
    refine tJ 11 rfl hS0 ?_
    (try simp only [Act.put, putS])
    refine tJ 12 rfl hS0 ?_
    (try simp only [Act.put, putS])
    refine tJ 13 rfl hS0 ?_
    (try simp only [Act.put, putS])
    refine tJ 14 rfl hS0 ?_
    (try simp only [Act.put, putS])
    refine tJ 15 rfl hS0 ?_
    (try simp only [Act.put, putS])
    refine tJ 16 rfl hS0 ?_
    (try simp only [Act.put, putS])
    refine tJ 17 rfl hS0 ?_
    (try simp only [Act.put, putS])
    refine tJ 18 rfl hS0 ?_
    (try simp only [Act.put, putS])
    refine tJ 19 rfl hS0 ?_
    (try simp only [Act.put, putS])
    refine tJ 20 rfl hS0 ?_
    (try simp only [Act.put, putS])
    refine tJ 21 rfl hS0 ?_
    (try simp only [Act.put, putS])
    refine rJ [22] ?_
    refine (AllReadyJ.cons rfl (fun K hK => ?_) AllReadyJ.nil)
    rw [if_pos (by kernel_rfl)]
    (try simp only [putG])
    (focus go_simp)
    (focus ((with_reducible refine (C1.out _ hS0).mono ?_); rintro e wq ⟨rfl, bq⟩; have sq := bstep hS0 bq))
    (focus (try go_wp2_with fail))
    refine hK.out _ _ ?hs (fun hS0 => ?_)
    case hs => (first | with_reducible exact hS0 | with_reducible exact sq)
    clear hK K
    (try simp only [Act.put, putS])
    refine tJ 23 rfl hS0 ?_
    (try simp only [Act.put, putS])
    refine tJ 24 rfl hS0 ?_
    (try simp only [Act.put, putS])
    refine tJ 25 rfl hS0 ?_
    (try simp only [Act.put, putS])
    refine tJ 26 rfl hS0 ?_
    (try simp only [Act.put, putS])
    refine tJ 27 rfl hS0 ?_
    (try simp only [Act.put, putS])
    refine wpAnyJ_done (by kernel_rfl) ?_ _
  clear s0 sq
  go_upto_region 2 with fail
  have s0 : Below w.heap.size w wq.drew := Below.drew hS0
  clear hS0
  focus
    refine wp_region_J [] (fun W => Below w.heap.size w W) (by kernel_rfl) (s0) (fun hS0 => ?_)
    refine tJ 0 rfl hS0 ?_
    (try simp only [Act.put, putS])
    refine tJ 1 rfl hS0 ?_
    (try simp only [Act.put, putS])
    refine tJ 2 rfl hS0 ?_
    (try simp only [Act.put, putS])
    refine tJ 3 rfl hS0 ?_
    (try simp only [Act.put, putS])
    refine tJ 4 rfl hS0 ?_
    (try simp only [Act.put, putS])
    refine tJ 5 rfl hS0 ?_
    (try simp only [Act.put, putS])
    refine tJ 6 rfl hS0 ?_
    (try simp only [Act.put, putS])
    refine tJ 7 rfl hS0 ?_
    (try simp only [Act.put, putS])
    refine rJ [8] ?_
    refine (AllReadyJ.cons rfl (fun K hK => ?_) AllReadyJ.nil)
    rw [if_pos (by kernel_rfl)]
    (try simp only [putG])
    (focus go_simp)
    (focus ((with_reducible refine (C2.out _ hS0).mono ?_); rintro e wr ⟨rfl, br⟩; have sq := bstep hS0 br))
    (focus (try go_wp2_with fail))
    refine hK.out _ _ ?hs (fun hS0 => ?_)
    case hs => (first | with_reducible exact hS0 | with_reducible exact sq)
    clear hK K
    (try simp only [Act.put, putS])
    refine tJ 9 rfl hS0 ?_
    (try simp only [Act.put, putS])
    refine wpAnyJ_done (by kernel_rfl) ?_ _
  clear s0 sq q0 q1 bb
  unfold Asked
  cases is
  · simp only [Bool.false_eq_true, if_false]
    go_wp2_with fail
    go_ret2
    exact ⟨rfl, hS0⟩
  · have hc := Cells.below hS0 HC.out
    have hB : B < w.heap.size := Cells.lt HC.out
    have ho : Only (fun i => i = B) w wr := Only.of_below hS0 (Nat.le_refl _)
    have HH := hide hc; have HO := hide ho
    clear hc ho hB HC
    cases ask
    · simp only [if_true, Bool.false_eq_true, if_false]
      have kc := HH.out
      have y6 := kc.at_ 6; have f6 := kc.free 6
      clear kc
      go_wp2_with fail
      go_ret2
      exact ⟨rfl, Cells.like (Cells.set_ HH.out 6 (.int .u16 id)) (by simp [emCells]), Only.setAt HO.out 6 _ (Or.inl rfl)⟩
    · simp only [if_true]
      have kc := HH.out
      have y7 := kc.at_ 7; have f7 := kc.free 7
      have y4 : ∀ v, (wr.setCell ⟨B, 7, none⟩ v).cell? ⟨B, 4, none⟩ = some (.int .u16 0) := fun v => (Cells.set_ kc 7 v).at_ 4
      have f4 : ∀ v, (wr.setCell ⟨B, 7, none⟩ v).frozen? ⟨B, 4, none⟩ = false := fun v => (Cells.set_ kc 7 v).free 4
      clear kc
      go_wp2_with fail
      go_ret2
      exact ⟨rfl, Cells.like (Cells.set_ (Cells.set_ HH.out 7 (.bool true)) 4 (.int .u16 id)) (by simp [emCells]), Only.setAt (Only.setAt HO.out 7 _ (Or.inl rfl)) 4 _ (Or.inl rfl)⟩
end Go.Proofs.YtjeaknipmdfkdaaGreatDoor
end
