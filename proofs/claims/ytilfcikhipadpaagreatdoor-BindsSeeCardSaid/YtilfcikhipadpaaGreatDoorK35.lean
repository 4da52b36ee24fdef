/- Several texts of this claim, one behind the other. -/
import Derived.Test.YtilfcikhipadpaaGreatDoorK34

section
/- porterref10.Look, whole; message, Inner: the document. -/
set_option linter.unusedVariables false
set_option linter.unusedSimpArgs false
namespace Go.Proofs.YtilfcikhipadpaaGreatDoor
open Go.RowKit
attribute [local go_sem] Oper.semAt_some envL lookV

theorem rd_Look (s : ByteArray) (w : World) (hs : s.size ≤ 140737488351232) : Calls Tryz.prog 89 #[.string s] w (Ret (lkOf (L s)) w) := by
  have hL := L_length s
  have hb := at_bd (L s) 0
  have he : ((emAt (L s) : Nat) : Int) = emEnd (L s) := by unfold emAt; unfold emEnd; omega
  have h15 : emWhy (L s) = 15 → lkOf (L s) = .agg #[.int .i64 0, .int .u8 0, .int .u32 0, .int .u16 0, .int .u32 0, .int .u16 0, .bool false, .int .i64 15] := fun h => by unfold lkOf; rw [h, if_neg (by decide)]
  by_cases c1 : ((L s).length : Int) < 20 ∨ at_ (L s) 0 / 16 ≠ 4
  · rw [h15 (by unfold emWhy; rw [if_pos c1])]
    exact rd_Look_early w s hs (by omega)
  by_cases c2 : emEnd (L s) < 20 ∨ ((L s).length : Int) - 8 < emEnd (L s) ∨ be16 (L s) 6 % 8192 ≠ 0
  · rw [h15 (by unfold emWhy; rw [if_neg c1, if_pos c2])]
    exact rd_Look_mid w s hs (by omega) (by omega) (by omega)
  · exact rd_Look_good w s hs (by omega) (by omega) (by omega) (by omega) (by omega)
/-- why there is no message about another packet -/
def msWhy (s : ByteArray) : Int := if seenWhy s ≠ 0 then seenWhy s else if (seenOf s).k ≠ 3 then 15 else 0
def msOf (s : ByteArray) : Msg := if msWhy s = 0 then msgOf (ipRest s) else ⟨0, 0, 0, { data := #[] }, { data := #[] }⟩
theorem ems_ms (s : ByteArray) : emsWhy s = if msWhy s ≠ 0 then msWhy s else emWhy (L (emData s)) := by
  unfold emsWhy msWhy
  by_cases h1 : seenWhy s ≠ 0
  · simp only [h1, if_true, ne_eq, not_false_eq_true]
  · by_cases h2 : (seenOf s).k ≠ 3
    · simp only [h1, h2, if_true, if_false, ne_eq, not_false_eq_true]; rfl
    · simp only [h1, h2, if_false]; rfl
set_option maxRecDepth 100000 in
set_option maxHeartbeats 8000000 in
theorem rd_message (s : ByteArray) (w : World) (hs : s.size ≤ 140737488351232) :
    Calls Tryz.prog 88 #[.string s] w (Ret (.tuple #[.agg #[.int .u8 (msOf s).t, .int .u8 (msOf s).c, .int .u16 (msOf s).n, .string (msOf s).r, .string (msOf s).d], .int .i64 (msWhy s)]) w) := by
  obtain ⟨x, hx⟩ : ∃ x, x = seenOf s := ⟨_, rfl⟩
  have co := fun W => o_Of s W hs
  rw [← hx] at co
  unfold Seen.cells at co
  by_cases h1 : seenWhy s = 0
  rotate_left 1
  · have e1 : msWhy s = seenWhy s := by unfold msWhy; rw [if_pos h1]
    have e2 : msOf s = ⟨0, 0, 0, { data := #[] }, { data := #[] }⟩ := by unfold msOf; rw [e1, if_neg h1]
    rw [e1, e2]
    have hr : (seenWhy s != 0) = true := by simpa using h1
    generalize seenWhy s = r at *
    have CO := hide co
    clear co h1 e1 e2 hx hs
    go_enter Tryz.func88, Tryz.ntmps88
    have d0 := Cells.new w #[.int .u8 0, .int .u8 0, .int .u16 0, .string { data := #[] }, .string { data := #[] }] 164
    have bn := fresh_below w (.cells #[.int .u8 0, .int .u8 0, .int .u16 0, .string { data := #[] }, .string { data := #[] }] 164)
    have D0 := hide d0; have BN := hide bn
    clear d0 bn
    go_upto_region 1 with fail
    generalize (w.alloc (.cells #[.int .u8 0, .int .u8 0, .int .u16 0, .string { data := #[] }, .string { data := #[] }] 164)) = w1 at *
    go_upto_region 3 with (go_at_call 37; (with_reducible refine (CO.out _).mono ?_); rintro e w2 ⟨rfl, b2⟩)
    have bz := bstep b2 (fresh_below w2 (.cells #[.int .u8 x.t.p, .int .u32 x.t.a, .int .u16 x.t.b, .int .u32 x.t.c, .int .u16 x.t.d, .int .i64 x.k, .int .u8 x.f, .bool x.q, .int .u8 x.l] 40))
    have HZ := hide (Cells.below bz D0.out); have LW := hide (bstep BN.out bz)
    clear bz b2 D0 BN hr
    generalize (w2.alloc (.cells #[.int .u8 x.t.p, .int .u32 x.t.a, .int .u16 x.t.b, .int .u32 x.t.c, .int .u16 x.t.d, .int .i64 x.k, .int .u8 x.f, .bool x.q, .int .u8 x.l] 40)) = w3 at *
    refine wp_region_lit ?_
    refine wpList_plain rfl fun K hK => ?_; go_simp; refine hK _ _ ?_; clear hK K
    refine wpList_plain rfl fun K hK => ?_; go_simp; refine hK _ _ ?_; clear hK K
    refine wpList_store_all rfl 164 (.tmp 2) (.tmp 18) rfl (c' := #[.int .u8 0, .int .u8 0, .int .u16 0, .string { data := #[] }, .string { data := #[] }]) HZ.out (by rfl) (by rfl) (by kernel_rfl) rfl (by simp [Value.oneCell']) ?_
    intro W5 r5 o5 z5
    go_wp2_with fail
    (try simp only [Exit.inBlock, Exit.then])
    refine bodyPost_ret (res_cell_tmp Tryz.results88 r5 (by rfl) (by rfl) _ Tryz.underlying164 rfl (by kernel_rfl)) rfl ?_
    exact ⟨rfl, LW.out.trans (o5.below (fun j e => by omega) LW.out.size)⟩
  by_cases h2 : (seenOf s).k = 3
  rotate_left 1
  · have e1 : msWhy s = 15 := by unfold msWhy; rw [if_neg (by omega), if_pos h2]
    have e2 : msOf s = ⟨0, 0, 0, { data := #[] }, { data := #[] }⟩ := by unfold msOf; rw [e1, if_neg (by decide)]
    rw [e1, e2]
    rw [← hx] at h2
    have hr : (x.k != 3) = true := by simpa using h2
    rw [h1] at co
    have CO := hide co
    clear co h1 h2 e1 e2 hx hs
    go_enter Tryz.func88, Tryz.ntmps88
    have d0 := Cells.new w #[.int .u8 0, .int .u8 0, .int .u16 0, .string { data := #[] }, .string { data := #[] }] 164
    have bn := fresh_below w (.cells #[.int .u8 0, .int .u8 0, .int .u16 0, .string { data := #[] }, .string { data := #[] }] 164)
    have D0 := hide d0; have BN := hide bn
    clear d0 bn
    go_upto_region 1 with fail
    generalize (w.alloc (.cells #[.int .u8 0, .int .u8 0, .int .u16 0, .string { data := #[] }, .string { data := #[] }] 164)) = w1 at *
    go_upto_region 2 with (go_at_call 37; (with_reducible refine (CO.out _).mono ?_); rintro e w2 ⟨rfl, b2⟩)
    have bz := bstep b2 (fresh_below w2 (.cells #[.int .u8 x.t.p, .int .u32 x.t.a, .int .u16 x.t.b, .int .u32 x.t.c, .int .u16 x.t.d, .int .i64 x.k, .int .u8 x.f, .bool x.q, .int .u8 x.l] 40))
    have nn := Cells.new w2 #[.int .u8 x.t.p, .int .u32 x.t.a, .int .u16 x.t.b, .int .u32 x.t.c, .int .u16 x.t.d, .int .i64 x.k, .int .u8 x.f, .bool x.q, .int .u8 x.l] 40
    have HZ := hide (Cells.below bz D0.out); have LW := hide (bstep BN.out bz)
    have y5 := nn.at_ 5
    clear bz b2 D0 BN nn CO
    generalize (w2.alloc (.cells #[.int .u8 x.t.p, .int .u32 x.t.a, .int .u16 x.t.b, .int .u32 x.t.c, .int .u16 x.t.d, .int .i64 x.k, .int .u8 x.f, .bool x.q, .int .u8 x.l] 40)) = w3 at *
    go_upto_region 5 with fail
    clear y5 hr
    refine wp_region_lit ?_
    refine wpList_plain rfl fun K hK => ?_; go_simp; refine hK _ _ ?_; clear hK K
    refine wpList_store_all rfl 164 (.tmp 2) (.tmp 23) rfl (c' := #[.int .u8 0, .int .u8 0, .int .u16 0, .string { data := #[] }, .string { data := #[] }]) HZ.out (by rfl) (by rfl) (by kernel_rfl) rfl (by simp [Value.oneCell']) ?_
    intro W5 r5 o5 z5
    go_wp2_with fail
    (try simp only [Exit.inBlock, Exit.then])
    refine bodyPost_ret (res_cell_tmp Tryz.results88 r5 (by rfl) (by rfl) _ Tryz.underlying164 rfl (by kernel_rfl)) rfl ?_
    exact ⟨rfl, LW.out.trans (o5.below (fun j e => by omega) LW.out.size)⟩
  obtain ⟨H, P, R, hsw, hw, _, _, _, hrest, _, hp8, _, _⟩ := err_whole h1 h2
  have hsz : (ipRest s).size ≤ 2048 := by rw [hrest, S_size]; have := hw.big; omega
  have h8 : 8 ≤ (ipRest s).size := by rw [hrest, S_size]; exact hp8
  have e1 : msWhy s = 0 := by unfold msWhy; rw [if_neg (by omega), if_neg (by omega)]
  have e2 : msOf s = msgOf (ipRest s) := by unfold msOf; rw [if_pos e1]
  rw [e1, e2]
  have cp := fun W => r4_Parse s W hs
  have cm := fun W => r7_Parse_yes (ipRest s) W (by omega) h8
  rw [← hx] at h2
  have hr : (x.k != 3) = false := by rw [h2]; rfl
  rw [h1] at co
  obtain ⟨h, hh⟩ : ∃ h, h = hdRes s := ⟨_, rfl⟩
  rw [← hh] at cp
  unfold Hd.cells at cp
  generalize ipRest s = rest at *
  obtain ⟨m, hm⟩ : ∃ m, m = msgOf rest := ⟨_, rfl⟩
  rw [← hm] at cm ⊢
  generalize ipWhy s = iw at *
  have CO := hide co; have CP := hide cp; have CM := hide cm
  clear co cp cm h1 h2 hx hh hm e1 e2 hs hsw hw hrest hp8 hsz h8
  go_enter Tryz.func88, Tryz.ntmps88
  have d0 := Cells.new w #[.int .u8 0, .int .u8 0, .int .u16 0, .string { data := #[] }, .string { data := #[] }] 164
  have bn := fresh_below w (.cells #[.int .u8 0, .int .u8 0, .int .u16 0, .string { data := #[] }, .string { data := #[] }] 164)
  have D0 := hide d0; have BN := hide bn
  clear d0 bn
  go_upto_region 1 with fail
  generalize (w.alloc (.cells #[.int .u8 0, .int .u8 0, .int .u16 0, .string { data := #[] }, .string { data := #[] }] 164)) = w1 at *
  go_upto_region 2 with (go_at_call 37; (with_reducible refine (CO.out _).mono ?_); rintro e w2 ⟨rfl, b2⟩)
  have bz := bstep b2 (fresh_below w2 (.cells #[.int .u8 x.t.p, .int .u32 x.t.a, .int .u16 x.t.b, .int .u32 x.t.c, .int .u16 x.t.d, .int .i64 x.k, .int .u8 x.f, .bool x.q, .int .u8 x.l] 40))
  have nn := Cells.new w2 #[.int .u8 x.t.p, .int .u32 x.t.a, .int .u16 x.t.b, .int .u32 x.t.c, .int .u16 x.t.d, .int .i64 x.k, .int .u8 x.f, .bool x.q, .int .u8 x.l] 40
  have HZ := hide (Cells.below bz D0.out); have LW := hide (bstep BN.out bz)
  have y5 := nn.at_ 5
  clear bz b2 D0 BN nn CO
  generalize (w2.alloc (.cells #[.int .u8 x.t.p, .int .u32 x.t.a, .int .u16 x.t.b, .int .u32 x.t.c, .int .u16 x.t.d, .int .i64 x.k, .int .u8 x.f, .bool x.q, .int .u8 x.l] 40)) = w3 at *
  go_upto_region 7 with (go_at_call 81; (with_reducible refine (CP.out _).mono ?_); rintro e w4 ⟨rfl, b4⟩)
  have bz := bstep b4 (fresh_below w4 (.cells #[.int .u8 h.t, .int .u16 h.i, .bool h.f, .int .u8 h.l, .int .u8 h.p, .int .u32 h.s, .int .u32 h.d, .string h.o] 160))
  replace HZ := hide (Cells.below bz HZ.out); replace LW := hide (bstep LW.out bz)
  clear bz b4 y5 hr CP
  generalize (w4.alloc (.cells #[.int .u8 h.t, .int .u16 h.i, .bool h.f, .int .u8 h.l, .int .u8 h.p, .int .u32 h.s, .int .u32 h.d, .string h.o] 160)) = w5 at *
  go_upto_region 8 with (go_at_call 84; (with_reducible refine (CM.out _).mono ?_); rintro e w6 ⟨rfl, b6⟩)
  have bz := bstep b6 (fresh_below w6 (.cells #[.int .u8 m.t, .int .u8 m.c, .int .u16 m.n, .string m.r, .string m.d] 164))
  have N10 := hide (Cells.new w6 #[.int .u8 m.t, .int .u8 m.c, .int .u16 m.n, .string m.r, .string m.d] 164)
  replace HZ := hide (Cells.below bz HZ.out); replace LW := hide (bstep LW.out bz)
  clear bz b6 CM
  generalize w6.heap.size = g10 at *
  generalize (w6.alloc (.cells #[.int .u8 m.t, .int .u8 m.c, .int .u16 m.n, .string m.r, .string m.d] 164)) = w7 at *
  refine wp_region_lit ?_
  refine wpList_load_all rfl 164 (.tmp 9) rfl N10.out (by rfl) _ Tryz.underlying164 rfl (by kernel_rfl) ?_
  (try simp only [Act.put, putT])
  refine wpList_store_all rfl 164 (.tmp 2) (.tmp 35) rfl (c' := #[.int .u8 m.t, .int .u8 m.c, .int .u16 m.n, .string m.r, .string m.d]) HZ.out (by rfl) (by rfl) (by kernel_rfl) rfl (by simp [Value.oneCell']) ?_
  intro W5 r5 o5 z5
  go_wp2_with fail
  (try simp only [Exit.inBlock, Exit.then])
  refine bodyPost_ret (res_cell_tmp Tryz.results88 r5 (by rfl) (by rfl) _ Tryz.underlying164 rfl (by kernel_rfl)) rfl ?_
  exact ⟨rfl, LW.out.trans (o5.below (fun j e => by omega) LW.out.size)⟩
end Go.Proofs.YtilfcikhipadpaaGreatDoor
end

section
/- What an error is about, changed, as the document says. Plain. -/
set_option linter.unusedVariables false
set_option linter.unusedSimpArgs false
namespace Go.Proofs.YtilfcikhipadpaaGreatDoor
open Go.RowKit

end Go.Proofs.YtilfcikhipadpaaGreatDoor
end

section
/- The document's Data is the program's: a plain law. -/
set_option linter.unusedVariables false
set_option linter.unusedSimpArgs false
namespace Go.Proofs.YtilfcikhipadpaaGreatDoor
open Go.RowKit

end Go.Proofs.YtilfcikhipadpaaGreatDoor
end
