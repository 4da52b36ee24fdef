/- Several texts of this claim, one behind the other. -/
import Derived.Test.YtilfcikhipadpaaGreatDoorK32
import Derived.Test.YtilfcikhipadpaaGreatDoorK33

section
/- The document's answer for rewrite (porterref09): Apply, over this program. -/
set_option linter.unusedVariables false
set_option linter.unusedSimpArgs false
namespace Go.Proofs.YtilfcikhipadpaaGreatDoor
open Go.RowKit
attribute [local go_sem] Oper.semAt_some

end Go.Proofs.YtilfcikhipadpaaGreatDoor
end

section
/- porterref10: addr, Look: what an error is about, by the document. -/
set_option linter.unusedVariables false
set_option linter.unusedSimpArgs false
namespace Go.Proofs.YtilfcikhipadpaaGreatDoor
open Go.RowKit
attribute [local go_sem] Oper.semAt_some envL lookV

theorem rd_addr (s : ByteArray) (k : Nat) (w : World) (hs : s.size ≤ 140737488351232) (h : k + 4 ≤ s.size) :
    Calls Tryz.prog 146 #[.string s, .int .i64 k] w (fun e w' => e = .returned (.int .u32 (be32 (L s) k)) ∧ w' = w) := by
  have c := fun W => q_Get32 s k W (by unfold maxLen; omega) h
  rw [get32_nat (by rw [L_length]; exact h)] at c
  generalize be32 (L s) k = x at *
  have C := hide c
  clear c hs h
  go_enter Tryz.func146, Tryz.ntmps146
  go_wp2_with (go_at_call 190; (with_reducible refine (C.out _).mono ?_); rintro e w2 ⟨rfl, rfl⟩)
  go_ret
  exact ⟨rfl, rfl⟩
/-- what Look finds -/
def lkOf (d : List UInt8) : Value := if emWhy d = 0 then .agg #[.int .i64 (emEnd d), .int .u8 (emTup d).p, .int .u32 (emTup d).a, .int .u16 (emTup d).b, .int .u32 (emTup d).c, .int .u16 (emTup d).d, .bool (emAsk d), .int .i64 0]
  else .agg #[.int .i64 0, .int .u8 0, .int .u32 0, .int .u16 0, .int .u32 0, .int .u16 0, .bool false, .int .i64 (emWhy d)]
set_option maxRecDepth 100000 in
set_option maxHeartbeats 4000000 in
theorem rd_Look_early (w : World) (s : ByteArray) (hs : s.size ≤ 140737488351232) (h : s.size < 20 ∨ (20 ≤ s.size ∧ at_ (L s) 0 / 16 ≠ 4)) :
    Calls Tryz.prog 89 #[.string s] w (Ret (.agg #[.int .i64 0, .int .u8 0, .int .u32 0, .int .u16 0, .int .u32 0, .int .u16 0, .bool false, .int .i64 15]) w) := by
  rcases h with h | ⟨h20, hv⟩
  · have q2 : (s.size : Int) < 20 := by omega
    clear h hs
    go_enter Tryz.func89, Tryz.ntmps89
    go_wp2_with fail
    (try simp only [Exit.inBlock, Exit.then])
    refine bodyPost_ret (res_cell Tryz.results89 (Cells.new w #[.int .i64 0, .int .u8 0, .int .u32 0, .int .u16 0, .int .u32 0, .int .u16 0, .bool false, .int .i64 15] 195) (by rfl) _ Tryz.underlying195 rfl (by kernel_rfl)) rfl ?_
    exact ⟨rfl, fresh_below _ _⟩
  · have q2 : ¬ (s.size : Int) < 20 := by omega
    have i5 : 0 < s.size := by omega
    have e0 : (((s[0]'i5).toNat : Nat) : Int) = at_ (L s) 0 := by rw [getElem_L s 0 (by omega)]; rfl
    have hb := at_bd (L s) 0
    have i4 : (0 : Int) < (s.size : Int) := by omega
    generalize at_ (L s) 0 = x at *
    have m1 : (x / 16 != 4) = true := by simpa using hv
    have m2 : (x / 16 == 4) = false := by simpa using hv
    clear hv hs h20
    go_enter Tryz.func89, Tryz.ntmps89
    go_wp2_with fail
    (try simp only [Exit.inBlock, Exit.then])
    refine bodyPost_ret (res_cell Tryz.results89 (Cells.new w #[.int .i64 0, .int .u8 0, .int .u32 0, .int .u16 0, .int .u32 0, .int .u16 0, .bool false, .int .i64 15] 195) (by rfl) _ Tryz.underlying195 rfl (by kernel_rfl)) rfl ?_
    exact ⟨rfl, fresh_below _ _⟩
set_option maxRecDepth 100000 in
set_option maxHeartbeats 4000000 in
theorem rd_Look_mid (w : World) (s : ByteArray) (hs : s.size ≤ 140737488351232) (h20 : 20 ≤ s.size) (hv : at_ (L s) 0 / 16 = 4) (hbad : ((emAt (L s) : Nat) : Int) < 20 ∨ (¬ ((emAt (L s) : Nat) : Int) < 20 ∧ (s.size : Int) < ((emAt (L s) : Nat) : Int)) ∨ (¬ ((emAt (L s) : Nat) : Int) < 20 ∧ ¬ (s.size : Int) < ((emAt (L s) : Nat) : Int) ∧ be16 (L s) 6 % 8192 ≠ 0) ∨ (¬ ((emAt (L s) : Nat) : Int) < 20 ∧ ¬ (s.size : Int) < ((emAt (L s) : Nat) : Int) ∧ be16 (L s) 6 % 8192 = 0 ∧ (s.size : Int) - ((emAt (L s) : Nat) : Int) < 8)) :
    Calls Tryz.prog 89 #[.string s] w (Ret (.agg #[.int .i64 0, .int .u8 0, .int .u32 0, .int .u16 0, .int .u32 0, .int .u16 0, .bool false, .int .i64 15]) w) := by
  have q2 : ¬ (s.size : Int) < 20 := by omega
  have i5 : 0 < s.size := by omega
  have e0 : (((s[0]'i5).toNat : Nat) : Int) = at_ (L s) 0 := by rw [getElem_L s 0 (by omega)]; rfl
  have hb := at_bd (L s) 0
  have i4 : (0 : Int) < (s.size : Int) := by omega
  have hkz : ((emAt (L s) : Nat) : Int) = at_ (L s) 0 % 16 * 4 := by unfold emAt emEnd; omega
  have cw := fun W => rn_Word s 6 W hs (by omega)
  rw [show ((6 : Nat) : Int) = 6 from rfl] at cw
  have hv16 := be16_bd (L s) 6
  generalize be16 (L s) 6 = v at *
  obtain ⟨k, hk⟩ : ∃ k, k = emAt (L s) := ⟨_, rfl⟩
  rw [← hk] at hkz hbad
  obtain ⟨x, hx⟩ : ∃ x, x = at_ (L s) 0 := ⟨_, rfl⟩
  rw [← hx] at e0 hb hv hkz
  have m1 : (x / 16 != 4) = false := by simpa using hv
  have m2 : (x / 16 == 4) = true := by simpa using hv
  have m5 : x.tmod 16 = x % 16 := Int.tmod_eq_emod_of_nonneg (by omega)
  obtain ⟨y, hy⟩ : ∃ y, y = x % 16 := ⟨_, rfl⟩
  rw [← hy] at hkz m5
  have hyb : 0 ≤ y ∧ y ≤ 15 := by omega
  have wy : IntKind.i64.wrap y = y := IntWalk.i64_in _ (by omega)
  have wy8 : IntKind.u8.wrap y = y := by rw [IntKind.wrap_u8]; omega
  have wz : IntKind.i64.wrap (y * 4) = (k : Int) := by rw [IntWalk.i64_in _ (by omega), hkz]
  obtain ⟨l8, hl8⟩ : ∃ l8 : Int, l8 = (s.size : Int) - (k : Int) := ⟨_, rfl⟩
  have w8 : IntKind.i64.wrap ((s.size : Int) - (k : Int)) = l8 := by rw [IntWalk.i64_in _ (by omega), hl8]
  obtain ⟨r, hr⟩ : ∃ r, r = v % 8192 := ⟨_, rfl⟩
  have m6 : v.tmod 8192 = r := by rw [hr]; exact Int.tmod_eq_emod_of_nonneg (by omega)
  have wr : IntKind.u16.wrap r = r := by rw [IntKind.wrap_u16]; omega
  have CW := hide cw
  clear cw
  rw [← hl8, ← hr] at hbad
  clear hx hy hkz hk hv hyb hl8 hr hs h20
  go_enter Tryz.func89, Tryz.ntmps89
  have d0 := Cells.new w #[.int .i64 0, .int .u8 0, .int .u32 0, .int .u16 0, .int .u32 0, .int .u16 0, .bool false, .int .i64 0] 195
  have bn := fresh_below w (.cells #[.int .i64 0, .int .u8 0, .int .u32 0, .int .u16 0, .int .u32 0, .int .u16 0, .bool false, .int .i64 0] 195)
  have D0 := hide d0; have BN := hide bn
  clear d0 bn
  go_upto_region 4 with fail
  generalize (w.alloc (.cells #[.int .i64 0, .int .u8 0, .int .u32 0, .int .u16 0, .int .u32 0, .int .u16 0, .bool false, .int .i64 0] 195)) = w1 at *
  clear q2 m1 m2 m5 wy wy8 wz e0 i4 hb
  rcases hbad with h1 | ⟨h1, h2⟩ | ⟨h1, h2, h3⟩ | ⟨h1, h2, h3, h6⟩
  · go_upto_region 5 with fail
    refine wp_region_lit ?_
    refine wpList_plain rfl fun K hK => ?_; go_simp; refine hK _ _ ?_; clear hK K
    refine wpList_store_all rfl 195 (.tmp 2) (.tmp 44) rfl (c' := #[.int .i64 0, .int .u8 0, .int .u32 0, .int .u16 0, .int .u32 0, .int .u16 0, .bool false, .int .i64 15]) D0.out (by rfl) (by rfl) (by kernel_rfl) rfl (by simp [Value.oneCell']) ?_
    intro W5 r5 o5 z5
    go_wp2_with fail
    (try simp only [Exit.inBlock, Exit.then])
    refine bodyPost_ret (res_cell Tryz.results89 r5 (by rfl) _ Tryz.underlying195 rfl (by kernel_rfl)) rfl ?_
    exact ⟨rfl, BN.out.trans (o5.below (fun j e => by omega) BN.out.size)⟩
  · go_upto_region 5 with fail
    refine wp_region_lit ?_
    refine wpList_plain rfl fun K hK => ?_; go_simp; refine hK _ _ ?_; clear hK K
    refine wpList_store_all rfl 195 (.tmp 2) (.tmp 44) rfl (c' := #[.int .i64 0, .int .u8 0, .int .u32 0, .int .u16 0, .int .u32 0, .int .u16 0, .bool false, .int .i64 15]) D0.out (by rfl) (by rfl) (by kernel_rfl) rfl (by simp [Value.oneCell']) ?_
    intro W5 r5 o5 z5
    go_wp2_with fail
    (try simp only [Exit.inBlock, Exit.then])
    refine bodyPost_ret (res_cell Tryz.results89 r5 (by rfl) _ Tryz.underlying195 rfl (by kernel_rfl)) rfl ?_
    exact ⟨rfl, BN.out.trans (o5.below (fun j e => by omega) BN.out.size)⟩
  · have h4 : (r != 0) = true := by simpa using h3
    go_upto_region 5 with (go_at_call 145; (with_reducible refine (CW.out _).mono ?_); rintro e w2 ⟨rfl, b2⟩)
    refine wp_region_lit ?_
    refine wpList_plain rfl fun K hK => ?_; go_simp; refine hK _ _ ?_; clear hK K
    refine wpList_store_all rfl 195 (.tmp 2) (.tmp 44) rfl (c' := #[.int .i64 0, .int .u8 0, .int .u32 0, .int .u16 0, .int .u32 0, .int .u16 0, .bool false, .int .i64 15]) (Cells.below b2 D0.out) (by rfl) (by rfl) (by kernel_rfl) rfl (by simp [Value.oneCell']) ?_
    intro W5 r5 o5 z5
    go_wp2_with fail
    (try simp only [Exit.inBlock, Exit.then])
    refine bodyPost_ret (res_cell Tryz.results89 r5 (by rfl) _ Tryz.underlying195 rfl (by kernel_rfl)) rfl ?_
    exact ⟨rfl, (bstep BN.out b2).trans (o5.below (fun j e => by omega) (bstep BN.out b2).size)⟩
  · have h4 : (r != 0) = false := by rw [h3]; rfl
    go_upto_region 5 with (go_at_call 145; (with_reducible refine (CW.out _).mono ?_); rintro e w2 ⟨rfl, b2⟩)
    refine wp_region_lit ?_
    refine wpList_plain rfl fun K hK => ?_; go_simp; refine hK _ _ ?_; clear hK K
    refine wpList_store_all rfl 195 (.tmp 2) (.tmp 44) rfl (c' := #[.int .i64 0, .int .u8 0, .int .u32 0, .int .u16 0, .int .u32 0, .int .u16 0, .bool false, .int .i64 15]) (Cells.below b2 D0.out) (by rfl) (by rfl) (by kernel_rfl) rfl (by simp [Value.oneCell']) ?_
    intro W5 r5 o5 z5
    go_wp2_with fail
    (try simp only [Exit.inBlock, Exit.then])
    refine bodyPost_ret (res_cell Tryz.results89 r5 (by rfl) _ Tryz.underlying195 rfl (by kernel_rfl)) rfl ?_
    exact ⟨rfl, (bstep BN.out b2).trans (o5.below (fun j e => by omega) (bstep BN.out b2).size)⟩
end Go.Proofs.YtilfcikhipadpaaGreatDoor
end

section
/- porterref10.Look, where the header is good. -/
set_option linter.unusedVariables false
set_option linter.unusedSimpArgs false
namespace Go.Proofs.YtilfcikhipadpaaGreatDoor
open Go.RowKit
attribute [local go_sem] Oper.semAt_some envL lookV

set_option maxRecDepth 100000 in
set_option maxHeartbeats 16000000 in
theorem rd_Look_good (w : World) (s : ByteArray) (hs : s.size ≤ 140737488351232) (h20 : 20 ≤ s.size) (hv : at_ (L s) 0 / 16 = 4) (f1 : ¬ ((emAt (L s) : Nat) : Int) < 20) (f2 : ¬ (s.size : Int) - ((emAt (L s) : Nat) : Int) < 8) (g3 : be16 (L s) 6 % 8192 = 0) :
    Calls Tryz.prog 89 #[.string s] w (Ret (lkOf (L s)) w) := by
  have hnw : ∀ r, (at_ (L s) 9 = 6 ∨ at_ (L s) 9 = 17 → r = 0) → (¬ (at_ (L s) 9 = 6 ∨ at_ (L s) 9 = 17) → at_ (L s) 9 ≠ 1 → r = 6) → (¬ (at_ (L s) 9 = 6 ∨ at_ (L s) 9 = 17) → ¬ at_ (L s) 9 ≠ 1 → r = if qIs (emMsg (L s)) = true then 0 else 15) → emWhy (L s) = r := by
    intro r h1 h2 h3
    have he : ((emAt (L s) : Nat) : Int) = emEnd (L s) := by unfold emAt; have := at_bd (L s) 0; unfold emEnd; omega
    have hL := L_length s
    unfold emWhy
    rw [if_neg (by omega), if_neg (by omega)]
    by_cases c1 : at_ (L s) 9 = 6 ∨ at_ (L s) 9 = 17
    · rw [if_pos c1, h1 c1]
    · rw [if_neg c1]
      by_cases c2 : at_ (L s) 9 ≠ 1
      · rw [if_pos c2, h2 c1 c2]
      · rw [if_neg c2, h3 c1 c2]
  have hee : emEnd (L s) = ((emAt (L s) : Nat) : Int) := by unfold emAt; have := at_bd (L s) 0; unfold emEnd; omega
  have rF : at_ (L s) 9 = 6 ∨ at_ (L s) 9 = 17 → lkOf (L s) = .agg #[.int .i64 ((emAt (L s) : Nat) : Int), .int .u8 (at_ (L s) 9), .int .u32 (be32 (L s) 12), .int .u16 (be16 (L s) (emAt (L s))), .int .u32 (be32 (L s) 16), .int .u16 (be16 (L s) (emAt (L s) + 2)), .bool false, .int .i64 0] := by
    intro h
    have h1 := hnw 0 (fun _ => rfl) (fun a => absurd h a) (fun a => absurd h a)
    have h2 : emAsk (L s) = false := by unfold emAsk; rcases h with h | h <;> rw [h] <;> rfl
    unfold lkOf
    rw [if_pos h1, h2, hee]
    unfold emTup
    rw [if_pos h]
  have rO : at_ (L s) 9 ≠ 6 → at_ (L s) 9 ≠ 17 → at_ (L s) 9 ≠ 1 → lkOf (L s) = .agg #[.int .i64 0, .int .u8 0, .int .u32 0, .int .u16 0, .int .u32 0, .int .u16 0, .bool false, .int .i64 6] := by
    intro a1 a2 a3
    have h1 := hnw 6 (fun h => by omega) (fun _ _ => rfl) (fun _ h => absurd a3 h)
    unfold lkOf
    rw [h1, if_neg (by decide)]
  have rN : at_ (L s) 9 = 1 → qIs (emMsg (L s)) = false → lkOf (L s) = .agg #[.int .i64 0, .int .u8 0, .int .u32 0, .int .u16 0, .int .u32 0, .int .u16 0, .bool false, .int .i64 15] := by
    intro a1 a2
    have h1 := hnw 15 (fun h => by omega) (fun _ h => absurd a1 h) (fun _ _ => by rw [a2]; rfl)
    unfold lkOf
    rw [h1, if_neg (by decide)]
  have rA : at_ (L s) 9 = 1 → qIs (emMsg (L s)) = true → qAsk (emMsg (L s)) = true → lkOf (L s) = .agg #[.int .i64 ((emAt (L s) : Nat) : Int), .int .u8 1, .int .u32 (be32 (L s) 12), .int .u16 (be16 (L s) (emAt (L s) + 4)), .int .u32 (be32 (L s) 16), .int .u16 0, .bool true, .int .i64 0] := by
    intro a1 a2 a3
    have h1 := hnw 0 (fun h => by omega) (fun _ h => absurd a1 h) (fun _ _ => by rw [a2]; rfl)
    have h2 : emAsk (L s) = true := by unfold emAsk; rw [a1, a3]; rfl
    unfold lkOf
    rw [if_pos h1, h2, hee]
    unfold emTup
    rw [if_neg (by omega), if_pos a3, a1]
  have rT : at_ (L s) 9 = 1 → qIs (emMsg (L s)) = true → qAsk (emMsg (L s)) = false → lkOf (L s) = .agg #[.int .i64 ((emAt (L s) : Nat) : Int), .int .u8 1, .int .u32 (be32 (L s) 12), .int .u16 0, .int .u32 (be32 (L s) 16), .int .u16 (be16 (L s) (emAt (L s) + 4)), .bool false, .int .i64 0] := by
    intro a1 a2 a3
    have h1 := hnw 0 (fun h => by omega) (fun _ h => absurd a1 h) (fun _ _ => by rw [a2]; rfl)
    have h2 : emAsk (L s) = false := by unfold emAsk; rw [a1, a3]; rfl
    unfold lkOf
    rw [if_pos h1, h2, hee]
    unfold emTup
    rw [if_neg (by omega), if_neg (by rw [a3]; decide), a1]
  obtain ⟨RV, hRV⟩ : ∃ RV, lkOf (L s) = RV := ⟨_, rfl⟩
  rw [hRV] at rF rO rN rA rT ⊢
  clear hRV hnw hee
  have cA := fun W => rd_addr s 12 W hs (by omega)
  have cB := fun W => rd_addr s 16 W hs (by omega)
  rw [show ((12 : Nat) : Int) = 12 from rfl] at cA
  rw [show ((16 : Nat) : Int) = 16 from rfl] at cB
  have k9 : 9 < s.size := by omega
  have e9 : (((s[9]'k9).toNat : Nat) : Int) = at_ (L s) 9 := by rw [getElem_L s 9 (by omega)]; rfl
  have j9 : (9 : Int) < (s.size : Int) := by omega
  obtain ⟨rt, hrt⟩ : ∃ rt, rt = s.extract (emAt (L s)) s.size := ⟨_, rfl⟩
  have hLr : L rt = (L s).drop (emAt (L s)) := by rw [hrt]; exact L_from s _
  have hrz : rt.size = s.size - emAt (L s) := by rw [hrt]; simp
  have hr8 : 8 ≤ rt.size := by rw [hrz]; omega
  have cr0 := fun W => rn_Word rt 0 W (by omega) (by omega)
  have cr2 := fun W => rn_Word rt 2 W (by omega) (by omega)
  have cr4 := fun W => rn_Word rt 4 W (by omega) (by omega)
  rw [hLr, be16_drop, Nat.add_zero, show ((0 : Nat) : Int) = 0 from rfl] at cr0
  rw [hLr, be16_drop, show ((2 : Nat) : Int) = 2 from rfl] at cr2
  rw [hLr, be16_drop, show ((4 : Nat) : Int) = 4 from rfl] at cr4
  have cq := fun W => r7_Query (emMsg (L s)) W
  have ha0 : (emMsg (L s)).t = at_ (L s) (emAt (L s)) := rfl
  have ha1 : (emMsg (L s)).c = at_ (L s) (emAt (L s) + 1) := rfl
  rw [ha0, ha1, show (emMsg (L s)).n = 0 from rfl, show (emMsg (L s)).r = { data := #[] } from rfl, show (emMsg (L s)).d = { data := #[] } from rfl] at cq
  have b0 : 0 < rt.size := by omega
  have b1 : 1 < rt.size := by omega
  have u0 : (((rt[0]'b0).toNat : Nat) : Int) = at_ (L s) (emAt (L s)) := by rw [getElem_L _ 0 (by omega)]; show at_ _ 0 = _; rw [hLr, at_drop]; rfl
  have u1 : (((rt[1]'b1).toNat : Nat) : Int) = at_ (L s) (emAt (L s) + 1) := by rw [getElem_L _ 1 (by omega)]; show at_ _ 1 = _; rw [hLr, at_drop]
  have j0 : (0 : Int) < (rt.size : Int) := by omega
  have j1 : (1 : Int) < (rt.size : Int) := by omega
  clear ha0 ha1 hLr hrz hr8
  generalize be32 (L s) 12 = va at *
  generalize be32 (L s) 16 = vb at *
  generalize be16 (L s) (emAt (L s) + 4) = id at *
  generalize be16 (L s) (emAt (L s) + 2) = vd at *
  generalize be16 (L s) (emAt (L s)) = vs at *
  generalize at_ (L s) (emAt (L s) + 1) = x1 at *
  generalize at_ (L s) (emAt (L s)) = x0 at *
  generalize at_ (L s) 9 = p at *
  generalize qAsk (emMsg (L s)) = ask at *
  generalize qIs (emMsg (L s)) = is at *
  have q2 : ¬ (s.size : Int) < 20 := by omega
  have i5 : 0 < s.size := by omega
  have e0 : (((s[0]'i5).toNat : Nat) : Int) = at_ (L s) 0 := by rw [getElem_L s 0 (by omega)]; rfl
  have hb := at_bd (L s) 0
  have i4 : (0 : Int) < (s.size : Int) := by omega
  have hkz : ((emAt (L s) : Nat) : Int) = at_ (L s) 0 % 16 * 4 := by unfold emAt emEnd; omega
  have cw := fun W => rn_Word s 6 W hs (by omega)
  rw [show ((6 : Nat) : Int) = 6 from rfl] at cw
  have hv16 := be16_bd (L s) 6
  generalize be16 (L s) 6 = v at *
  obtain ⟨k, hk⟩ : ∃ k, k = emAt (L s) := ⟨_, rfl⟩
  rw [← hk] at hkz f1 f2 rF rA rT hrt
  obtain ⟨x, hx⟩ : ∃ x, x = at_ (L s) 0 := ⟨_, rfl⟩
  rw [← hx] at e0 hb hv hkz
  have m1 : (x / 16 != 4) = false := by simpa using hv
  have m2 : (x / 16 == 4) = true := by simpa using hv
  have m5 : x.tmod 16 = x % 16 := Int.tmod_eq_emod_of_nonneg (by omega)
  obtain ⟨y, hy⟩ : ∃ y, y = x % 16 := ⟨_, rfl⟩
  rw [← hy] at hkz m5
  have hyb : 0 ≤ y ∧ y ≤ 15 := by omega
  have wy : IntKind.i64.wrap y = y := IntWalk.i64_in _ (by omega)
  have wy8 : IntKind.u8.wrap y = y := by rw [IntKind.wrap_u8]; omega
  have wz : IntKind.i64.wrap (y * 4) = (k : Int) := by rw [IntWalk.i64_in _ (by omega), hkz]
  obtain ⟨l8, hl8⟩ : ∃ l8 : Int, l8 = (s.size : Int) - (k : Int) := ⟨_, rfl⟩
  have w8 : IntKind.i64.wrap ((s.size : Int) - (k : Int)) = l8 := by rw [IntWalk.i64_in _ (by omega), hl8]
  obtain ⟨r, hr⟩ : ∃ r, r = v % 8192 := ⟨_, rfl⟩
  have m6 : v.tmod 8192 = r := by rw [hr]; exact Int.tmod_eq_emod_of_nonneg (by omega)
  have wr : IntKind.u16.wrap r = r := by rw [IntKind.wrap_u16]; omega
  have CW := hide cw
  clear cw
  have i7 : (k : Int) ≤ (s.size : Int) := by omega
  have i8 : ¬ (s.size : Int) < (k : Int) := by omega
  have i9 : k ≤ s.size := by omega
  rw [← hl8] at f2
  rw [← hr] at g3
  have h4 : (r != 0) = false := by rw [g3]; rfl
  have CA := hide cA; have CB := hide cB; have CR0 := hide cr0; have CR2 := hide cr2; have CR4 := hide cr4; have CQ := hide cq
  have RF := hide rF; have RO := hide rO; have RN := hide rN; have RA := hide rA; have RT := hide rT
  have HRT := hide hrt
  clear cA cB cr0 cr2 cr4 cq rF rO rN rA rT hx hy hkz hk hv hyb hl8 hr hs h20 g3 hrt
  go_enter Tryz.func89, Tryz.ntmps89
  have d0 := Cells.new w #[.int .i64 0, .int .u8 0, .int .u32 0, .int .u16 0, .int .u32 0, .int .u16 0, .bool false, .int .i64 0] 195
  have bn := fresh_below w (.cells #[.int .i64 0, .int .u8 0, .int .u32 0, .int .u16 0, .int .u32 0, .int .u16 0, .bool false, .int .i64 0] 195)
  have D0 := hide d0; have BN := hide bn
  clear d0 bn
  go_upto_region 4 with fail
  generalize (w.alloc (.cells #[.int .i64 0, .int .u8 0, .int .u32 0, .int .u16 0, .int .u32 0, .int .u16 0, .bool false, .int .i64 0] 195)) = w1 at *
  clear q2 m1 m2 m5 wy wy8 wz e0 i4 hb
  go_upto_region 6 with (go_at_call 145; (with_reducible refine (CW.out _).mono ?_); rintro e w2 ⟨rfl, b2⟩)
  have D2 := hide (Cells.below b2 D0.out); have B2 := hide (bstep BN.out b2)
  clear BN D0 b2 f1 f2 h4 m6 wr w8 i8 CW hv16
  refine' share (P := _) (fun key => ?main) ?rest
  case main =>
    refine wp_region_held_drew (S := fun _ => True) (by kernel_rfl) trivial (fun _ => ?_)
    refine tH 0 rfl trivial ?_
    try simp only [Act.put, putT]
    refine tH 1 rfl trivial ?_
    try simp only [Act.put, putT]
    refine tH 2 rfl trivial ?_
    try simp only [Act.put, putT]
    refine tH 3 rfl trivial ?_
    try simp only [Act.put, putT]
    refine tH 6 rfl trivial ?_
    try simp only [Act.put, putT]
    refine wpAnyH_ready (rs := [4, 11]) (by kernel_rfl) (by simp) ?_
    refine AllReadyH.cons rfl (fun K hK => ?_) (AllReadyH.cons rfl (fun K hK => ?_) AllReadyH.nil)
    · skip
      rw [if_pos (by rfl)]
      (try simp only [putG])
      go_simp
      (with_reducible refine (CA.out _).mono ?_)
      rintro e wq ⟨rfl, rfl⟩
      (try rw [alloc_drewN])
      try go_wp2_with fail
      refine hK.out _ _ trivial (fun _ => ?_)
      clear hK K
      try simp only [Act.put, putT]
      refine tH 5 rfl trivial ?_
      try simp only [Act.put, putT]
      refine wpAnyH_ready (rs := [7, 11]) (by kernel_rfl) (by simp) ?_
      refine AllReadyH.cons rfl (fun K hK => ?_) (AllReadyH.cons rfl (fun K hK => ?_) AllReadyH.nil)
      · skip
        rw [if_pos (by rfl)]
        (try simp only [putG])
        go_simp
        (with_reducible refine (CB.out _).mono ?_)
        rintro e wq ⟨rfl, rfl⟩
        (try rw [alloc_drewN])
        try go_wp2_with fail
        refine hK.out _ _ trivial (fun _ => ?_)
        clear hK K
        try simp only [Act.put, putT]
        refine tH 8 rfl trivial ?_
        try simp only [Act.put, putT]
        refine tH 9 rfl trivial ?_
        try simp only [Act.put, putT]
        refine tH 10 rfl trivial ?_
        try simp only [Act.put, putT]
        refine wpAnyH_ready (rs := [11]) (by kernel_rfl) (by simp) ?_
        refine AllReadyH.cons rfl (fun K hK => ?_) AllReadyH.nil
        rw [if_pos (by rfl)]
        (try simp only [putG])
        go_simp
        refine hK.out _ _ trivial (fun _ => ?_)
        clear hK K
        try simp only [Act.put, putT]
        refine wpAnyH_ready (rs := [12]) (by kernel_rfl) (by simp) ?_
        refine AllReadyH.cons rfl (fun K hK => ?_) AllReadyH.nil
        rw [if_pos (by rfl)]
        (try simp only [putG])
        go_simp
        refine hK.out _ _ trivial (fun _ => ?_)
        clear hK K
        try simp only [Act.put, putT]
        refine wpAnyH_done (by kernel_rfl) ?_ _
        exact key
      · skip
        rw [if_pos (by rfl)]
        (try simp only [putG])
        go_simp
        refine hK.out _ _ trivial (fun _ => ?_)
        clear hK K
        try simp only [Act.put, putT]
        refine wpAnyH_ready (rs := [7]) (by kernel_rfl) (by simp) ?_
        refine AllReadyH.cons rfl (fun K hK => ?_) AllReadyH.nil
        rw [if_pos (by rfl)]
        (try simp only [putG])
        go_simp
        (with_reducible refine (CB.out _).mono ?_)
        rintro e wq ⟨rfl, rfl⟩
        (try rw [alloc_drewN])
        try go_wp2_with fail
        refine hK.out _ _ trivial (fun _ => ?_)
        clear hK K
        try simp only [Act.put, putT]
        refine tH 8 rfl trivial ?_
        try simp only [Act.put, putT]
        refine tH 9 rfl trivial ?_
        try simp only [Act.put, putT]
        refine tH 10 rfl trivial ?_
        try simp only [Act.put, putT]
        refine wpAnyH_ready (rs := [12]) (by kernel_rfl) (by simp) ?_
        refine AllReadyH.cons rfl (fun K hK => ?_) AllReadyH.nil
        rw [if_pos (by rfl)]
        (try simp only [putG])
        go_simp
        refine hK.out _ _ trivial (fun _ => ?_)
        clear hK K
        try simp only [Act.put, putT]
        refine wpAnyH_done (by kernel_rfl) ?_ _
        exact key
    · skip
      rw [if_pos (by rfl)]
      (try simp only [putG])
      go_simp
      refine hK.out _ _ trivial (fun _ => ?_)
      clear hK K
      try simp only [Act.put, putT]
      refine wpAnyH_ready (rs := [4]) (by kernel_rfl) (by simp) ?_
      refine AllReadyH.cons rfl (fun K hK => ?_) AllReadyH.nil
      rw [if_pos (by rfl)]
      (try simp only [putG])
      go_simp
      (with_reducible refine (CA.out _).mono ?_)
      rintro e wq ⟨rfl, rfl⟩
      (try rw [alloc_drewN])
      try go_wp2_with fail
      refine hK.out _ _ trivial (fun _ => ?_)
      clear hK K
      try simp only [Act.put, putT]
      refine tH 5 rfl trivial ?_
      try simp only [Act.put, putT]
      refine wpAnyH_ready (rs := [7]) (by kernel_rfl) (by simp) ?_
      refine AllReadyH.cons rfl (fun K hK => ?_) AllReadyH.nil
      rw [if_pos (by rfl)]
      (try simp only [putG])
      go_simp
      (with_reducible refine (CB.out _).mono ?_)
      rintro e wq ⟨rfl, rfl⟩
      (try rw [alloc_drewN])
      try go_wp2_with fail
      refine hK.out _ _ trivial (fun _ => ?_)
      clear hK K
      try simp only [Act.put, putT]
      refine tH 8 rfl trivial ?_
      try simp only [Act.put, putT]
      refine tH 9 rfl trivial ?_
      try simp only [Act.put, putT]
      refine tH 10 rfl trivial ?_
      try simp only [Act.put, putT]
      refine wpAnyH_ready (rs := [12]) (by kernel_rfl) (by simp) ?_
      refine AllReadyH.cons rfl (fun K hK => ?_) AllReadyH.nil
      rw [if_pos (by rfl)]
      (try simp only [putG])
      go_simp
      refine hK.out _ _ trivial (fun _ => ?_)
      clear hK K
      try simp only [Act.put, putT]
      refine wpAnyH_done (by kernel_rfl) ?_ _
      exact key
  case rest =>
    have h4 : Cells (w2.alloc (.cells #[.int .i64 (k : Int), .int .u8 p, .int .u32 va, .int .u16 0, .int .u32 vb, .int .u16 0, .bool false, .int .i64 0] 195)).drew w2.heap.size #[.int .i64 (k : Int), .int .u8 p, .int .u32 va, .int .u16 0, .int .u32 vb, .int .u16 0, .bool false, .int .i64 0] 195 := Cells.new w2 _ _
    have r4 : Cells (w2.alloc (.cells #[.int .i64 (k : Int), .int .u8 p, .int .u32 va, .int .u16 0, .int .u32 vb, .int .u16 0, .bool false, .int .i64 0] 195)).drew w.heap.size #[.int .i64 0, .int .u8 0, .int .u32 0, .int .u16 0, .int .u32 0, .int .u16 0, .bool false, .int .i64 0] 195 := Cells.alloc D2.out _
    have b4 : Below w.heap.size w (w2.alloc (.cells #[.int .i64 (k : Int), .int .u8 p, .int .u32 va, .int .u16 0, .int .u32 vb, .int .u16 0, .bool false, .int .i64 0] 195)).drew := (bstep B2.out (fresh_below _ _)).drew
    have hlt : w.heap.size < w2.heap.size := Cells.lt D2.out
    have H4 := hide h4; have R4 := hide r4; have B4 := hide b4
    clear h4 r4 b4 D2 B2 CA CB
    generalize (w2.alloc (.cells #[.int .i64 (k : Int), .int .u8 p, .int .u32 va, .int .u16 0, .int .u32 vb, .int .u16 0, .bool false, .int .i64 0] 195)).drew = w5 at *
    generalize w2.heap.size = g4 at *
    go_upto_region 8 with fail
    rw [← HRT.out]
    clear i7 i9 HRT
    have h4 := H4.out
    have bb : Below w5.heap.size w5 w5 := Below.refl _ _
    have qh4_1 : ∀ W', Below w5.heap.size w5 W' → World.cell? W' ⟨g4, 1, none⟩ = some (.int .u8 p) := fun W' h => Cells.at_ (Cells.below h h4) 1
    have s3 : ∀ W', Below w5.heap.size w5 W' → W'.cell? ⟨g4, 3, none⟩ = some (.int .u16 0) := fun W' h => (Cells.below h h4).at_ 3
    have t3 : ∀ W', Below w5.heap.size w5 W' → W'.frozen? ⟨g4, 3, none⟩ = false := fun W' h => (Cells.below h h4).free 3
    have s5 : ∀ W', Below w5.heap.size w5 W' → W'.cell? ⟨g4, 5, none⟩ = some (.int .u16 0) := fun W' h => (Cells.below h h4).at_ 5
    have t5 : ∀ W', Below w5.heap.size w5 W' → W'.frozen? ⟨g4, 5, none⟩ = false := fun W' h => (Cells.below h h4).free 5
    clear h4
    by_cases pf : p = 6 ∨ p = 17
    · have hrv := RF.out pf
      have HV := hide hrv
      have pq : (p == 6) = true ∨ ((p == 6) = false ∧ (p == 17) = true) := by rcases pf with h | h <;> simp [h]
      clear hrv pf RF RO RN RA RT
      have k53 : ∀ W', Below w5.heap.size w5 W' → (W'.setCell ⟨g4, 3, none⟩ (.int .u16 vs)).cell? ⟨g4, 5, none⟩ = some (.int .u16 0) := fun W' h => (Cells.set_ (Cells.below h H4.out) 3 (.int .u16 vs)).at_ 5
      have l53 : ∀ W', Below w5.heap.size w5 W' → (W'.setCell ⟨g4, 3, none⟩ (.int .u16 vs)).frozen? ⟨g4, 5, none⟩ = false := fun W' h => (Cells.set_ (Cells.below h H4.out) 3 (.int .u16 vs)).free 5
      rcases pq with q6 | ⟨q6, q17⟩
      all_goals
        go_upto_region 10 with (go_at_call 145; (first | (with_reducible refine (CR0.out _).mono ?_) | (with_reducible refine (CR2.out _).mono ?_)); rintro e wx ⟨rfl, bx⟩; have sx := bstep (by with_reducible assumption : Below w5.heap.size w5 _) bx; clear bx)
        have hg : Cells ((wx.setCell ⟨g4, 3, none⟩ (.int .u16 vs)).setCell ⟨g4, 5, none⟩ (.int .u16 vd)) g4 #[.int .i64 (k : Int), .int .u8 p, .int .u32 va, .int .u16 vs, .int .u32 vb, .int .u16 vd, .bool false, .int .i64 0] 195 := Cells.like (Cells.set_ (Cells.set_ (Cells.below sx H4.out) 3 (.int .u16 vs)) 5 (.int .u16 vd)) (by simp)
        have hz : Cells ((wx.setCell ⟨g4, 3, none⟩ (.int .u16 vs)).setCell ⟨g4, 5, none⟩ (.int .u16 vd)) w.heap.size #[.int .i64 0, .int .u8 0, .int .u32 0, .int .u16 0, .int .u32 0, .int .u16 0, .bool false, .int .i64 0] 195 := Cells.only (Cells.below sx R4.out) (Only.setAt (Only.setAt (Only.refl (fun i => i = g4) wx) 3 (.int .u16 vs) (Or.inl rfl)) 5 (.int .u16 vd) (Or.inl rfl)) (by omega)
        have lw : Below w.heap.size w ((wx.setCell ⟨g4, 3, none⟩ (.int .u16 vs)).setCell ⟨g4, 5, none⟩ (.int .u16 vd)) := Below.setCell (Below.setCell (bstep B4.out sx) (Nat.le_of_lt hlt) _) (Nat.le_of_lt hlt) _
        have HG := hide hg; have HZ := hide hz; have LW := hide lw
        clear hg hz lw sx bb s3 t3 s5 t5 k53 l53 qh4_1 H4 R4 B4 CR0 CR2 CR4 CQ
        generalize ((wx.setCell ⟨g4, 3, none⟩ (.int .u16 vs)).setCell ⟨g4, 5, none⟩ (.int .u16 vd)) = wf at *
        refine wp_region_lit ?_
        refine wpList_load_all rfl 195 (.tmp 4) rfl HG.out (by rfl) _ Tryz.underlying195 rfl (by kernel_rfl) ?_
        (try simp only [Act.put, putT])
        refine wpList_store_all rfl 195 (.tmp 2) (.tmp 79) rfl (c' := #[.int .i64 (k : Int), .int .u8 p, .int .u32 va, .int .u16 vs, .int .u32 vb, .int .u16 vd, .bool false, .int .i64 0]) HZ.out (by rfl) (by rfl) (by kernel_rfl) rfl (by simp [Value.oneCell']) ?_
        intro W5 r5 o5 z5
        go_wp2_with fail
        (try simp only [Exit.inBlock, Exit.then])
        refine bodyPost_ret (res_cell Tryz.results89 r5 (by rfl) _ Tryz.underlying195 rfl (by kernel_rfl)) rfl ?_
        exact ⟨by rw [HV.out], LW.out.trans (o5.below (fun j e => by omega) LW.out.size)⟩
    · by_cases p1 : p = 1
      rotate_left 1
      · have hrv := RO.out (by omega) (by omega) p1
        have HV := hide hrv
        have q6 : (p == 6) = false := by simp; omega
        have q17 : (p == 17) = false := by simp; omega
        have q1 : (p != 1) = true := by simpa using p1
        clear hrv pf p1 RF RO RN RA RT s3 t3 s5 t5
        go_upto_region 12 with fail
        refine wp_region_lit ?_
        refine wpList_plain rfl fun K hK => ?_; go_simp; refine hK _ _ ?_; clear hK K
        refine wpList_store_all rfl 195 (.tmp 2) (.tmp 84) rfl (c' := #[.int .i64 0, .int .u8 0, .int .u32 0, .int .u16 0, .int .u32 0, .int .u16 0, .bool false, .int .i64 6]) R4.out (by rfl) (by rfl) (by kernel_rfl) rfl (by simp [Value.oneCell']) ?_
        intro W5 r5 o5 z5
        go_wp2_with fail
        (try simp only [Exit.inBlock, Exit.then])
        refine bodyPost_ret (res_cell Tryz.results89 r5 (by rfl) _ Tryz.underlying195 rfl (by kernel_rfl)) rfl ?_
        exact ⟨by rw [HV.out], B4.out.trans (o5.below (fun j e => by omega) B4.out.size)⟩
      · subst p1
        have RN1 := hide (RN.out rfl); have RA1 := hide (RA.out rfl); have RT1 := hide (RT.out rfl)
        clear pf RF RO RN RA RT s3 t3 s5 t5
        go_upto_region 13 with fail
        have s13 : Below w5.heap.size w5 w5.drew := Below.drew bb
        focus
          refine wp_region_J [] (fun W => Below w5.heap.size w5 W) (by kernel_rfl) (s13) (fun hS0 => ?_)
          refine tJ 0 rfl hS0 ?_
          (try simp only [Act.put, putS])
          refine tJ 1 rfl hS0 ?_
          (try simp only [Act.put, putS])
          refine tJ 2 rfl hS0 ?_
          (try simp only [Act.put, putS])
          refine tJ 3 rfl hS0 ?_
          (try simp only [Act.put, putS])
          refine tJ 4 rfl hS0 ?_
          (try simp only [Act.put, putS])
          refine rJ [5] ?_
          refine (AllReadyJ.cons rfl (fun K hK => ?_) AllReadyJ.nil)
          rw [if_pos (by kernel_rfl)]
          (try simp only [putG])
          (focus go_simp)
          (focus ((with_reducible refine (CQ.out _).mono ?_); rintro e wq ⟨rfl, bq⟩; have sq := bstep hS0 bq))
          (focus (try go_wp2_with fail))
          refine hK.out _ _ ?hs (fun hS0 => ?_)
          case hs => (first | with_reducible exact hS0 | with_reducible exact sq)
          clear hK K
          (try simp only [Act.put, putS])
          refine tJ 6 rfl hS0 ?_
          (try simp only [Act.put, putS])
          refine tJ 7 rfl hS0 ?_
          (try simp only [Act.put, putS])
          refine tJ 8 rfl hS0 ?_
          (try simp only [Act.put, putS])
          refine tJ 9 rfl hS0 ?_
          (try simp only [Act.put, putS])
          refine tJ 10 rfl hS0 ?_
          (try simp only [Act.put, putS])
          refine wpAnyJ_done (by kernel_rfl) ?_ _
        have h6 := Cells.below hS0 H4.out
        have H6 := hide h6; have R6 := hide (Cells.below hS0 R4.out); have B6 := hide (bstep B4.out hS0)
        clear h6 s13 hS0 sq bq bb qh4_1 H4 R4 B4 CQ u0 u1 j0 j1
        cases is
        · have HV := hide (RN1.out rfl)
          clear RN1 RA1 RT1
          go_upto_region 15 with fail
          refine wp_region_lit ?_
          refine wpList_plain rfl fun K hK => ?_; go_simp; refine hK _ _ ?_; clear hK K
          refine wpList_store_all rfl 195 (.tmp 2) (.tmp 96) rfl (c' := #[.int .i64 0, .int .u8 0, .int .u32 0, .int .u16 0, .int .u32 0, .int .u16 0, .bool false, .int .i64 15]) R6.out (by rfl) (by rfl) (by kernel_rfl) rfl (by simp [Value.oneCell']) ?_
          intro W5 r5 o5 z5
          go_wp2_with fail
          (try simp only [Exit.inBlock, Exit.then])
          refine bodyPost_ret (res_cell Tryz.results89 r5 (by rfl) _ Tryz.underlying195 rfl (by kernel_rfl)) rfl ?_
          exact ⟨by rw [HV.out], B6.out.trans (o5.below (fun j e => by omega) B6.out.size)⟩
        · have y6 : wq.cell? ⟨g4, 6, none⟩ = some (.bool false) := H6.out.at_ 6
          have f6 : wq.frozen? ⟨g4, 6, none⟩ = false := H6.out.free 6
          go_upto_region 17 with fail
          have h7 : Cells (wq.setCell ⟨g4, 6, none⟩ (.bool ask)) g4 #[.int .i64 (k : Int), .int .u8 1, .int .u32 va, .int .u16 0, .int .u32 vb, .int .u16 0, .bool ask, .int .i64 0] 195 := Cells.like (Cells.set_ H6.out 6 (.bool ask)) (by simp)
          have r7 : Cells (wq.setCell ⟨g4, 6, none⟩ (.bool ask)) w.heap.size #[.int .i64 0, .int .u8 0, .int .u32 0, .int .u16 0, .int .u32 0, .int .u16 0, .bool false, .int .i64 0] 195 := Cells.only R6.out (Only.setAt (Only.refl (fun i => i = g4) wq) 6 (.bool ask) (Or.inl rfl)) (by omega)
          have b7 : Below w.heap.size w (wq.setCell ⟨g4, 6, none⟩ (.bool ask)) := Below.setCell B6.out (Nat.le_of_lt hlt) _
          have H7 := hide h7; have R7 := hide r7; have B7 := hide b7
          clear h7 r7 b7 y6 f6 H6 R6 B6
          generalize (wq.setCell ⟨g4, 6, none⟩ (.bool ask)) = w7 at *
          have bb : Below w7.heap.size w7 w7 := Below.refl _ _
          have s3 : ∀ W', Below w7.heap.size w7 W' → W'.cell? ⟨g4, 3, none⟩ = some (.int .u16 0) := fun W' h => (Cells.below h H7.out).at_ 3
          have t3 : ∀ W', Below w7.heap.size w7 W' → W'.frozen? ⟨g4, 3, none⟩ = false := fun W' h => (Cells.below h H7.out).free 3
          have s5 : ∀ W', Below w7.heap.size w7 W' → W'.cell? ⟨g4, 5, none⟩ = some (.int .u16 0) := fun W' h => (Cells.below h H7.out).at_ 5
          have t5 : ∀ W', Below w7.heap.size w7 W' → W'.frozen? ⟨g4, 5, none⟩ = false := fun W' h => (Cells.below h H7.out).free 5
          cases ask
          · have HV := hide (RT1.out rfl rfl)
            clear RN1 RA1 RT1
            go_upto_region 20 with (go_at_call 145; (with_reducible refine (CR4.out _).mono ?_); rintro e wx ⟨rfl, bx⟩)
            have hg : Cells (wx.setCell ⟨g4, 5, none⟩ (.int .u16 id)) g4 #[.int .i64 (k : Int), .int .u8 1, .int .u32 va, .int .u16 0, .int .u32 vb, .int .u16 id, .bool false, .int .i64 0] 195 := Cells.like (Cells.set_ (Cells.below bx H7.out) 5 (.int .u16 id)) (by simp)
            have hz : Cells (wx.setCell ⟨g4, 5, none⟩ (.int .u16 id)) w.heap.size #[.int .i64 0, .int .u8 0, .int .u32 0, .int .u16 0, .int .u32 0, .int .u16 0, .bool false, .int .i64 0] 195 := Cells.only (Cells.below bx R7.out) (Only.setAt (Only.refl (fun i => i = g4) wx) 5 (.int .u16 id) (Or.inl rfl)) (by omega)
            have lw : Below w.heap.size w (wx.setCell ⟨g4, 5, none⟩ (.int .u16 id)) := Below.setCell (bstep B7.out bx) (Nat.le_of_lt hlt) _
            have HG := hide hg; have HZ := hide hz; have LW := hide lw
            clear hg hz lw bx bb s3 t3 s5 t5 H7 R7 B7
            generalize (wx.setCell ⟨g4, 5, none⟩ (.int .u16 id)) = wf at *
            refine wp_region_lit ?_
            refine wpList_load_all rfl 195 (.tmp 4) rfl HG.out (by rfl) _ Tryz.underlying195 rfl (by kernel_rfl) ?_
            (try simp only [Act.put, putT])
            refine wpList_store_all rfl 195 (.tmp 2) (.tmp 110) rfl (c' := #[.int .i64 (k : Int), .int .u8 1, .int .u32 va, .int .u16 0, .int .u32 vb, .int .u16 id, .bool false, .int .i64 0]) HZ.out (by rfl) (by rfl) (by kernel_rfl) rfl (by simp [Value.oneCell']) ?_
            intro W5 r5 o5 z5
            go_wp2_with fail
            (try simp only [Exit.inBlock, Exit.then])
            refine bodyPost_ret (res_cell Tryz.results89 r5 (by rfl) _ Tryz.underlying195 rfl (by kernel_rfl)) rfl ?_
            exact ⟨by rw [HV.out], LW.out.trans (o5.below (fun j e => by omega) LW.out.size)⟩
          · have HV := hide (RA1.out rfl rfl)
            clear RN1 RA1 RT1
            go_upto_region 20 with (go_at_call 145; (with_reducible refine (CR4.out _).mono ?_); rintro e wx ⟨rfl, bx⟩)
            have hg : Cells (wx.setCell ⟨g4, 3, none⟩ (.int .u16 id)) g4 #[.int .i64 (k : Int), .int .u8 1, .int .u32 va, .int .u16 id, .int .u32 vb, .int .u16 0, .bool true, .int .i64 0] 195 := Cells.like (Cells.set_ (Cells.below bx H7.out) 3 (.int .u16 id)) (by simp)
            have hz : Cells (wx.setCell ⟨g4, 3, none⟩ (.int .u16 id)) w.heap.size #[.int .i64 0, .int .u8 0, .int .u32 0, .int .u16 0, .int .u32 0, .int .u16 0, .bool false, .int .i64 0] 195 := Cells.only (Cells.below bx R7.out) (Only.setAt (Only.refl (fun i => i = g4) wx) 3 (.int .u16 id) (Or.inl rfl)) (by omega)
            have lw : Below w.heap.size w (wx.setCell ⟨g4, 3, none⟩ (.int .u16 id)) := Below.setCell (bstep B7.out bx) (Nat.le_of_lt hlt) _
            have HG := hide hg; have HZ := hide hz; have LW := hide lw
            clear hg hz lw bx bb s3 t3 s5 t5 H7 R7 B7
            generalize (wx.setCell ⟨g4, 3, none⟩ (.int .u16 id)) = wf at *
            refine wp_region_lit ?_
            refine wpList_load_all rfl 195 (.tmp 4) rfl HG.out (by rfl) _ Tryz.underlying195 rfl (by kernel_rfl) ?_
            (try simp only [Act.put, putT])
            refine wpList_store_all rfl 195 (.tmp 2) (.tmp 110) rfl (c' := #[.int .i64 (k : Int), .int .u8 1, .int .u32 va, .int .u16 id, .int .u32 vb, .int .u16 0, .bool true, .int .i64 0]) HZ.out (by rfl) (by rfl) (by kernel_rfl) rfl (by simp [Value.oneCell']) ?_
            intro W5 r5 o5 z5
            go_wp2_with fail
            (try simp only [Exit.inBlock, Exit.then])
            refine bodyPost_ret (res_cell Tryz.results89 r5 (by rfl) _ Tryz.underlying195 rfl (by kernel_rfl)) rfl ?_
            exact ⟨by rw [HV.out], LW.out.trans (o5.below (fun j e => by omega) LW.out.size)⟩
end Go.Proofs.YtilfcikhipadpaaGreatDoor
end
