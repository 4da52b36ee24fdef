/- Several texts of this claim, one behind the other. -/
import Derived.Test.YtjeaknipmdfkdaaGreatDoorK2
import Derived.Test.YtjeaknipmdfkdaaGreatDoorK18
import Derived.Test.YtjeaknipmdfkdaaGreatDoorK16
import Derived.Test.YtjeaknipmdfkdaaGreatDoorK8
import Derived.Deep.RegionHeld3

section
/- embeds.open: what an error is about, over this program. -/
set_option linter.unusedVariables false
set_option linter.unusedSimpArgs false
namespace Go.Proofs.YtjeaknipmdfkdaaGreatDoor
open Go.RowKit
attribute [local go_sem] Oper.semAt_some envL lookV

theorem em_wraps (n : Int) (h0 : 0 ≤ n) (h1 : n < 2 ^ 16) : IntKind.u16.wrap n = n := by rw [IntKind.wrap_u16]; omega
theorem em_and13 {v : Int} (h0 : 0 ≤ v) (h1 : v < 65536) : bits .and .u16 v 8191 = v % 8192 := bits_mask .u16 16 (by decide) em_wraps 13 (by decide) v h0 h1
/-- what open leaves -/
def Opened (w : World) (s : ByteArray) (en : Ending) (w' : World) : Prop :=
  if emWhy (L s) = 0 then ∃ B, en = .returned (.tuple #[.pointer (some ⟨B, 0, none⟩), .int .i64 0]) ∧ w.heap.size ≤ B ∧ Em w' B s (emAt (L s)) (emTup (L s)) (emAsk (L s)) ∧ Below w.heap.size w w'
  else en = .returned (.tuple #[.pointer none, .int .i64 (emWhy (L s))]) ∧ Below w.heap.size w w'
set_option maxRecDepth 100000 in
set_option maxHeartbeats 4000000 in
theorem e_open_early (w : World) (s : ByteArray) (hs : s.size ≤ 140737488351232) (h : s.size < 20 ∨ (20 ≤ s.size ∧ at_ (L s) 0 / 16 ≠ 4)) :
    Calls Tryz.prog 56 #[.string s] w (Ret (.tuple #[.pointer none, .int .i64 15]) w) := by
  have hsz : (s.size : Int) ≤ 140737488351232 := by omega
  rcases h with h | ⟨h20, hv⟩
  · have q2 : (s.size : Int) < 20 := by omega
    clear h hs
    have bn := fresh_below w (.cells #[.string s, .int .i64 0, .int .u8 0, .int .u32 0, .int .u16 0, .int .u32 0, .int .u16 0, .bool false] 79)
    have BN := hide bn
    clear bn
    go_enter Tryz.func56, Tryz.ntmps56
    go_wp2_with fail
    go_ret2
    exact ⟨rfl, BN.out⟩
  · have q2 : ¬ (s.size : Int) < 20 := by omega
    have i5 : 0 < s.size := by omega
    have e0 : (((s[0]'i5).toNat : Nat) : Int) = at_ (L s) 0 := by rw [getElem_L s 0 (by omega)]; rfl
    have hb := at_bd (L s) 0
    have i4 : (0 : Int) < (s.size : Int) := by omega
    generalize at_ (L s) 0 = x at *
    have m1 : (x / 16 != 4) = true := by simpa using hv
    have m2 : (x / 16 == 4) = false := by simpa using hv
    clear hv hs h20
    have bn := fresh_below w (.cells #[.string s, .int .i64 0, .int .u8 0, .int .u32 0, .int .u16 0, .int .u32 0, .int .u16 0, .bool false] 79)
    have BN := hide bn
    clear bn
    go_enter Tryz.func56, Tryz.ntmps56
    go_wp2_with fail
    go_ret2
    exact ⟨rfl, BN.out⟩
set_option maxRecDepth 100000 in
set_option maxHeartbeats 4000000 in
theorem e_open_mid (w : World) (s : ByteArray) (hs : s.size ≤ 140737488351232) (h20 : 20 ≤ s.size) (hv : at_ (L s) 0 / 16 = 4) (hbad : emEnd (L s) < 20 ∨ (¬ emEnd (L s) < 20 ∧ (s.size : Int) - 8 < emEnd (L s)) ∨ (¬ emEnd (L s) < 20 ∧ ¬ (s.size : Int) - 8 < emEnd (L s) ∧ be16 (L s) 6 % 8192 ≠ 0)) :
    Calls Tryz.prog 56 #[.string s] w (Ret (.tuple #[.pointer none, .int .i64 15]) w) := by
  rw [show emEnd (L s) = ((emAt (L s) : Nat) : Int) from by unfold emAt; have := at_bd (L s) 0; unfold emEnd; omega] at hbad
  have hsz : (s.size : Int) ≤ 140737488351232 := by omega
  have q2 : ¬ (s.size : Int) < 20 := by omega
  have i5 : 0 < s.size := by omega
  have e0 : (((s[0]'i5).toNat : Nat) : Int) = at_ (L s) 0 := by rw [getElem_L s 0 (by omega)]; rfl
  have hb := at_bd (L s) 0
  have i4 : (0 : Int) < (s.size : Int) := by omega
  have hkz : ((emAt (L s) : Nat) : Int) = at_ (L s) 0 % 16 * 4 := by unfold emAt emEnd; omega
  have cw := fun W B (hc : W.cell? ⟨B, 0, none⟩ = some (.string s)) => e_two W B s 6 hc hs ⟨by omega, by omega⟩
  rw [show get16 (L s) 6 = be16 (L s) 6 from get16_nat (k := 6) (by rw [L_length]; omega)] at cw
  have hv16 := be16_bd (L s) 6
  generalize be16 (L s) 6 = v at *
  obtain ⟨k, hk⟩ : ∃ k, k = emAt (L s) := ⟨_, rfl⟩
  rw [← hk] at hkz hbad
  obtain ⟨x, hx⟩ : ∃ x, x = at_ (L s) 0 := ⟨_, rfl⟩
  rw [← hx] at e0 hb hv hkz
  have m1 : (x / 16 != 4) = false := by simpa using hv
  have m2 : (x / 16 == 4) = true := by simpa using hv
  obtain ⟨y, hy⟩ : ∃ y, y = x % 16 := ⟨_, rfl⟩
  have hand : bits .and .u8 x 15 = y := by rw [u8_and15 x hb.1 (by omega), hy]
  rw [← hy] at hkz
  have hyb : 0 ≤ y ∧ y ≤ 15 := by omega
  have wy : IntKind.i64.wrap y = y := IntWalk.i64_in _ (by omega)
  have wz : IntKind.i64.wrap (y * 4) = (k : Int) := by rw [IntWalk.i64_in _ (by omega), hkz]
  obtain ⟨l8, hl8⟩ : ∃ l8 : Int, l8 = (s.size : Int) - 8 := ⟨_, rfl⟩
  have w8 : IntKind.i64.wrap ((s.size : Int) - 8) = l8 := by rw [IntWalk.i64_in _ (by omega), hl8]
  obtain ⟨r, hr⟩ : ∃ r, r = v % 8192 := ⟨_, rfl⟩
  have hand2 : bits .and .u16 v 8191 = r := by rw [em_and13 hv16.1 (by omega), hr]
  have hkb : k ≤ 60 := by omega
  have CW := hide cw
  clear cw
  rw [← hl8, ← hr] at hbad
  clear hx hy hkz hk hb hv hyb hl8 hr hv16 hs h20
  go_enter Tryz.func56, Tryz.ntmps56
  have d0 := Cells.new w #[.string s, .int .i64 0, .int .u8 0, .int .u32 0, .int .u16 0, .int .u32 0, .int .u16 0, .bool false] 79
  have bn := fresh_below w (.cells #[.string s, .int .i64 0, .int .u8 0, .int .u32 0, .int .u16 0, .int .u32 0, .int .u16 0, .bool false] 79)
  have z0 := d0.at_ 1; have zf := d0.free 1
  have D0 := hide d0; have BN := hide bn
  clear d0 bn
  go_upto_region 5 with fail
  have ec := Cells.new w #[.string s, .int .i64 (k : Int), .int .u8 0, .int .u32 0, .int .u16 0, .int .u32 0, .int .u16 0, .bool false] 79
  have eb := fresh_below w (.cells #[.string s, .int .i64 (k : Int), .int .u8 0, .int .u32 0, .int .u16 0, .int .u32 0, .int .u16 0, .bool false] 79)
  clear z0 zf D0 BN q2 m1 m2 hand wy wz
  generalize (w.alloc (.cells #[.string s, .int .i64 (k : Int), .int .u8 0, .int .u32 0, .int .u16 0, .int .u32 0, .int .u16 0, .bool false] 79)) = w5 at *
  have EC := hide ec; have EB := hide eb
  clear eb
  obtain ⟨qec_0, qec_1, qec_2, qec_3, qec_4, qec_5, qec_6, qec_7⟩ := ec.q8
  have bb : Below w5.heap.size w5 w5 := Below.refl _ _
  clear ec
  rcases hbad with h1 | ⟨h1, h2⟩ | ⟨h1, h2, h3⟩
  · have h1z : (k : Int) < 20 := h1
    go_wp2_with fail
    go_ret2
    exact ⟨rfl, EB.out⟩
  · go_wp2_with fail
    go_ret2
    exact ⟨rfl, EB.out⟩
  · have h4 : (r != 0) = true := by simpa using h3
    go_wp2_with (go_at_call 64; (with_reducible refine (CW.out _ _ (qec_0 _ (by assumption))).mono ?_); rintro e w6 ⟨rfl, b6⟩; have b6' := bstep (by assumption : Below w5.heap.size w5 _) b6; clear b6)
    go_ret2
    exact ⟨rfl, bstep EB.out b6'⟩
set_option maxRecDepth 100000 in
set_option maxHeartbeats 8000000 in
theorem e_open_other (w : World) (s : ByteArray) (hs : s.size ≤ 140737488351232) (h20 : 20 ≤ s.size) (hv : at_ (L s) 0 / 16 = 4) (g1 : ¬ emEnd (L s) < 20) (g2 : ¬ (s.size : Int) - 8 < emEnd (L s)) (g3 : be16 (L s) 6 % 8192 = 0) (hp : at_ (L s) 9 ≠ 6 ∧ at_ (L s) 9 ≠ 17 ∧ at_ (L s) 9 ≠ 1) :
    Calls Tryz.prog 56 #[.string s] w (Ret (.tuple #[.pointer none, .int .i64 6]) w) := by
  have hgg : ¬ ((emAt (L s) : Nat) : Int) < 20 ∧ ¬ (s.size : Int) - 8 < ((emAt (L s) : Nat) : Int) := by
    rw [show ((emAt (L s) : Nat) : Int) = emEnd (L s) from by unfold emAt; have := at_bd (L s) 0; unfold emEnd; omega]
    exact ⟨g1, g2⟩
  obtain ⟨f1, f2⟩ := hgg
  clear g1 g2
  have cA := fun W B (hc : W.cell? ⟨B, 0, none⟩ = some (.string s)) => e_addr W B s 12 hc hs ⟨by omega, by omega⟩
  have cB := fun W B (hc : W.cell? ⟨B, 0, none⟩ = some (.string s)) => e_addr W B s 16 hc hs ⟨by omega, by omega⟩
  rw [show get32 (L s) 12 = be32 (L s) 12 from get32_nat (k := 12) (by rw [L_length]; omega)] at cA
  rw [show get32 (L s) 16 = be32 (L s) 16 from get32_nat (k := 16) (by rw [L_length]; omega)] at cB
  have k9 : 9 < s.size := by omega
  have e9 : (((s[9]'k9).toNat : Nat) : Int) = at_ (L s) 9 := by rw [getElem_L s 9 (by omega)]; rfl
  have j9 : (9 : Int) < (s.size : Int) := by omega
  generalize be32 (L s) 12 = va at *
  generalize be32 (L s) 16 = vb at *
  generalize at_ (L s) 9 = p at *
  have HP := hide hp
  clear hp
  have CA := hide cA; have CB := hide cB
  clear cA cB
  have hsz : (s.size : Int) ≤ 140737488351232 := by omega
  have q2 : ¬ (s.size : Int) < 20 := by omega
  have i5 : 0 < s.size := by omega
  have e0 : (((s[0]'i5).toNat : Nat) : Int) = at_ (L s) 0 := by rw [getElem_L s 0 (by omega)]; rfl
  have hb := at_bd (L s) 0
  have i4 : (0 : Int) < (s.size : Int) := by omega
  have hkz : ((emAt (L s) : Nat) : Int) = at_ (L s) 0 % 16 * 4 := by unfold emAt emEnd; omega
  have cw := fun W B (hc : W.cell? ⟨B, 0, none⟩ = some (.string s)) => e_two W B s 6 hc hs ⟨by omega, by omega⟩
  rw [show get16 (L s) 6 = be16 (L s) 6 from get16_nat (k := 6) (by rw [L_length]; omega)] at cw
  have hv16 := be16_bd (L s) 6
  generalize be16 (L s) 6 = v at *
  obtain ⟨k, hk⟩ : ∃ k, k = emAt (L s) := ⟨_, rfl⟩
  rw [← hk] at hkz f1 f2 
  obtain ⟨x, hx⟩ : ∃ x, x = at_ (L s) 0 := ⟨_, rfl⟩
  rw [← hx] at e0 hb hv hkz
  have m1 : (x / 16 != 4) = false := by simpa using hv
  have m2 : (x / 16 == 4) = true := by simpa using hv
  obtain ⟨y, hy⟩ : ∃ y, y = x % 16 := ⟨_, rfl⟩
  have hand : bits .and .u8 x 15 = y := by rw [u8_and15 x hb.1 (by omega), hy]
  rw [← hy] at hkz
  have hyb : 0 ≤ y ∧ y ≤ 15 := by omega
  have wy : IntKind.i64.wrap y = y := IntWalk.i64_in _ (by omega)
  have wz : IntKind.i64.wrap (y * 4) = (k : Int) := by rw [IntWalk.i64_in _ (by omega), hkz]
  obtain ⟨l8, hl8⟩ : ∃ l8 : Int, l8 = (s.size : Int) - 8 := ⟨_, rfl⟩
  have w8 : IntKind.i64.wrap ((s.size : Int) - 8) = l8 := by rw [IntWalk.i64_in _ (by omega), hl8]
  obtain ⟨r, hr⟩ : ∃ r, r = v % 8192 := ⟨_, rfl⟩
  have hand2 : bits .and .u16 v 8191 = r := by rw [em_and13 hv16.1 (by omega), hr]
  have hkb : k ≤ 60 := by omega
  have CW := hide cw
  clear cw
  rw [← hl8] at f2
  rw [← hr] at g3
  have HK := hide hk
  clear hx hy hkz hk hb hv hyb hl8 hr hv16 hs h20
  go_enter Tryz.func56, Tryz.ntmps56
  have d0 := Cells.new w #[.string s, .int .i64 0, .int .u8 0, .int .u32 0, .int .u16 0, .int .u32 0, .int .u16 0, .bool false] 79
  have bn := fresh_below w (.cells #[.string s, .int .i64 0, .int .u8 0, .int .u32 0, .int .u16 0, .int .u32 0, .int .u16 0, .bool false] 79)
  have z0 := d0.at_ 1; have zf := d0.free 1
  have D0 := hide d0; have BN := hide bn
  clear d0 bn
  go_upto_region 5 with fail
  have ec := Cells.new w #[.string s, .int .i64 (k : Int), .int .u8 0, .int .u32 0, .int .u16 0, .int .u32 0, .int .u16 0, .bool false] 79
  have eb := fresh_below w (.cells #[.string s, .int .i64 (k : Int), .int .u8 0, .int .u32 0, .int .u16 0, .int .u32 0, .int .u16 0, .bool false] 79)
  clear z0 zf D0 BN q2 m1 m2 hand wy wz
  generalize (w.alloc (.cells #[.string s, .int .i64 (k : Int), .int .u8 0, .int .u32 0, .int .u16 0, .int .u32 0, .int .u16 0, .bool false] 79)) = w5 at *
  have EC := hide ec; have EB := hide eb
  clear eb
  obtain ⟨qec_0, qec_1, qec_2, qec_3, qec_4, qec_5, qec_6, qec_7⟩ := ec.q8
  have bb : Below w5.heap.size w5 w5 := Below.refl _ _
  clear ec
  have h4 : (r != 0) = false := by rw [g3]; rfl
  go_upto_region 7 with (go_at_call 64; (with_reducible refine (CW.out _ _ (qec_0 _ (by assumption))).mono ?_); rintro e w6 ⟨rfl, b6⟩; have b6' := bstep (by assumption : Below w5.heap.size w5 _) b6; clear b6)
  clear h4 hand2 f1 f2 w8
  have s7 : Below w5.heap.size w5 w6.drew := Below.drew b6'
  clear bb
  focus
    refine wp_region_JG [16] (fun W => Below w5.heap.size w5 W) (by kernel_rfl) (by kernel_rfl) (s7) (fun hG hsel hS0 => ?_)
    refine wpAnyJ_takeG (i := 0) (oi := { dst := some 49, op := .move (.tmp 4), type := 73, pos := "embeds.go:66", after := #[], guard := none }) (v := ?v0_1) hG hsel (by kernel_rfl) (by kernel_rfl) (by kernel_rfl) (by kernel_rfl) (fun _ _ _ h => h) (Or.inl (And.intro (by kernel_rfl) ?q0_1)) hS0 ?r0_1
    case q0_1 => intro w hx; refine run_env [4] [?a0_1_4] (by kernel_rfl) (by kernel_rfl) (⟨?e0_1_4, trivial⟩) ?h0_1; (case e0_1_4 => ((conv => lhs; whnf); (try exact rfl))); (case h0_1 => ((try dsimp only); (try simp only [envL, lookV, if_true, if_false]); (try go_simp); (try with_reducible rfl)))
    (try simp only [Act.put, putS])
    refine wpAnyJ_takeG (i := 1) (oi := { dst := some 50, op := .move (.tmp 0), type := 9, pos := "embeds.go:66", after := #[], guard := none }) (v := ?v1_2) hG hsel (by kernel_rfl) (by kernel_rfl) (by kernel_rfl) (by kernel_rfl) (fun _ _ _ h => h) (Or.inl (And.intro (by kernel_rfl) ?q1_2)) hS0 ?r1_2
    case q1_2 => intro w hx; refine run_env [0] [?a1_2_0] (by kernel_rfl) (by kernel_rfl) (⟨?e1_2_0, trivial⟩) ?h1_2; (case e1_2_0 => ((conv => lhs; whnf); (try exact rfl))); (case h1_2 => ((try dsimp only); (try simp only [envL, lookV, if_true, if_false]); (try go_simp); (try with_reducible rfl)))
    (try simp only [Act.put, putS])
    refine wpAnyJ_takeG (i := 2) (oi := { dst := some 51, op := .index 9 (.tmp 50) (.const (Go.Value.int Go.IntKind.i64 9)), type := 5, pos := "embeds.go:66", after := #[{ on := 1, ground := .data }], guard := none }) (v := ?v2_3) hG hsel (by kernel_rfl) (by kernel_rfl) (by kernel_rfl) (by kernel_rfl) (fun _ _ _ h => h) (Or.inl (And.intro (by kernel_rfl) ?q2_3)) hS0 ?r2_3
    case q2_3 => intro w hx; refine run_env [50] [?a2_3_50] (by kernel_rfl) (by kernel_rfl) (⟨?e2_3_50, trivial⟩) ?h2_3; (case e2_3_50 => ((conv => lhs; whnf); (try exact rfl))); (case h2_3 => ((try dsimp only); (try simp only [envL, lookV, if_true, if_false]); (try go_simp); (try with_reducible rfl)))
    (try simp only [Act.put, putS])
    refine wpAnyJ_takeG (i := 3) (oi := { dst := some 52, op := .move (.tmp 4), type := 73, pos := "embeds.go:66", after := #[], guard := none }) (v := ?v3_4) hG hsel (by kernel_rfl) (by kernel_rfl) (by kernel_rfl) (by kernel_rfl) (fun _ _ _ h => h) (Or.inl (And.intro (by kernel_rfl) ?q3_4)) hS0 ?r3_4
    case q3_4 => intro w hx; refine run_env [4] [?a3_4_4] (by kernel_rfl) (by kernel_rfl) (⟨?e3_4_4, trivial⟩) ?h3_4; (case e3_4_4 => ((conv => lhs; whnf); (try exact rfl))); (case h3_4 => ((try dsimp only); (try simp only [envL, lookV, if_true, if_false]); (try go_simp); (try with_reducible rfl)))
    (try simp only [Act.put, putS])
    refine wpAnyJ_takeG (i := 4) (oi := { dst := some 53, op := .nilCheck (.tmp 52), type := 0, pos := "embeds.go:66", after := #[{ on := 3, ground := .data }], guard := none }) (v := ?v4_5) hG hsel (by kernel_rfl) (by kernel_rfl) (by kernel_rfl) (by kernel_rfl) (fun _ _ _ h => h) (Or.inl (And.intro (by kernel_rfl) ?q4_5)) hS0 ?r4_5
    case q4_5 => intro w hx; refine run_env [52] [?a4_5_52] (by kernel_rfl) (by kernel_rfl) (⟨?e4_5_52, trivial⟩) ?h4_5; (case e4_5_52 => ((conv => lhs; whnf); (try exact rfl))); (case h4_5 => ((try dsimp only); (try simp only [envL, lookV, if_true, if_false]); (try go_simp); (try with_reducible rfl)))
    (try simp only [Act.put, putS])
    refine wpAnyJ_takeG (i := 5) (oi := { dst := some 54, op := .fieldAddr 79 (.tmp 53) 0, type := 0, pos := "embeds.go:66", after := #[{ on := 4, ground := .data }], guard := none }) (v := ?v5_6) hG hsel (by kernel_rfl) (by kernel_rfl) (by kernel_rfl) (by kernel_rfl) (fun _ _ _ h => h) (Or.inl (And.intro (by kernel_rfl) ?q5_6)) hS0 ?r5_6
    case q5_6 => intro w hx; refine run_env [53] [?a5_6_53] (by kernel_rfl) (by kernel_rfl) (⟨?e5_6_53, trivial⟩) ?h5_6; (case e5_6_53 => ((conv => lhs; whnf); (try exact rfl))); (case h5_6 => ((try dsimp only); (try simp only [envL, lookV, if_true, if_false]); (try go_simp); (try with_reducible rfl)))
    (try simp only [Act.put, putS])
    refine wpAnyJ_takeG (i := 8) (oi := { dst := some 57, op := .move (.tmp 4), type := 73, pos := "embeds.go:66", after := #[], guard := none }) (v := ?v8_7) hG hsel (by kernel_rfl) (by kernel_rfl) (by kernel_rfl) (by kernel_rfl) (fun _ _ _ h => h) (Or.inl (And.intro (by kernel_rfl) ?q8_7)) hS0 ?r8_7
    case q8_7 => intro w hx; refine run_env [4] [?a8_7_4] (by kernel_rfl) (by kernel_rfl) (⟨?e8_7_4, trivial⟩) ?h8_7; (case e8_7_4 => ((conv => lhs; whnf); (try exact rfl))); (case h8_7 => ((try dsimp only); (try simp only [envL, lookV, if_true, if_false]); (try go_simp); (try with_reducible rfl)))
    (try simp only [Act.put, putS])
    refine wpAnyJ_takeG (i := 9) (oi := { dst := some 58, op := .nilCheck (.tmp 57), type := 0, pos := "embeds.go:66", after := #[{ on := 8, ground := .data }], guard := none }) (v := ?v9_8) hG hsel (by kernel_rfl) (by kernel_rfl) (by kernel_rfl) (by kernel_rfl) (fun _ _ _ h => h) (Or.inl (And.intro (by kernel_rfl) ?q9_8)) hS0 ?r9_8
    case q9_8 => intro w hx; refine run_env [57] [?a9_8_57] (by kernel_rfl) (by kernel_rfl) (⟨?e9_8_57, trivial⟩) ?h9_8; (case e9_8_57 => ((conv => lhs; whnf); (try exact rfl))); (case h9_8 => ((try dsimp only); (try simp only [envL, lookV, if_true, if_false]); (try go_simp); (try with_reducible rfl)))
    (try simp only [Act.put, putS])
    refine wpAnyJ_takeG (i := 10) (oi := { dst := some 59, op := .fieldAddr 79 (.tmp 58) 0, type := 0, pos := "embeds.go:66", after := #[{ on := 9, ground := .data }], guard := none }) (v := ?v10_9) hG hsel (by kernel_rfl) (by kernel_rfl) (by kernel_rfl) (by kernel_rfl) (fun _ _ _ h => h) (Or.inl (And.intro (by kernel_rfl) ?q10_9)) hS0 ?r10_9
    case q10_9 => intro w hx; refine run_env [58] [?a10_9_58] (by kernel_rfl) (by kernel_rfl) (⟨?e10_9_58, trivial⟩) ?h10_9; (case e10_9_58 => ((conv => lhs; whnf); (try exact rfl))); (case h10_9 => ((try dsimp only); (try simp only [envL, lookV, if_true, if_false]); (try go_simp); (try with_reducible rfl)))
    (try simp only [Act.put, putS])
    refine rJ [6] ?_
    refine (AllReadyJ.cons rfl (fun K hK => ?_) AllReadyJ.nil)
    rw [if_pos (by kernel_rfl)]
    (try simp only [putG])
    (focus go_simp)
    (focus ((with_reducible refine (CA.out _ _ (qec_0 _ hS0)).mono ?_); rintro e wa ⟨rfl, ba⟩; have sq := bstep hS0 ba))
    (focus (try go_wp2_with fail))
    refine hK.out _ _ ?hs (fun hS0 => ?_)
    case hs => (first | with_reducible exact hS0 | with_reducible exact sq)
    clear hK K
    (try simp only [Act.put, putS])
    refine wpAnyJ_takeG (i := 7) (oi := { dst := some 56, op := .build 26 #[(0, .tmp 55)], type := 26, pos := "embeds.go:66", after := #[{ on := 6, ground := .data }], guard := none }) (v := ?v7_10) hG hsel (by kernel_rfl) (by kernel_rfl) (by kernel_rfl) (by kernel_rfl) (fun _ _ _ h => h) (Or.inl (And.intro (by kernel_rfl) ?q7_10)) hS0 ?r7_10
    case q7_10 => intro w hx; refine run_env [55] [?a7_10_55] (by kernel_rfl) (by kernel_rfl) (⟨?e7_10_55, trivial⟩) ?h7_10; (case e7_10_55 => ((conv => lhs; whnf); (try exact rfl))); (case h7_10 => ((try dsimp only); (try simp only [envL, lookV, if_true, if_false]); (try go_simp); (try with_reducible rfl)))
    (try simp only [Act.put, putS])
    refine rJ [11] ?_
    refine (AllReadyJ.cons rfl (fun K hK => ?_) AllReadyJ.nil)
    rw [if_pos (by kernel_rfl)]
    (try simp only [putG])
    (focus go_simp)
    (focus ((with_reducible refine (CB.out _ _ (qec_0 _ hS0)).mono ?_); rintro e wb ⟨rfl, bb2⟩; have sq := bstep hS0 bb2))
    (focus (try go_wp2_with fail))
    refine hK.out _ _ ?hs (fun hS0 => ?_)
    case hs => (first | with_reducible exact hS0 | with_reducible exact sq)
    clear hK K
    (try simp only [Act.put, putS])
    refine wpAnyJ_takeG (i := 12) (oi := { dst := some 61, op := .build 26 #[(0, .tmp 60)], type := 26, pos := "embeds.go:66", after := #[{ on := 11, ground := .data }], guard := none }) (v := ?v12_11) hG hsel (by kernel_rfl) (by kernel_rfl) (by kernel_rfl) (by kernel_rfl) (fun _ _ _ h => h) (Or.inl (And.intro (by kernel_rfl) ?q12_11)) hS0 ?r12_11
    case q12_11 => intro w hx; refine run_env [60] [?a12_11_60] (by kernel_rfl) (by kernel_rfl) (⟨?e12_11_60, trivial⟩) ?h12_11; (case e12_11_60 => ((conv => lhs; whnf); (try exact rfl))); (case h12_11 => ((try dsimp only); (try simp only [envL, lookV, if_true, if_false]); (try go_simp); (try with_reducible rfl)))
    (try simp only [Act.put, putS])
    refine wpAnyJ_takeG (i := 13) (oi := { dst := some 62, op := .build 33 #[(0, .tmp 51), (1, .tmp 56), (2, .tmp 61)], type := 33, pos := "embeds.go:66", after := #[{ on := 2, ground := .data }, { on := 7, ground := .data }, { on := 12, ground := .data }], guard := none }) (v := ?v13_12) hG hsel (by kernel_rfl) (by kernel_rfl) (by kernel_rfl) (by kernel_rfl) (fun _ _ _ h => h) (Or.inl (And.intro (by kernel_rfl) ?q13_12)) hS0 ?r13_12
    case q13_12 => intro w hx; refine run_env [51, 56, 61] [?a13_12_51, ?a13_12_56, ?a13_12_61] (by kernel_rfl) (by kernel_rfl) (⟨?e13_12_51, ?e13_12_56, ?e13_12_61, trivial⟩) ?h13_12; (case e13_12_51 => ((conv => lhs; whnf); (try exact rfl))); (case e13_12_56 => ((conv => lhs; whnf); (try exact rfl))); (case e13_12_61 => ((conv => lhs; whnf); (try exact rfl))); (case h13_12 => ((try dsimp only); (try simp only [envL, lookV, if_true, if_false]); (try go_simp); (try with_reducible rfl)))
    (try simp only [Act.put, putS])
    refine rJ [14] ?_
    refine (AllReadyJ.cons rfl (fun K hK => ?_) AllReadyJ.nil)
    rw [if_pos (by kernel_rfl)]
    (try simp only [putG])
    (focus go_simp)
    refine hK.out _ _ ?hs (fun hS0 => ?_)
    case hs => (first | with_reducible exact hS0 | with_reducible exact sq)
    clear hK K
    (try simp only [Act.put, putS])
    refine wpAnyJ_takeG (i := 15) (oi := { dst := some 64, op := .fieldAddr 79 (.tmp 63) 2, type := 0, pos := "embeds.go:66", after := #[{ on := 14, ground := .data }, { on := 0, ground := .phase }, { on := 1, ground := .phase }, { on := 2, ground := .phase }, { on := 3, ground := .phase }, { on := 4, ground := .phase }, { on := 5, ground := .phase }, { on := 6, ground := .phase }, { on := 7, ground := .phase }, { on := 8, ground := .phase }, { on := 9, ground := .phase }, { on := 10, ground := .phase }, { on := 11, ground := .phase }, { on := 12, ground := .phase }, { on := 13, ground := .phase }], guard := none }) (v := ?v15_13) hG hsel (by kernel_rfl) (by kernel_rfl) (by kernel_rfl) (by kernel_rfl) (fun _ _ _ h => h) (Or.inl (And.intro (by kernel_rfl) ?q15_13)) hS0 ?r15_13
    case q15_13 => intro w hx; refine run_env [63] [?a15_13_63] (by kernel_rfl) (by kernel_rfl) (⟨?e15_13_63, trivial⟩) ?h15_13; (case e15_13_63 => ((conv => lhs; whnf); (try exact rfl))); (case h15_13 => ((try dsimp only); (try simp only [envL, lookV, if_true, if_false]); (try go_simp); (try with_reducible rfl)))
    (try simp only [Act.put, putS])
    refine rJ [16] ?_
    refine (AllReadyJ.last rfl (by kernel_rfl) (fun K hK => ?_) AllReadyJ.nil)
    (focus (rw [if_pos (by kernel_rfl)]; have kc := Cells.below hS0 EC.out; have y2 := kc.at_ 2; have y3 := kc.at_ 3; have y4 := kc.at_ 4; have y5 := kc.at_ 5; have y6 := kc.at_ 6; have f2 := kc.free 2; have f3 := kc.free 3; have f4 := kc.free 4; have f5 := kc.free 5; have f6 := kc.free 6; clear kc; go_simp))
    (focus (try go_wp2_with fail))
    refine hK.out _ _ ?_
    clear hK K
    (try simp only [Act.put, putS])
    refine wpAnyJ_done (by kernel_rfl) ?_ _
  have em : Em (((((wb.setCell ⟨w.heap.size, 2, none⟩ (.int .u8 p)).setCell ⟨w.heap.size, 3, none⟩ (.int .u32 va)).setCell ⟨w.heap.size, 4, none⟩ (.int .u16 0)).setCell ⟨w.heap.size, 5, none⟩ (.int .u32 vb)).setCell ⟨w.heap.size, 6, none⟩ (.int .u16 0)) w.heap.size s k ⟨p, va, 0, vb, 0⟩ false := Cells.like (Cells.set_ (Cells.set_ (Cells.set_ (Cells.set_ (Cells.set_ (Cells.below hS0 EC.out) 2 (.int .u8 p)) 3 (.int .u32 va)) 4 (.int .u16 0)) 5 (.int .u32 vb)) 6 (.int .u16 0)) (by simp [emCells])
  have lw : Below w.heap.size w (((((wb.setCell ⟨w.heap.size, 2, none⟩ (.int .u8 p)).setCell ⟨w.heap.size, 3, none⟩ (.int .u32 va)).setCell ⟨w.heap.size, 4, none⟩ (.int .u16 0)).setCell ⟨w.heap.size, 5, none⟩ (.int .u32 vb)).setCell ⟨w.heap.size, 6, none⟩ (.int .u16 0)) := Below.setCell (Below.setCell (Below.setCell (Below.setCell (Below.setCell (bstep EB.out hS0) (Nat.le_refl _) _) (Nat.le_refl _) _) (Nat.le_refl _) _) (Nat.le_refl _) _) (Nat.le_refl _) _
  have EM := hide em; have LW := hide lw
  clear em lw s7 sq ba bb2 b6' hS0 qec_0 qec_1 qec_2 qec_3 qec_4 qec_5 qec_6 qec_7 EC EB CA CB CW
  generalize (((((wb.setCell ⟨w.heap.size, 2, none⟩ (.int .u8 p)).setCell ⟨w.heap.size, 3, none⟩ (.int .u32 va)).setCell ⟨w.heap.size, 4, none⟩ (.int .u16 0)).setCell ⟨w.heap.size, 5, none⟩ (.int .u32 vb)).setCell ⟨w.heap.size, 6, none⟩ (.int .u16 0)) = w8 at *
  have hp := HP.out
  have p6 : (p == 6) = false := by simpa using hp.1
  have p17 : (p == 17) = false := by simpa using hp.2.1
  have p1 : (p == 1) = false := by simpa using hp.2.2
  have kc := EM.out
  have y2 : w8.cell? ⟨w.heap.size, 2, none⟩ = some (.int .u8 p) := kc.at_ 2
  clear kc hp
  go_wp2_with fail
  go_ret2
  exact ⟨rfl, LW.out⟩
set_option maxRecDepth 100000 in
set_option maxHeartbeats 8000000 in
theorem e_open_flow6 (w : World) (s : ByteArray) (hs : s.size ≤ 140737488351232) (h20 : 20 ≤ s.size) (hv : at_ (L s) 0 / 16 = 4) (g1 : ¬ emEnd (L s) < 20) (g2 : ¬ (s.size : Int) - 8 < emEnd (L s)) (g3 : be16 (L s) 6 % 8192 = 0) (hp : at_ (L s) 9 = 6) :
    Calls Tryz.prog 56 #[.string s] w (fun en w' => ∃ B, en = .returned (.tuple #[.pointer (some ⟨B, 0, none⟩), .int .i64 0]) ∧ w.heap.size ≤ B ∧ Em w' B s (emAt (L s)) ⟨6, be32 (L s) 12, be16 (L s) (emAt (L s)), be32 (L s) 16, be16 (L s) (emAt (L s) + 2)⟩ false ∧ Below w.heap.size w w') := by
  obtain ⟨vs, hvs⟩ : ∃ vs, vs = be16 (L s) (emAt (L s)) := ⟨_, rfl⟩
  obtain ⟨vd, hvd⟩ : ∃ vd, vd = be16 (L s) (emAt (L s) + 2) := ⟨_, rfl⟩
  rw [← hvs, ← hvd]
  have hgg : ¬ ((emAt (L s) : Nat) : Int) < 20 ∧ ¬ (s.size : Int) - 8 < ((emAt (L s) : Nat) : Int) := by
    rw [show ((emAt (L s) : Nat) : Int) = emEnd (L s) from by unfold emAt; have := at_bd (L s) 0; unfold emEnd; omega]
    exact ⟨g1, g2⟩
  obtain ⟨f1, f2⟩ := hgg
  clear g1 g2
  have cA := fun W B (hc : W.cell? ⟨B, 0, none⟩ = some (.string s)) => e_addr W B s 12 hc hs ⟨by omega, by omega⟩
  have cB := fun W B (hc : W.cell? ⟨B, 0, none⟩ = some (.string s)) => e_addr W B s 16 hc hs ⟨by omega, by omega⟩
  rw [show get32 (L s) 12 = be32 (L s) 12 from get32_nat (k := 12) (by rw [L_length]; omega)] at cA
  rw [show get32 (L s) 16 = be32 (L s) 16 from get32_nat (k := 16) (by rw [L_length]; omega)] at cB
  have k9 : 9 < s.size := by omega
  have e9 : (((s[9]'k9).toNat : Nat) : Int) = at_ (L s) 9 := by rw [getElem_L s 9 (by omega)]; rfl
  have j9 : (9 : Int) < (s.size : Int) := by omega
  generalize be32 (L s) 12 = va at *
  generalize be32 (L s) 16 = vb at *
  generalize at_ (L s) 9 = p at *
  have HP := hide hp
  clear hp
  have CA := hide cA; have CB := hide cB
  clear cA cB
  have hsz : (s.size : Int) ≤ 140737488351232 := by omega
  have q2 : ¬ (s.size : Int) < 20 := by omega
  have i5 : 0 < s.size := by omega
  have e0 : (((s[0]'i5).toNat : Nat) : Int) = at_ (L s) 0 := by rw [getElem_L s 0 (by omega)]; rfl
  have hb := at_bd (L s) 0
  have i4 : (0 : Int) < (s.size : Int) := by omega
  have hkz : ((emAt (L s) : Nat) : Int) = at_ (L s) 0 % 16 * 4 := by unfold emAt emEnd; omega
  have cw := fun W B (hc : W.cell? ⟨B, 0, none⟩ = some (.string s)) => e_two W B s 6 hc hs ⟨by omega, by omega⟩
  rw [show get16 (L s) 6 = be16 (L s) 6 from get16_nat (k := 6) (by rw [L_length]; omega)] at cw
  have hv16 := be16_bd (L s) 6
  generalize be16 (L s) 6 = v at *
  obtain ⟨k, hk⟩ : ∃ k, k = emAt (L s) := ⟨_, rfl⟩
  rw [← hk] at hkz f1 f2 
  obtain ⟨x, hx⟩ : ∃ x, x = at_ (L s) 0 := ⟨_, rfl⟩
  rw [← hx] at e0 hb hv hkz
  have m1 : (x / 16 != 4) = false := by simpa using hv
  have m2 : (x / 16 == 4) = true := by simpa using hv
  obtain ⟨y, hy⟩ : ∃ y, y = x % 16 := ⟨_, rfl⟩
  have hand : bits .and .u8 x 15 = y := by rw [u8_and15 x hb.1 (by omega), hy]
  rw [← hy] at hkz
  have hyb : 0 ≤ y ∧ y ≤ 15 := by omega
  have wy : IntKind.i64.wrap y = y := IntWalk.i64_in _ (by omega)
  have wz : IntKind.i64.wrap (y * 4) = (k : Int) := by rw [IntWalk.i64_in _ (by omega), hkz]
  obtain ⟨l8, hl8⟩ : ∃ l8 : Int, l8 = (s.size : Int) - 8 := ⟨_, rfl⟩
  have w8 : IntKind.i64.wrap ((s.size : Int) - 8) = l8 := by rw [IntWalk.i64_in _ (by omega), hl8]
  obtain ⟨r, hr⟩ : ∃ r, r = v % 8192 := ⟨_, rfl⟩
  have hand2 : bits .and .u16 v 8191 = r := by rw [em_and13 hv16.1 (by omega), hr]
  have hkb : k ≤ 60 := by omega
  have CW := hide cw
  clear cw
  have F2 := hide f2
  rw [← hl8] at f2
  rw [← hr] at g3
  have HK := hide hk
  clear hx hy hkz hk hb hv hyb hl8 hr hv16 h20
  go_enter Tryz.func56, Tryz.ntmps56
  have d0 := Cells.new w #[.string s, .int .i64 0, .int .u8 0, .int .u32 0, .int .u16 0, .int .u32 0, .int .u16 0, .bool false] 79
  have bn := fresh_below w (.cells #[.string s, .int .i64 0, .int .u8 0, .int .u32 0, .int .u16 0, .int .u32 0, .int .u16 0, .bool false] 79)
  have z0 := d0.at_ 1; have zf := d0.free 1
  have D0 := hide d0; have BN := hide bn
  clear d0 bn
  go_upto_region 5 with fail
  have ec := Cells.new w #[.string s, .int .i64 (k : Int), .int .u8 0, .int .u32 0, .int .u16 0, .int .u32 0, .int .u16 0, .bool false] 79
  have eb := fresh_below w (.cells #[.string s, .int .i64 (k : Int), .int .u8 0, .int .u32 0, .int .u16 0, .int .u32 0, .int .u16 0, .bool false] 79)
  clear z0 zf D0 BN q2 m1 m2 hand wy wz
  generalize (w.alloc (.cells #[.string s, .int .i64 (k : Int), .int .u8 0, .int .u32 0, .int .u16 0, .int .u32 0, .int .u16 0, .bool false] 79)) = w5 at *
  have EC := hide ec; have EB := hide eb
  clear eb
  obtain ⟨qec_0, qec_1, qec_2, qec_3, qec_4, qec_5, qec_6, qec_7⟩ := ec.q8
  have bb : Below w5.heap.size w5 w5 := Below.refl _ _
  clear ec
  have h4 : (r != 0) = false := by rw [g3]; rfl
  go_upto_region 7 with (go_at_call 64; (with_reducible refine (CW.out _ _ (qec_0 _ (by assumption))).mono ?_); rintro e w6 ⟨rfl, b6⟩; have b6' := bstep (by assumption : Below w5.heap.size w5 _) b6; clear b6)
  clear h4 hand2 f1 f2 w8
  have s7 : Below w5.heap.size w5 w6.drew := Below.drew b6'
  clear bb
  focus
    refine wp_region_JG [16] (fun W => Below w5.heap.size w5 W) (by kernel_rfl) (by kernel_rfl) (s7) (fun hG hsel hS0 => ?_)
    refine wpAnyJ_takeG (i := 0) (oi := { dst := some 49, op := .move (.tmp 4), type := 73, pos := "embeds.go:66", after := #[], guard := none }) (v := ?v0_14) hG hsel (by kernel_rfl) (by kernel_rfl) (by kernel_rfl) (by kernel_rfl) (fun _ _ _ h => h) (Or.inl (And.intro (by kernel_rfl) ?q0_14)) hS0 ?r0_14
    case q0_14 => intro w hx; refine run_env [4] [?a0_14_4] (by kernel_rfl) (by kernel_rfl) (⟨?e0_14_4, trivial⟩) ?h0_14; (case e0_14_4 => ((conv => lhs; whnf); (try exact rfl))); (case h0_14 => ((try dsimp only); (try simp only [envL, lookV, if_true, if_false]); (try go_simp); (try with_reducible rfl)))
    (try simp only [Act.put, putS])
    refine wpAnyJ_takeG (i := 1) (oi := { dst := some 50, op := .move (.tmp 0), type := 9, pos := "embeds.go:66", after := #[], guard := none }) (v := ?v1_15) hG hsel (by kernel_rfl) (by kernel_rfl) (by kernel_rfl) (by kernel_rfl) (fun _ _ _ h => h) (Or.inl (And.intro (by kernel_rfl) ?q1_15)) hS0 ?r1_15
    case q1_15 => intro w hx; refine run_env [0] [?a1_15_0] (by kernel_rfl) (by kernel_rfl) (⟨?e1_15_0, trivial⟩) ?h1_15; (case e1_15_0 => ((conv => lhs; whnf); (try exact rfl))); (case h1_15 => ((try dsimp only); (try simp only [envL, lookV, if_true, if_false]); (try go_simp); (try with_reducible rfl)))
    (try simp only [Act.put, putS])
    refine wpAnyJ_takeG (i := 2) (oi := { dst := some 51, op := .index 9 (.tmp 50) (.const (Go.Value.int Go.IntKind.i64 9)), type := 5, pos := "embeds.go:66", after := #[{ on := 1, ground := .data }], guard := none }) (v := ?v2_16) hG hsel (by kernel_rfl) (by kernel_rfl) (by kernel_rfl) (by kernel_rfl) (fun _ _ _ h => h) (Or.inl (And.intro (by kernel_rfl) ?q2_16)) hS0 ?r2_16
    case q2_16 => intro w hx; refine run_env [50] [?a2_16_50] (by kernel_rfl) (by kernel_rfl) (⟨?e2_16_50, trivial⟩) ?h2_16; (case e2_16_50 => ((conv => lhs; whnf); (try exact rfl))); (case h2_16 => ((try dsimp only); (try simp only [envL, lookV, if_true, if_false]); (try go_simp); (try with_reducible rfl)))
    (try simp only [Act.put, putS])
    refine wpAnyJ_takeG (i := 3) (oi := { dst := some 52, op := .move (.tmp 4), type := 73, pos := "embeds.go:66", after := #[], guard := none }) (v := ?v3_17) hG hsel (by kernel_rfl) (by kernel_rfl) (by kernel_rfl) (by kernel_rfl) (fun _ _ _ h => h) (Or.inl (And.intro (by kernel_rfl) ?q3_17)) hS0 ?r3_17
    case q3_17 => intro w hx; refine run_env [4] [?a3_17_4] (by kernel_rfl) (by kernel_rfl) (⟨?e3_17_4, trivial⟩) ?h3_17; (case e3_17_4 => ((conv => lhs; whnf); (try exact rfl))); (case h3_17 => ((try dsimp only); (try simp only [envL, lookV, if_true, if_false]); (try go_simp); (try with_reducible rfl)))
    (try simp only [Act.put, putS])
    refine wpAnyJ_takeG (i := 4) (oi := { dst := some 53, op := .nilCheck (.tmp 52), type := 0, pos := "embeds.go:66", after := #[{ on := 3, ground := .data }], guard := none }) (v := ?v4_18) hG hsel (by kernel_rfl) (by kernel_rfl) (by kernel_rfl) (by kernel_rfl) (fun _ _ _ h => h) (Or.inl (And.intro (by kernel_rfl) ?q4_18)) hS0 ?r4_18
    case q4_18 => intro w hx; refine run_env [52] [?a4_18_52] (by kernel_rfl) (by kernel_rfl) (⟨?e4_18_52, trivial⟩) ?h4_18; (case e4_18_52 => ((conv => lhs; whnf); (try exact rfl))); (case h4_18 => ((try dsimp only); (try simp only [envL, lookV, if_true, if_false]); (try go_simp); (try with_reducible rfl)))
    (try simp only [Act.put, putS])
    refine wpAnyJ_takeG (i := 5) (oi := { dst := some 54, op := .fieldAddr 79 (.tmp 53) 0, type := 0, pos := "embeds.go:66", after := #[{ on := 4, ground := .data }], guard := none }) (v := ?v5_19) hG hsel (by kernel_rfl) (by kernel_rfl) (by kernel_rfl) (by kernel_rfl) (fun _ _ _ h => h) (Or.inl (And.intro (by kernel_rfl) ?q5_19)) hS0 ?r5_19
    case q5_19 => intro w hx; refine run_env [53] [?a5_19_53] (by kernel_rfl) (by kernel_rfl) (⟨?e5_19_53, trivial⟩) ?h5_19; (case e5_19_53 => ((conv => lhs; whnf); (try exact rfl))); (case h5_19 => ((try dsimp only); (try simp only [envL, lookV, if_true, if_false]); (try go_simp); (try with_reducible rfl)))
    (try simp only [Act.put, putS])
    refine wpAnyJ_takeG (i := 8) (oi := { dst := some 57, op := .move (.tmp 4), type := 73, pos := "embeds.go:66", after := #[], guard := none }) (v := ?v8_20) hG hsel (by kernel_rfl) (by kernel_rfl) (by kernel_rfl) (by kernel_rfl) (fun _ _ _ h => h) (Or.inl (And.intro (by kernel_rfl) ?q8_20)) hS0 ?r8_20
    case q8_20 => intro w hx; refine run_env [4] [?a8_20_4] (by kernel_rfl) (by kernel_rfl) (⟨?e8_20_4, trivial⟩) ?h8_20; (case e8_20_4 => ((conv => lhs; whnf); (try exact rfl))); (case h8_20 => ((try dsimp only); (try simp only [envL, lookV, if_true, if_false]); (try go_simp); (try with_reducible rfl)))
    (try simp only [Act.put, putS])
    refine wpAnyJ_takeG (i := 9) (oi := { dst := some 58, op := .nilCheck (.tmp 57), type := 0, pos := "embeds.go:66", after := #[{ on := 8, ground := .data }], guard := none }) (v := ?v9_21) hG hsel (by kernel_rfl) (by kernel_rfl) (by kernel_rfl) (by kernel_rfl) (fun _ _ _ h => h) (Or.inl (And.intro (by kernel_rfl) ?q9_21)) hS0 ?r9_21
    case q9_21 => intro w hx; refine run_env [57] [?a9_21_57] (by kernel_rfl) (by kernel_rfl) (⟨?e9_21_57, trivial⟩) ?h9_21; (case e9_21_57 => ((conv => lhs; whnf); (try exact rfl))); (case h9_21 => ((try dsimp only); (try simp only [envL, lookV, if_true, if_false]); (try go_simp); (try with_reducible rfl)))
    (try simp only [Act.put, putS])
    refine wpAnyJ_takeG (i := 10) (oi := { dst := some 59, op := .fieldAddr 79 (.tmp 58) 0, type := 0, pos := "embeds.go:66", after := #[{ on := 9, ground := .data }], guard := none }) (v := ?v10_22) hG hsel (by kernel_rfl) (by kernel_rfl) (by kernel_rfl) (by kernel_rfl) (fun _ _ _ h => h) (Or.inl (And.intro (by kernel_rfl) ?q10_22)) hS0 ?r10_22
    case q10_22 => intro w hx; refine run_env [58] [?a10_22_58] (by kernel_rfl) (by kernel_rfl) (⟨?e10_22_58, trivial⟩) ?h10_22; (case e10_22_58 => ((conv => lhs; whnf); (try exact rfl))); (case h10_22 => ((try dsimp only); (try simp only [envL, lookV, if_true, if_false]); (try go_simp); (try with_reducible rfl)))
    (try simp only [Act.put, putS])
    refine rJ [6] ?_
    refine (AllReadyJ.cons rfl (fun K hK => ?_) AllReadyJ.nil)
    rw [if_pos (by kernel_rfl)]
    (try simp only [putG])
    (focus go_simp)
    (focus ((with_reducible refine (CA.out _ _ (qec_0 _ hS0)).mono ?_); rintro e wa ⟨rfl, ba⟩; have sq := bstep hS0 ba))
    (focus (try go_wp2_with fail))
    refine hK.out _ _ ?hs (fun hS0 => ?_)
    case hs => (first | with_reducible exact hS0 | with_reducible exact sq)
    clear hK K
    (try simp only [Act.put, putS])
    refine wpAnyJ_takeG (i := 7) (oi := { dst := some 56, op := .build 26 #[(0, .tmp 55)], type := 26, pos := "embeds.go:66", after := #[{ on := 6, ground := .data }], guard := none }) (v := ?v7_23) hG hsel (by kernel_rfl) (by kernel_rfl) (by kernel_rfl) (by kernel_rfl) (fun _ _ _ h => h) (Or.inl (And.intro (by kernel_rfl) ?q7_23)) hS0 ?r7_23
    case q7_23 => intro w hx; refine run_env [55] [?a7_23_55] (by kernel_rfl) (by kernel_rfl) (⟨?e7_23_55, trivial⟩) ?h7_23; (case e7_23_55 => ((conv => lhs; whnf); (try exact rfl))); (case h7_23 => ((try dsimp only); (try simp only [envL, lookV, if_true, if_false]); (try go_simp); (try with_reducible rfl)))
    (try simp only [Act.put, putS])
    refine rJ [11] ?_
    refine (AllReadyJ.cons rfl (fun K hK => ?_) AllReadyJ.nil)
    rw [if_pos (by kernel_rfl)]
    (try simp only [putG])
    (focus go_simp)
    (focus ((with_reducible refine (CB.out _ _ (qec_0 _ hS0)).mono ?_); rintro e wb ⟨rfl, bb2⟩; have sq := bstep hS0 bb2))
    (focus (try go_wp2_with fail))
    refine hK.out _ _ ?hs (fun hS0 => ?_)
    case hs => (first | with_reducible exact hS0 | with_reducible exact sq)
    clear hK K
    (try simp only [Act.put, putS])
    refine wpAnyJ_takeG (i := 12) (oi := { dst := some 61, op := .build 26 #[(0, .tmp 60)], type := 26, pos := "embeds.go:66", after := #[{ on := 11, ground := .data }], guard := none }) (v := ?v12_24) hG hsel (by kernel_rfl) (by kernel_rfl) (by kernel_rfl) (by kernel_rfl) (fun _ _ _ h => h) (Or.inl (And.intro (by kernel_rfl) ?q12_24)) hS0 ?r12_24
    case q12_24 => intro w hx; refine run_env [60] [?a12_24_60] (by kernel_rfl) (by kernel_rfl) (⟨?e12_24_60, trivial⟩) ?h12_24; (case e12_24_60 => ((conv => lhs; whnf); (try exact rfl))); (case h12_24 => ((try dsimp only); (try simp only [envL, lookV, if_true, if_false]); (try go_simp); (try with_reducible rfl)))
    (try simp only [Act.put, putS])
    refine wpAnyJ_takeG (i := 13) (oi := { dst := some 62, op := .build 33 #[(0, .tmp 51), (1, .tmp 56), (2, .tmp 61)], type := 33, pos := "embeds.go:66", after := #[{ on := 2, ground := .data }, { on := 7, ground := .data }, { on := 12, ground := .data }], guard := none }) (v := ?v13_25) hG hsel (by kernel_rfl) (by kernel_rfl) (by kernel_rfl) (by kernel_rfl) (fun _ _ _ h => h) (Or.inl (And.intro (by kernel_rfl) ?q13_25)) hS0 ?r13_25
    case q13_25 => intro w hx; refine run_env [51, 56, 61] [?a13_25_51, ?a13_25_56, ?a13_25_61] (by kernel_rfl) (by kernel_rfl) (⟨?e13_25_51, ?e13_25_56, ?e13_25_61, trivial⟩) ?h13_25; (case e13_25_51 => ((conv => lhs; whnf); (try exact rfl))); (case e13_25_56 => ((conv => lhs; whnf); (try exact rfl))); (case e13_25_61 => ((conv => lhs; whnf); (try exact rfl))); (case h13_25 => ((try dsimp only); (try simp only [envL, lookV, if_true, if_false]); (try go_simp); (try with_reducible rfl)))
    (try simp only [Act.put, putS])
    refine rJ [14] ?_
    refine (AllReadyJ.cons rfl (fun K hK => ?_) AllReadyJ.nil)
    rw [if_pos (by kernel_rfl)]
    (try simp only [putG])
    (focus go_simp)
    refine hK.out _ _ ?hs (fun hS0 => ?_)
    case hs => (first | with_reducible exact hS0 | with_reducible exact sq)
    clear hK K
    (try simp only [Act.put, putS])
    refine wpAnyJ_takeG (i := 15) (oi := { dst := some 64, op := .fieldAddr 79 (.tmp 63) 2, type := 0, pos := "embeds.go:66", after := #[{ on := 14, ground := .data }, { on := 0, ground := .phase }, { on := 1, ground := .phase }, { on := 2, ground := .phase }, { on := 3, ground := .phase }, { on := 4, ground := .phase }, { on := 5, ground := .phase }, { on := 6, ground := .phase }, { on := 7, ground := .phase }, { on := 8, ground := .phase }, { on := 9, ground := .phase }, { on := 10, ground := .phase }, { on := 11, ground := .phase }, { on := 12, ground := .phase }, { on := 13, ground := .phase }], guard := none }) (v := ?v15_26) hG hsel (by kernel_rfl) (by kernel_rfl) (by kernel_rfl) (by kernel_rfl) (fun _ _ _ h => h) (Or.inl (And.intro (by kernel_rfl) ?q15_26)) hS0 ?r15_26
    case q15_26 => intro w hx; refine run_env [63] [?a15_26_63] (by kernel_rfl) (by kernel_rfl) (⟨?e15_26_63, trivial⟩) ?h15_26; (case e15_26_63 => ((conv => lhs; whnf); (try exact rfl))); (case h15_26 => ((try dsimp only); (try simp only [envL, lookV, if_true, if_false]); (try go_simp); (try with_reducible rfl)))
    (try simp only [Act.put, putS])
    refine rJ [16] ?_
    refine (AllReadyJ.last rfl (by kernel_rfl) (fun K hK => ?_) AllReadyJ.nil)
    (focus (rw [if_pos (by kernel_rfl)]; have kc := Cells.below hS0 EC.out; have y2 := kc.at_ 2; have y3 := kc.at_ 3; have y4 := kc.at_ 4; have y5 := kc.at_ 5; have y6 := kc.at_ 6; have f2 := kc.free 2; have f3 := kc.free 3; have f4 := kc.free 4; have f5 := kc.free 5; have f6 := kc.free 6; clear kc; go_simp))
    (focus (try go_wp2_with fail))
    refine hK.out _ _ ?_
    clear hK K
    (try simp only [Act.put, putS])
    refine wpAnyJ_done (by kernel_rfl) ?_ _
  have em : Em (((((wb.setCell ⟨w.heap.size, 2, none⟩ (.int .u8 p)).setCell ⟨w.heap.size, 3, none⟩ (.int .u32 va)).setCell ⟨w.heap.size, 4, none⟩ (.int .u16 0)).setCell ⟨w.heap.size, 5, none⟩ (.int .u32 vb)).setCell ⟨w.heap.size, 6, none⟩ (.int .u16 0)) w.heap.size s k ⟨p, va, 0, vb, 0⟩ false := Cells.like (Cells.set_ (Cells.set_ (Cells.set_ (Cells.set_ (Cells.set_ (Cells.below hS0 EC.out) 2 (.int .u8 p)) 3 (.int .u32 va)) 4 (.int .u16 0)) 5 (.int .u32 vb)) 6 (.int .u16 0)) (by simp [emCells])
  have lw : Below w.heap.size w (((((wb.setCell ⟨w.heap.size, 2, none⟩ (.int .u8 p)).setCell ⟨w.heap.size, 3, none⟩ (.int .u32 va)).setCell ⟨w.heap.size, 4, none⟩ (.int .u16 0)).setCell ⟨w.heap.size, 5, none⟩ (.int .u32 vb)).setCell ⟨w.heap.size, 6, none⟩ (.int .u16 0)) := Below.setCell (Below.setCell (Below.setCell (Below.setCell (Below.setCell (bstep EB.out hS0) (Nat.le_refl _) _) (Nat.le_refl _) _) (Nat.le_refl _) _) (Nat.le_refl _) _) (Nat.le_refl _) _
  have EM := hide em; have LW := hide lw
  clear em lw s7 sq ba bb2 b6' hS0 qec_0 qec_1 qec_2 qec_3 qec_4 qec_5 qec_6 qec_7 EC EB CA CB CW
  generalize (((((wb.setCell ⟨w.heap.size, 2, none⟩ (.int .u8 p)).setCell ⟨w.heap.size, 3, none⟩ (.int .u32 va)).setCell ⟨w.heap.size, 4, none⟩ (.int .u16 0)).setCell ⟨w.heap.size, 5, none⟩ (.int .u32 vb)).setCell ⟨w.heap.size, 6, none⟩ (.int .u16 0)) = w8 at *
  have hk := HK.out
  obtain ⟨k2, hk2⟩ : ∃ k2 : Nat, k2 = k + 2 := ⟨_, rfl⟩
  have cS := fun W B (hc : W.cell? ⟨B, 0, none⟩ = some (.string s)) => e_two W B s (k : Int) hc hs ⟨by omega, by omega⟩
  have cD := fun W B (hc : W.cell? ⟨B, 0, none⟩ = some (.string s)) => e_two W B s (k2 : Int) hc hs ⟨by omega, by omega⟩
  rw [get16_nat (by rw [L_length]; have := F2.out; omega), hk, ← hvs, ← hk] at cS
  rw [get16_nat (by rw [L_length]; have := F2.out; omega), hk2, hk, ← hvd, ← hk, ← hk2] at cD
  have CS := hide cS; have CD := hide cD
  have hw2 : IntKind.i64.wrap ((k : Int) + 2) = (k2 : Int) := by rw [IntWalk.i64_in _ (by omega), hk2]; omega
  clear cS cD hvs hvd hs hk2 hkb
  clear hk
  have kc := EM.out
  have y2 : w8.cell? ⟨w.heap.size, 2, none⟩ = some (.int .u8 p) := kc.at_ 2
  clear kc
  have hp := HP.out
  subst hp
  go_upto_region 12 with fail
  clear y2
  have s12 : Below w8.heap.size w8 w8.drew := Below.drew (Below.refl _ _)
  have EMS := hide (fun W (h : ∃ b d, Em W w.heap.size s k ⟨6, va, b, vb, d⟩ false) => (show W.cell? ⟨w.heap.size, 0, none⟩ = some (.string s) by obtain ⟨b, d, k⟩ := h; exact k.at_ 0))
  have t12 : ∃ b d, Em w8.drew w.heap.size s k ⟨6, va, b, vb, d⟩ false := ⟨0, 0, Cells.drew EM.out⟩
  focus
    refine wp_region_JG [28] (fun W => ∃ b d, Em W w.heap.size s k ⟨6, va, b, vb, d⟩ false) (by kernel_rfl) (by kernel_rfl) (t12) (fun hG hsel hS0 => ?_)
    refine wpAnyJ_takeG (i := 0) (oi := { dst := some 73, op := .move (.tmp 4), type := 73, pos := "embeds.go:69", after := #[], guard := none }) (v := ?v0_27) hG hsel (by kernel_rfl) (by kernel_rfl) (by kernel_rfl) (by kernel_rfl) (fun _ _ _ h => h) (Or.inl (And.intro (by kernel_rfl) ?q0_27)) hS0 ?r0_27
    case q0_27 => intro wx hx; obtain ⟨b, d, kx⟩ := hx; have y1 : wx.cell? ⟨w.heap.size, 1, none⟩ = some (.int .i64 (k : Int)) := kx.at_ 1; refine run_env [4] [?a0_27_4] (by kernel_rfl) (by kernel_rfl) (⟨?e0_27_4, trivial⟩) ?h0_27; (case e0_27_4 => ((conv => lhs; whnf); (try exact rfl))); (case h0_27 => ((try dsimp only); (try simp only [envL, lookV, if_true, if_false]); (try go_simp); (try with_reducible rfl)))
    (try simp only [Act.put, putS])
    refine wpAnyJ_takeG (i := 1) (oi := { dst := some 74, op := .move (.tmp 4), type := 73, pos := "embeds.go:69", after := #[{ on := 23, ground := .gcOnly Go.Departure.lateStores }], guard := none }) (v := ?v1_28) hG hsel (by kernel_rfl) (by kernel_rfl) (by kernel_rfl) (by kernel_rfl) (fun _ _ _ h => h) (Or.inl (And.intro (by kernel_rfl) ?q1_28)) hS0 ?r1_28
    case q1_28 => intro wx hx; obtain ⟨b, d, kx⟩ := hx; have y1 : wx.cell? ⟨w.heap.size, 1, none⟩ = some (.int .i64 (k : Int)) := kx.at_ 1; refine run_env [4] [?a1_28_4] (by kernel_rfl) (by kernel_rfl) (⟨?e1_28_4, trivial⟩) ?h1_28; (case e1_28_4 => ((conv => lhs; whnf); (try exact rfl))); (case h1_28 => ((try dsimp only); (try simp only [envL, lookV, if_true, if_false]); (try go_simp); (try with_reducible rfl)))
    (try simp only [Act.put, putS])
    refine wpAnyJ_takeG (i := 2) (oi := { dst := some 75, op := .move (.tmp 4), type := 73, pos := "embeds.go:69", after := #[], guard := none }) (v := ?v2_29) hG hsel (by kernel_rfl) (by kernel_rfl) (by kernel_rfl) (by kernel_rfl) (fun _ _ _ h => h) (Or.inl (And.intro (by kernel_rfl) ?q2_29)) hS0 ?r2_29
    case q2_29 => intro wx hx; obtain ⟨b, d, kx⟩ := hx; have y1 : wx.cell? ⟨w.heap.size, 1, none⟩ = some (.int .i64 (k : Int)) := kx.at_ 1; refine run_env [4] [?a2_29_4] (by kernel_rfl) (by kernel_rfl) (⟨?e2_29_4, trivial⟩) ?h2_29; (case e2_29_4 => ((conv => lhs; whnf); (try exact rfl))); (case h2_29 => ((try dsimp only); (try simp only [envL, lookV, if_true, if_false]); (try go_simp); (try with_reducible rfl)))
    (try simp only [Act.put, putS])
    refine wpAnyJ_takeG (i := 3) (oi := { dst := some 76, op := .nilCheck (.tmp 75), type := 0, pos := "embeds.go:69", after := #[{ on := 2, ground := .data }], guard := none }) (v := ?v3_30) hG hsel (by kernel_rfl) (by kernel_rfl) (by kernel_rfl) (by kernel_rfl) (fun _ _ _ h => h) (Or.inl (And.intro (by kernel_rfl) ?q3_30)) hS0 ?r3_30
    case q3_30 => intro wx hx; obtain ⟨b, d, kx⟩ := hx; have y1 : wx.cell? ⟨w.heap.size, 1, none⟩ = some (.int .i64 (k : Int)) := kx.at_ 1; refine run_env [75] [?a3_30_75] (by kernel_rfl) (by kernel_rfl) (⟨?e3_30_75, trivial⟩) ?h3_30; (case e3_30_75 => ((conv => lhs; whnf); (try exact rfl))); (case h3_30 => ((try dsimp only); (try simp only [envL, lookV, if_true, if_false]); (try go_simp); (try with_reducible rfl)))
    (try simp only [Act.put, putS])
    refine wpAnyJ_takeG (i := 4) (oi := { dst := some 77, op := .fieldAddr 79 (.tmp 76) 0, type := 0, pos := "embeds.go:69", after := #[{ on := 3, ground := .data }], guard := none }) (v := ?v4_31) hG hsel (by kernel_rfl) (by kernel_rfl) (by kernel_rfl) (by kernel_rfl) (fun _ _ _ h => h) (Or.inl (And.intro (by kernel_rfl) ?q4_31)) hS0 ?r4_31
    case q4_31 => intro wx hx; obtain ⟨b, d, kx⟩ := hx; have y1 : wx.cell? ⟨w.heap.size, 1, none⟩ = some (.int .i64 (k : Int)) := kx.at_ 1; refine run_env [76] [?a4_31_76] (by kernel_rfl) (by kernel_rfl) (⟨?e4_31_76, trivial⟩) ?h4_31; (case e4_31_76 => ((conv => lhs; whnf); (try exact rfl))); (case h4_31 => ((try dsimp only); (try simp only [envL, lookV, if_true, if_false]); (try go_simp); (try with_reducible rfl)))
    (try simp only [Act.put, putS])
    refine wpAnyJ_takeG (i := 5) (oi := { dst := some 78, op := .move (.tmp 4), type := 73, pos := "embeds.go:69", after := #[], guard := none }) (v := ?v5_32) hG hsel (by kernel_rfl) (by kernel_rfl) (by kernel_rfl) (by kernel_rfl) (fun _ _ _ h => h) (Or.inl (And.intro (by kernel_rfl) ?q5_32)) hS0 ?r5_32
    case q5_32 => intro wx hx; obtain ⟨b, d, kx⟩ := hx; have y1 : wx.cell? ⟨w.heap.size, 1, none⟩ = some (.int .i64 (k : Int)) := kx.at_ 1; refine run_env [4] [?a5_32_4] (by kernel_rfl) (by kernel_rfl) (⟨?e5_32_4, trivial⟩) ?h5_32; (case e5_32_4 => ((conv => lhs; whnf); (try exact rfl))); (case h5_32 => ((try dsimp only); (try simp only [envL, lookV, if_true, if_false]); (try go_simp); (try with_reducible rfl)))
    (try simp only [Act.put, putS])
    refine wpAnyJ_takeG (i := 6) (oi := { dst := some 79, op := .nilCheck (.tmp 78), type := 0, pos := "embeds.go:69", after := #[{ on := 5, ground := .data }], guard := none }) (v := ?v6_33) hG hsel (by kernel_rfl) (by kernel_rfl) (by kernel_rfl) (by kernel_rfl) (fun _ _ _ h => h) (Or.inl (And.intro (by kernel_rfl) ?q6_33)) hS0 ?r6_33
    case q6_33 => intro wx hx; obtain ⟨b, d, kx⟩ := hx; have y1 : wx.cell? ⟨w.heap.size, 1, none⟩ = some (.int .i64 (k : Int)) := kx.at_ 1; refine run_env [78] [?a6_33_78] (by kernel_rfl) (by kernel_rfl) (⟨?e6_33_78, trivial⟩) ?h6_33; (case e6_33_78 => ((conv => lhs; whnf); (try exact rfl))); (case h6_33 => ((try dsimp only); (try simp only [envL, lookV, if_true, if_false]); (try go_simp); (try with_reducible rfl)))
    (try simp only [Act.put, putS])
    refine wpAnyJ_takeG (i := 7) (oi := { dst := some 80, op := .fieldAddr 79 (.tmp 79) 1, type := 0, pos := "embeds.go:69", after := #[{ on := 6, ground := .data }], guard := none }) (v := ?v7_34) hG hsel (by kernel_rfl) (by kernel_rfl) (by kernel_rfl) (by kernel_rfl) (fun _ _ _ h => h) (Or.inl (And.intro (by kernel_rfl) ?q7_34)) hS0 ?r7_34
    case q7_34 => intro wx hx; obtain ⟨b, d, kx⟩ := hx; have y1 : wx.cell? ⟨w.heap.size, 1, none⟩ = some (.int .i64 (k : Int)) := kx.at_ 1; refine run_env [79] [?a7_34_79] (by kernel_rfl) (by kernel_rfl) (⟨?e7_34_79, trivial⟩) ?h7_34; (case e7_34_79 => ((conv => lhs; whnf); (try exact rfl))); (case h7_34 => ((try dsimp only); (try simp only [envL, lookV, if_true, if_false]); (try go_simp); (try with_reducible rfl)))
    (try simp only [Act.put, putS])
    refine wpAnyJ_takeG (i := 8) (oi := { dst := some 81, op := .load 3 (.tmp 80), type := 3, pos := "embeds.go:69", after := #[{ on := 7, ground := .data }], guard := none }) (v := ?v8_35) hG hsel (by kernel_rfl) (by kernel_rfl) (by kernel_rfl) (by kernel_rfl) (fun _ _ _ h => h) (Or.inl (And.intro (by kernel_rfl) ?q8_35)) hS0 ?r8_35
    case q8_35 => intro wx hx; obtain ⟨b, d, kx⟩ := hx; have y1 : wx.cell? ⟨w.heap.size, 1, none⟩ = some (.int .i64 (k : Int)) := kx.at_ 1; refine run_env [80] [?a8_35_80] (by kernel_rfl) (by kernel_rfl) (⟨?e8_35_80, trivial⟩) ?h8_35; (case e8_35_80 => ((conv => lhs; whnf); (try exact rfl))); (case h8_35 => ((try dsimp only); (try simp only [envL, lookV, if_true, if_false]); (try go_simp); (try with_reducible rfl)))
    (try simp only [Act.put, putS])
    refine wpAnyJ_takeG (i := 10) (oi := { dst := some 83, op := .move (.tmp 4), type := 73, pos := "embeds.go:69", after := #[], guard := none }) (v := ?v10_36) hG hsel (by kernel_rfl) (by kernel_rfl) (by kernel_rfl) (by kernel_rfl) (fun _ _ _ h => h) (Or.inl (And.intro (by kernel_rfl) ?q10_36)) hS0 ?r10_36
    case q10_36 => intro wx hx; obtain ⟨b, d, kx⟩ := hx; have y1 : wx.cell? ⟨w.heap.size, 1, none⟩ = some (.int .i64 (k : Int)) := kx.at_ 1; refine run_env [4] [?a10_36_4] (by kernel_rfl) (by kernel_rfl) (⟨?e10_36_4, trivial⟩) ?h10_36; (case e10_36_4 => ((conv => lhs; whnf); (try exact rfl))); (case h10_36 => ((try dsimp only); (try simp only [envL, lookV, if_true, if_false]); (try go_simp); (try with_reducible rfl)))
    (try simp only [Act.put, putS])
    refine wpAnyJ_takeG (i := 11) (oi := { dst := some 84, op := .nilCheck (.tmp 83), type := 0, pos := "embeds.go:69", after := #[{ on := 10, ground := .data }], guard := none }) (v := ?v11_37) hG hsel (by kernel_rfl) (by kernel_rfl) (by kernel_rfl) (by kernel_rfl) (fun _ _ _ h => h) (Or.inl (And.intro (by kernel_rfl) ?q11_37)) hS0 ?r11_37
    case q11_37 => intro wx hx; obtain ⟨b, d, kx⟩ := hx; have y1 : wx.cell? ⟨w.heap.size, 1, none⟩ = some (.int .i64 (k : Int)) := kx.at_ 1; refine run_env [83] [?a11_37_83] (by kernel_rfl) (by kernel_rfl) (⟨?e11_37_83, trivial⟩) ?h11_37; (case e11_37_83 => ((conv => lhs; whnf); (try exact rfl))); (case h11_37 => ((try dsimp only); (try simp only [envL, lookV, if_true, if_false]); (try go_simp); (try with_reducible rfl)))
    (try simp only [Act.put, putS])
    refine wpAnyJ_takeG (i := 12) (oi := { dst := some 85, op := .fieldAddr 79 (.tmp 84) 0, type := 0, pos := "embeds.go:69", after := #[{ on := 11, ground := .data }], guard := none }) (v := ?v12_38) hG hsel (by kernel_rfl) (by kernel_rfl) (by kernel_rfl) (by kernel_rfl) (fun _ _ _ h => h) (Or.inl (And.intro (by kernel_rfl) ?q12_38)) hS0 ?r12_38
    case q12_38 => intro wx hx; obtain ⟨b, d, kx⟩ := hx; have y1 : wx.cell? ⟨w.heap.size, 1, none⟩ = some (.int .i64 (k : Int)) := kx.at_ 1; refine run_env [84] [?a12_38_84] (by kernel_rfl) (by kernel_rfl) (⟨?e12_38_84, trivial⟩) ?h12_38; (case e12_38_84 => ((conv => lhs; whnf); (try exact rfl))); (case h12_38 => ((try dsimp only); (try simp only [envL, lookV, if_true, if_false]); (try go_simp); (try with_reducible rfl)))
    (try simp only [Act.put, putS])
    refine wpAnyJ_takeG (i := 13) (oi := { dst := some 86, op := .move (.tmp 4), type := 73, pos := "embeds.go:69", after := #[], guard := none }) (v := ?v13_39) hG hsel (by kernel_rfl) (by kernel_rfl) (by kernel_rfl) (by kernel_rfl) (fun _ _ _ h => h) (Or.inl (And.intro (by kernel_rfl) ?q13_39)) hS0 ?r13_39
    case q13_39 => intro wx hx; obtain ⟨b, d, kx⟩ := hx; have y1 : wx.cell? ⟨w.heap.size, 1, none⟩ = some (.int .i64 (k : Int)) := kx.at_ 1; refine run_env [4] [?a13_39_4] (by kernel_rfl) (by kernel_rfl) (⟨?e13_39_4, trivial⟩) ?h13_39; (case e13_39_4 => ((conv => lhs; whnf); (try exact rfl))); (case h13_39 => ((try dsimp only); (try simp only [envL, lookV, if_true, if_false]); (try go_simp); (try with_reducible rfl)))
    (try simp only [Act.put, putS])
    refine wpAnyJ_takeG (i := 14) (oi := { dst := some 87, op := .nilCheck (.tmp 86), type := 0, pos := "embeds.go:69", after := #[{ on := 13, ground := .data }], guard := none }) (v := ?v14_40) hG hsel (by kernel_rfl) (by kernel_rfl) (by kernel_rfl) (by kernel_rfl) (fun _ _ _ h => h) (Or.inl (And.intro (by kernel_rfl) ?q14_40)) hS0 ?r14_40
    case q14_40 => intro wx hx; obtain ⟨b, d, kx⟩ := hx; have y1 : wx.cell? ⟨w.heap.size, 1, none⟩ = some (.int .i64 (k : Int)) := kx.at_ 1; refine run_env [86] [?a14_40_86] (by kernel_rfl) (by kernel_rfl) (⟨?e14_40_86, trivial⟩) ?h14_40; (case e14_40_86 => ((conv => lhs; whnf); (try exact rfl))); (case h14_40 => ((try dsimp only); (try simp only [envL, lookV, if_true, if_false]); (try go_simp); (try with_reducible rfl)))
    (try simp only [Act.put, putS])
    refine wpAnyJ_takeG (i := 15) (oi := { dst := some 88, op := .fieldAddr 79 (.tmp 87) 1, type := 0, pos := "embeds.go:69", after := #[{ on := 14, ground := .data }], guard := none }) (v := ?v15_41) hG hsel (by kernel_rfl) (by kernel_rfl) (by kernel_rfl) (by kernel_rfl) (fun _ _ _ h => h) (Or.inl (And.intro (by kernel_rfl) ?q15_41)) hS0 ?r15_41
    case q15_41 => intro wx hx; obtain ⟨b, d, kx⟩ := hx; have y1 : wx.cell? ⟨w.heap.size, 1, none⟩ = some (.int .i64 (k : Int)) := kx.at_ 1; refine run_env [87] [?a15_41_87] (by kernel_rfl) (by kernel_rfl) (⟨?e15_41_87, trivial⟩) ?h15_41; (case e15_41_87 => ((conv => lhs; whnf); (try exact rfl))); (case h15_41 => ((try dsimp only); (try simp only [envL, lookV, if_true, if_false]); (try go_simp); (try with_reducible rfl)))
    (try simp only [Act.put, putS])
    refine wpAnyJ_takeG (i := 16) (oi := { dst := some 89, op := .load 3 (.tmp 88), type := 3, pos := "embeds.go:69", after := #[{ on := 15, ground := .data }], guard := none }) (v := ?v16_42) hG hsel (by kernel_rfl) (by kernel_rfl) (by kernel_rfl) (by kernel_rfl) (fun _ _ _ h => h) (Or.inl (And.intro (by kernel_rfl) ?q16_42)) hS0 ?r16_42
    case q16_42 => intro wx hx; obtain ⟨b, d, kx⟩ := hx; have y1 : wx.cell? ⟨w.heap.size, 1, none⟩ = some (.int .i64 (k : Int)) := kx.at_ 1; refine run_env [88] [?a16_42_88] (by kernel_rfl) (by kernel_rfl) (⟨?e16_42_88, trivial⟩) ?h16_42; (case e16_42_88 => ((conv => lhs; whnf); (try exact rfl))); (case h16_42 => ((try dsimp only); (try simp only [envL, lookV, if_true, if_false]); (try go_simp); (try with_reducible rfl)))
    (try simp only [Act.put, putS])
    refine wpAnyJ_takeG (i := 17) (oi := { dst := some 90, op := .binOp Go.BinOp.add 3 (.tmp 89) (.const (Go.Value.int Go.IntKind.i64 2)) 3, type := 3, pos := "embeds.go:69", after := #[{ on := 16, ground := .data }], guard := none }) (v := ?v17_43) hG hsel (by kernel_rfl) (by kernel_rfl) (by kernel_rfl) (by kernel_rfl) (fun _ _ _ h => h) (Or.inl (And.intro (by kernel_rfl) ?q17_43)) hS0 ?r17_43
    case q17_43 => intro wx hx; obtain ⟨b, d, kx⟩ := hx; have y1 : wx.cell? ⟨w.heap.size, 1, none⟩ = some (.int .i64 (k : Int)) := kx.at_ 1; refine run_env [89] [?a17_43_89] (by kernel_rfl) (by kernel_rfl) (⟨?e17_43_89, trivial⟩) ?h17_43; (case e17_43_89 => ((conv => lhs; whnf); (try exact rfl))); (case h17_43 => ((try dsimp only); (try simp only [envL, lookV, if_true, if_false]); (try go_simp); (try with_reducible rfl)))
    (try simp only [Act.put, putS])
    refine rJ [9] ?_
    refine (AllReadyJ.cons rfl (fun K hK => ?_) AllReadyJ.nil)
    rw [if_pos (by kernel_rfl)]
    (try simp only [putG])
    (focus go_simp)
    (focus ((with_reducible refine (CS.out _ _ (EMS.out _ hS0)).mono ?_); rintro e wa ⟨rfl, ba⟩; have sq : ∃ b d, Em wa w.heap.size s k ⟨6, va, b, vb, d⟩ false := by obtain ⟨b, d, kc⟩ := hS0; exact ⟨b, d, Cells.below ba kc⟩))
    (focus (try go_wp2_with fail))
    refine hK.out _ _ ?hs (fun hS0 => ?_)
    case hs => (first | with_reducible exact hS0 | with_reducible exact sq | (obtain ⟨b, d, kc⟩ := hS0; exact ⟨vs, d, Cells.like (Cells.set_ kc 4 (.int .u16 vs)) (by simp [emCells])⟩))
    clear hK K
    (try simp only [Act.put, putS])
    refine rJ [18] ?_
    refine (AllReadyJ.cons rfl (fun K hK => ?_) AllReadyJ.nil)
    rw [if_pos (by kernel_rfl)]
    (try simp only [putG])
    (focus go_simp)
    (focus ((with_reducible refine (CD.out _ _ (EMS.out _ hS0)).mono ?_); rintro e wb ⟨rfl, bb⟩; have sq : ∃ b d, Em wb w.heap.size s k ⟨6, va, b, vb, d⟩ false := by obtain ⟨b, d, kc⟩ := hS0; exact ⟨b, d, Cells.below bb kc⟩))
    (focus (try go_wp2_with fail))
    refine hK.out _ _ ?hs (fun hS0 => ?_)
    case hs => (first | with_reducible exact hS0 | with_reducible exact sq | (obtain ⟨b, d, kc⟩ := hS0; exact ⟨vs, d, Cells.like (Cells.set_ kc 4 (.int .u16 vs)) (by simp [emCells])⟩))
    clear hK K
    (try simp only [Act.put, putS])
    refine wpAnyJ_takeG (i := 19) (oi := { dst := some 92, op := .nilCheck (.tmp 73), type := 0, pos := "embeds.go:69", after := #[{ on := 0, ground := .data }, { on := 0, ground := .phase }, { on := 1, ground := .textOnly Go.Departure.lateStores }, { on := 2, ground := .phase }, { on := 3, ground := .phase }, { on := 4, ground := .phase }, { on := 5, ground := .phase }, { on := 6, ground := .phase }, { on := 7, ground := .phase }, { on := 8, ground := .phase }, { on := 9, ground := .phase }, { on := 10, ground := .textOnly Go.Departure.lateStores }, { on := 11, ground := .textOnly Go.Departure.lateStoresUnsure }, { on := 12, ground := .textOnly Go.Departure.lateStoresUnsure }, { on := 13, ground := .textOnly Go.Departure.lateStores }, { on := 14, ground := .textOnly Go.Departure.lateStoresUnsure }, { on := 15, ground := .textOnly Go.Departure.lateStoresUnsure }, { on := 16, ground := .phase }, { on := 17, ground := .textOnly Go.Departure.lateStoresUnsure }, { on := 18, ground := .phase }], guard := none }) (v := ?v19_44) hG hsel (by kernel_rfl) (by kernel_rfl) (by kernel_rfl) (by kernel_rfl) (fun _ _ _ h => h) (Or.inl (And.intro (by kernel_rfl) ?q19_44)) hS0 ?r19_44
    case q19_44 => intro wx hx; obtain ⟨b, d, kx⟩ := hx; have y1 : wx.cell? ⟨w.heap.size, 1, none⟩ = some (.int .i64 (k : Int)) := kx.at_ 1; refine run_env [73] [?a19_44_73] (by kernel_rfl) (by kernel_rfl) (⟨?e19_44_73, trivial⟩) ?h19_44; (case e19_44_73 => ((conv => lhs; whnf); (try exact rfl))); (case h19_44 => ((try dsimp only); (try simp only [envL, lookV, if_true, if_false]); (try go_simp); (try with_reducible rfl)))
    (try simp only [Act.put, putS])
    refine wpAnyJ_takeG (i := 20) (oi := { dst := some 93, op := .fieldAddr 79 (.tmp 92) 2, type := 0, pos := "embeds.go:69", after := #[{ on := 19, ground := .data }, { on := 0, ground := .phase }, { on := 1, ground := .textOnly Go.Departure.lateStores }, { on := 2, ground := .phase }, { on := 3, ground := .phase }, { on := 4, ground := .phase }, { on := 5, ground := .phase }, { on := 6, ground := .phase }, { on := 7, ground := .phase }, { on := 8, ground := .phase }, { on := 9, ground := .phase }, { on := 10, ground := .textOnly Go.Departure.lateStores }, { on := 11, ground := .textOnly Go.Departure.lateStoresUnsure }, { on := 12, ground := .textOnly Go.Departure.lateStoresUnsure }, { on := 13, ground := .textOnly Go.Departure.lateStores }, { on := 14, ground := .textOnly Go.Departure.lateStoresUnsure }, { on := 15, ground := .textOnly Go.Departure.lateStoresUnsure }, { on := 16, ground := .phase }, { on := 17, ground := .textOnly Go.Departure.lateStoresUnsure }, { on := 18, ground := .phase }], guard := none }) (v := ?v20_45) hG hsel (by kernel_rfl) (by kernel_rfl) (by kernel_rfl) (by kernel_rfl) (fun _ _ _ h => h) (Or.inl (And.intro (by kernel_rfl) ?q20_45)) hS0 ?r20_45
    case q20_45 => intro wx hx; obtain ⟨b, d, kx⟩ := hx; have y1 : wx.cell? ⟨w.heap.size, 1, none⟩ = some (.int .i64 (k : Int)) := kx.at_ 1; refine run_env [92] [?a20_45_92] (by kernel_rfl) (by kernel_rfl) (⟨?e20_45_92, trivial⟩) ?h20_45; (case e20_45_92 => ((conv => lhs; whnf); (try exact rfl))); (case h20_45 => ((try dsimp only); (try simp only [envL, lookV, if_true, if_false]); (try go_simp); (try with_reducible rfl)))
    (try simp only [Act.put, putS])
    refine wpAnyJ_takeG (i := 21) (oi := { dst := some 94, op := .fieldAddr 33 (.tmp 93) 1, type := 0, pos := "embeds.go:69", after := #[{ on := 20, ground := .data }, { on := 0, ground := .phase }, { on := 1, ground := .textOnly Go.Departure.lateStores }, { on := 2, ground := .phase }, { on := 3, ground := .phase }, { on := 4, ground := .phase }, { on := 5, ground := .phase }, { on := 6, ground := .phase }, { on := 7, ground := .phase }, { on := 8, ground := .phase }, { on := 9, ground := .phase }, { on := 10, ground := .textOnly Go.Departure.lateStores }, { on := 11, ground := .textOnly Go.Departure.lateStoresUnsure }, { on := 12, ground := .textOnly Go.Departure.lateStoresUnsure }, { on := 13, ground := .textOnly Go.Departure.lateStores }, { on := 14, ground := .textOnly Go.Departure.lateStoresUnsure }, { on := 15, ground := .textOnly Go.Departure.lateStoresUnsure }, { on := 16, ground := .phase }, { on := 17, ground := .textOnly Go.Departure.lateStoresUnsure }, { on := 18, ground := .phase }], guard := none }) (v := ?v21_46) hG hsel (by kernel_rfl) (by kernel_rfl) (by kernel_rfl) (by kernel_rfl) (fun _ _ _ h => h) (Or.inl (And.intro (by kernel_rfl) ?q21_46)) hS0 ?r21_46
    case q21_46 => intro wx hx; obtain ⟨b, d, kx⟩ := hx; have y1 : wx.cell? ⟨w.heap.size, 1, none⟩ = some (.int .i64 (k : Int)) := kx.at_ 1; refine run_env [93] [?a21_46_93] (by kernel_rfl) (by kernel_rfl) (⟨?e21_46_93, trivial⟩) ?h21_46; (case e21_46_93 => ((conv => lhs; whnf); (try exact rfl))); (case h21_46 => ((try dsimp only); (try simp only [envL, lookV, if_true, if_false]); (try go_simp); (try with_reducible rfl)))
    (try simp only [Act.put, putS])
    refine wpAnyJ_takeG (i := 22) (oi := { dst := some 95, op := .fieldAddr 26 (.tmp 94) 1, type := 0, pos := "embeds.go:69", after := #[{ on := 21, ground := .data }, { on := 0, ground := .phase }, { on := 1, ground := .textOnly Go.Departure.lateStores }, { on := 2, ground := .phase }, { on := 3, ground := .phase }, { on := 4, ground := .phase }, { on := 5, ground := .phase }, { on := 6, ground := .phase }, { on := 7, ground := .phase }, { on := 8, ground := .phase }, { on := 9, ground := .phase }, { on := 10, ground := .textOnly Go.Departure.lateStores }, { on := 11, ground := .textOnly Go.Departure.lateStoresUnsure }, { on := 12, ground := .textOnly Go.Departure.lateStoresUnsure }, { on := 13, ground := .textOnly Go.Departure.lateStores }, { on := 14, ground := .textOnly Go.Departure.lateStoresUnsure }, { on := 15, ground := .textOnly Go.Departure.lateStoresUnsure }, { on := 16, ground := .phase }, { on := 17, ground := .textOnly Go.Departure.lateStoresUnsure }, { on := 18, ground := .phase }], guard := none }) (v := ?v22_47) hG hsel (by kernel_rfl) (by kernel_rfl) (by kernel_rfl) (by kernel_rfl) (fun _ _ _ h => h) (Or.inl (And.intro (by kernel_rfl) ?q22_47)) hS0 ?r22_47
    case q22_47 => intro wx hx; obtain ⟨b, d, kx⟩ := hx; have y1 : wx.cell? ⟨w.heap.size, 1, none⟩ = some (.int .i64 (k : Int)) := kx.at_ 1; refine run_env [94] [?a22_47_94] (by kernel_rfl) (by kernel_rfl) (⟨?e22_47_94, trivial⟩) ?h22_47; (case e22_47_94 => ((conv => lhs; whnf); (try exact rfl))); (case h22_47 => ((try dsimp only); (try simp only [envL, lookV, if_true, if_false]); (try go_simp); (try with_reducible rfl)))
    (try simp only [Act.put, putS])
    refine rJ [23] ?_
    refine (AllReadyJ.cons rfl (fun K hK => ?_) AllReadyJ.nil)
    (focus (rw [if_pos (by kernel_rfl)]; obtain ⟨b, d, kc⟩ := hS0; have y4 : World.cell? _ ⟨w.heap.size, 4, none⟩ = some (.int .u16 b) := kc.at_ 4; have f4 := kc.free 4; go_simp; have hS0 : ∃ b d, Em wb w.heap.size s k ⟨6, va, b, vb, d⟩ false := ⟨b, d, kc⟩; clear kc y4 f4))
    (focus (try go_wp2_with fail))
    refine hK.out _ _ ?hs (fun hS0 => ?_)
    case hs => (first | with_reducible exact hS0 | with_reducible exact sq | (obtain ⟨b, d, kc⟩ := hS0; exact ⟨vs, d, Cells.like (Cells.set_ kc 4 (.int .u16 vs)) (by simp [emCells])⟩))
    clear hK K
    (try simp only [Act.put, putS])
    refine rJ [24] ?_
    refine (AllReadyJ.cons rfl (fun K hK => ?_) AllReadyJ.nil)
    rw [if_pos (by kernel_rfl)]
    (try simp only [putG])
    (focus go_simp)
    refine hK.out _ _ ?hs (fun hS0 => ?_)
    case hs => (first | with_reducible exact hS0 | with_reducible exact sq | (obtain ⟨b, d, kc⟩ := hS0; exact ⟨vs, d, Cells.like (Cells.set_ kc 4 (.int .u16 vs)) (by simp [emCells])⟩))
    clear hK K
    (try simp only [Act.put, putS])
    refine rJ [25] ?_
    refine (AllReadyJ.cons rfl (fun K hK => ?_) AllReadyJ.nil)
    rw [if_pos (by kernel_rfl)]
    (try simp only [putG])
    (focus go_simp)
    refine hK.out _ _ ?hs (fun hS0 => ?_)
    case hs => (first | with_reducible exact hS0 | with_reducible exact sq | (obtain ⟨b, d, kc⟩ := hS0; exact ⟨vs, d, Cells.like (Cells.set_ kc 4 (.int .u16 vs)) (by simp [emCells])⟩))
    clear hK K
    (try simp only [Act.put, putS])
    refine rJ [26] ?_
    refine (AllReadyJ.cons rfl (fun K hK => ?_) AllReadyJ.nil)
    rw [if_pos (by kernel_rfl)]
    (try simp only [putG])
    (focus go_simp)
    refine hK.out _ _ ?hs (fun hS0 => ?_)
    case hs => (first | with_reducible exact hS0 | with_reducible exact sq | (obtain ⟨b, d, kc⟩ := hS0; exact ⟨vs, d, Cells.like (Cells.set_ kc 4 (.int .u16 vs)) (by simp [emCells])⟩))
    clear hK K
    (try simp only [Act.put, putS])
    refine wpAnyJ_takeG (i := 27) (oi := { dst := some 99, op := .fieldAddr 26 (.tmp 98) 1, type := 0, pos := "embeds.go:69", after := #[{ on := 26, ground := .data }, { on := 0, ground := .phase }, { on := 1, ground := .phase }, { on := 2, ground := .phase }, { on := 3, ground := .phase }, { on := 4, ground := .phase }, { on := 5, ground := .phase }, { on := 6, ground := .phase }, { on := 7, ground := .phase }, { on := 8, ground := .phase }, { on := 9, ground := .phase }, { on := 10, ground := .phase }, { on := 11, ground := .phase }, { on := 12, ground := .phase }, { on := 13, ground := .phase }, { on := 14, ground := .phase }, { on := 15, ground := .phase }, { on := 16, ground := .phase }, { on := 17, ground := .phase }, { on := 18, ground := .phase }, { on := 19, ground := .phase }, { on := 20, ground := .phase }, { on := 21, ground := .phase }, { on := 22, ground := .phase }, { on := 23, ground := .phase }], guard := none }) (v := ?v27_48) hG hsel (by kernel_rfl) (by kernel_rfl) (by kernel_rfl) (by kernel_rfl) (fun _ _ _ h => h) (Or.inl (And.intro (by kernel_rfl) ?q27_48)) hS0 ?r27_48
    case q27_48 => intro wx hx; obtain ⟨b, d, kx⟩ := hx; have y1 : wx.cell? ⟨w.heap.size, 1, none⟩ = some (.int .i64 (k : Int)) := kx.at_ 1; refine run_env [98] [?a27_48_98] (by kernel_rfl) (by kernel_rfl) (⟨?e27_48_98, trivial⟩) ?h27_48; (case e27_48_98 => ((conv => lhs; whnf); (try exact rfl))); (case h27_48 => ((try dsimp only); (try simp only [envL, lookV, if_true, if_false]); (try go_simp); (try with_reducible rfl)))
    (try simp only [Act.put, putS])
    refine rJ [28] ?_
    refine (AllReadyJ.last rfl (by kernel_rfl) (fun K hK => ?_) AllReadyJ.nil)
    (focus (rw [if_pos (by kernel_rfl)]; obtain ⟨b, d, kc⟩ := hS0; have y6 : World.cell? _ ⟨w.heap.size, 6, none⟩ = some (.int .u16 d) := kc.at_ 6; have f6 := kc.free 6; go_simp))
    (focus (try go_wp2_with fail))
    refine hK.out _ _ ?_
    clear hK K
    (try simp only [Act.put, putS])
    refine wpAnyJ_done (by kernel_rfl) ?_ _
  have bx : Below w8.heap.size w8 wb := bstep (bstep s12 ba) bb
  have ef : Em ((wb.setCell ⟨w.heap.size, 4, none⟩ (.int .u16 vs)).setCell ⟨w.heap.size, 6, none⟩ (.int .u16 vd)) w.heap.size s k ⟨6, va, vs, vb, vd⟩ false := Cells.like (Cells.set_ (Cells.set_ (Cells.below bx EM.out) 4 (.int .u16 vs)) 6 (.int .u16 vd)) (by simp [emCells])
  have lf : Below w.heap.size w ((wb.setCell ⟨w.heap.size, 4, none⟩ (.int .u16 vs)).setCell ⟨w.heap.size, 6, none⟩ (.int .u16 vd)) := Below.setCell (Below.setCell (bstep LW.out bx) (Nat.le_refl _) _) (Nat.le_refl _) _
  have EF := hide ef; have LF := hide lf
  clear ef lf bx sq hS0 s12 t12 EMS EM LW ba bb CS CD
  generalize ((wb.setCell ⟨w.heap.size, 4, none⟩ (.int .u16 vs)).setCell ⟨w.heap.size, 6, none⟩ (.int .u16 vd)) = wf at *
  go_wp2_with fail
  go_ret2
  exact ⟨_, rfl, Nat.le_refl _, by rw [← HK.out]; exact EF.out, LF.out⟩
set_option maxRecDepth 100000 in
set_option maxHeartbeats 8000000 in
theorem e_open_flow17 (w : World) (s : ByteArray) (hs : s.size ≤ 140737488351232) (h20 : 20 ≤ s.size) (hv : at_ (L s) 0 / 16 = 4) (g1 : ¬ emEnd (L s) < 20) (g2 : ¬ (s.size : Int) - 8 < emEnd (L s)) (g3 : be16 (L s) 6 % 8192 = 0) (hp : at_ (L s) 9 = 17) :
    Calls Tryz.prog 56 #[.string s] w (fun en w' => ∃ B, en = .returned (.tuple #[.pointer (some ⟨B, 0, none⟩), .int .i64 0]) ∧ w.heap.size ≤ B ∧ Em w' B s (emAt (L s)) ⟨17, be32 (L s) 12, be16 (L s) (emAt (L s)), be32 (L s) 16, be16 (L s) (emAt (L s) + 2)⟩ false ∧ Below w.heap.size w w') := by
  obtain ⟨vs, hvs⟩ : ∃ vs, vs = be16 (L s) (emAt (L s)) := ⟨_, rfl⟩
  obtain ⟨vd, hvd⟩ : ∃ vd, vd = be16 (L s) (emAt (L s) + 2) := ⟨_, rfl⟩
  rw [← hvs, ← hvd]
  have hgg : ¬ ((emAt (L s) : Nat) : Int) < 20 ∧ ¬ (s.size : Int) - 8 < ((emAt (L s) : Nat) : Int) := by
    rw [show ((emAt (L s) : Nat) : Int) = emEnd (L s) from by unfold emAt; have := at_bd (L s) 0; unfold emEnd; omega]
    exact ⟨g1, g2⟩
  obtain ⟨f1, f2⟩ := hgg
  clear g1 g2
  have cA := fun W B (hc : W.cell? ⟨B, 0, none⟩ = some (.string s)) => e_addr W B s 12 hc hs ⟨by omega, by omega⟩
  have cB := fun W B (hc : W.cell? ⟨B, 0, none⟩ = some (.string s)) => e_addr W B s 16 hc hs ⟨by omega, by omega⟩
  rw [show get32 (L s) 12 = be32 (L s) 12 from get32_nat (k := 12) (by rw [L_length]; omega)] at cA
  rw [show get32 (L s) 16 = be32 (L s) 16 from get32_nat (k := 16) (by rw [L_length]; omega)] at cB
  have k9 : 9 < s.size := by omega
  have e9 : (((s[9]'k9).toNat : Nat) : Int) = at_ (L s) 9 := by rw [getElem_L s 9 (by omega)]; rfl
  have j9 : (9 : Int) < (s.size : Int) := by omega
  generalize be32 (L s) 12 = va at *
  generalize be32 (L s) 16 = vb at *
  generalize at_ (L s) 9 = p at *
  have HP := hide hp
  clear hp
  have CA := hide cA; have CB := hide cB
  clear cA cB
  have hsz : (s.size : Int) ≤ 140737488351232 := by omega
  have q2 : ¬ (s.size : Int) < 20 := by omega
  have i5 : 0 < s.size := by omega
  have e0 : (((s[0]'i5).toNat : Nat) : Int) = at_ (L s) 0 := by rw [getElem_L s 0 (by omega)]; rfl
  have hb := at_bd (L s) 0
  have i4 : (0 : Int) < (s.size : Int) := by omega
  have hkz : ((emAt (L s) : Nat) : Int) = at_ (L s) 0 % 16 * 4 := by unfold emAt emEnd; omega
  have cw := fun W B (hc : W.cell? ⟨B, 0, none⟩ = some (.string s)) => e_two W B s 6 hc hs ⟨by omega, by omega⟩
  rw [show get16 (L s) 6 = be16 (L s) 6 from get16_nat (k := 6) (by rw [L_length]; omega)] at cw
  have hv16 := be16_bd (L s) 6
  generalize be16 (L s) 6 = v at *
  obtain ⟨k, hk⟩ : ∃ k, k = emAt (L s) := ⟨_, rfl⟩
  rw [← hk] at hkz f1 f2 
  obtain ⟨x, hx⟩ : ∃ x, x = at_ (L s) 0 := ⟨_, rfl⟩
  rw [← hx] at e0 hb hv hkz
  have m1 : (x / 16 != 4) = false := by simpa using hv
  have m2 : (x / 16 == 4) = true := by simpa using hv
  obtain ⟨y, hy⟩ : ∃ y, y = x % 16 := ⟨_, rfl⟩
  have hand : bits .and .u8 x 15 = y := by rw [u8_and15 x hb.1 (by omega), hy]
  rw [← hy] at hkz
  have hyb : 0 ≤ y ∧ y ≤ 15 := by omega
  have wy : IntKind.i64.wrap y = y := IntWalk.i64_in _ (by omega)
  have wz : IntKind.i64.wrap (y * 4) = (k : Int) := by rw [IntWalk.i64_in _ (by omega), hkz]
  obtain ⟨l8, hl8⟩ : ∃ l8 : Int, l8 = (s.size : Int) - 8 := ⟨_, rfl⟩
  have w8 : IntKind.i64.wrap ((s.size : Int) - 8) = l8 := by rw [IntWalk.i64_in _ (by omega), hl8]
  obtain ⟨r, hr⟩ : ∃ r, r = v % 8192 := ⟨_, rfl⟩
  have hand2 : bits .and .u16 v 8191 = r := by rw [em_and13 hv16.1 (by omega), hr]
  have hkb : k ≤ 60 := by omega
  have CW := hide cw
  clear cw
  have F2 := hide f2
  rw [← hl8] at f2
  rw [← hr] at g3
  have HK := hide hk
  clear hx hy hkz hk hb hv hyb hl8 hr hv16 h20
  go_enter Tryz.func56, Tryz.ntmps56
  have d0 := Cells.new w #[.string s, .int .i64 0, .int .u8 0, .int .u32 0, .int .u16 0, .int .u32 0, .int .u16 0, .bool false] 79
  have bn := fresh_below w (.cells #[.string s, .int .i64 0, .int .u8 0, .int .u32 0, .int .u16 0, .int .u32 0, .int .u16 0, .bool false] 79)
  have z0 := d0.at_ 1; have zf := d0.free 1
  have D0 := hide d0; have BN := hide bn
  clear d0 bn
  go_upto_region 5 with fail
  have ec := Cells.new w #[.string s, .int .i64 (k : Int), .int .u8 0, .int .u32 0, .int .u16 0, .int .u32 0, .int .u16 0, .bool false] 79
  have eb := fresh_below w (.cells #[.string s, .int .i64 (k : Int), .int .u8 0, .int .u32 0, .int .u16 0, .int .u32 0, .int .u16 0, .bool false] 79)
  clear z0 zf D0 BN q2 m1 m2 hand wy wz
  generalize (w.alloc (.cells #[.string s, .int .i64 (k : Int), .int .u8 0, .int .u32 0, .int .u16 0, .int .u32 0, .int .u16 0, .bool false] 79)) = w5 at *
  have EC := hide ec; have EB := hide eb
  clear eb
  obtain ⟨qec_0, qec_1, qec_2, qec_3, qec_4, qec_5, qec_6, qec_7⟩ := ec.q8
  have bb : Below w5.heap.size w5 w5 := Below.refl _ _
  clear ec
  have h4 : (r != 0) = false := by rw [g3]; rfl
  go_upto_region 7 with (go_at_call 64; (with_reducible refine (CW.out _ _ (qec_0 _ (by assumption))).mono ?_); rintro e w6 ⟨rfl, b6⟩; have b6' := bstep (by assumption : Below w5.heap.size w5 _) b6; clear b6)
  clear h4 hand2 f1 f2 w8
  have s7 : Below w5.heap.size w5 w6.drew := Below.drew b6'
  clear bb
  focus
    refine wp_region_JG [16] (fun W => Below w5.heap.size w5 W) (by kernel_rfl) (by kernel_rfl) (s7) (fun hG hsel hS0 => ?_)
    refine wpAnyJ_takeG (i := 0) (oi := { dst := some 49, op := .move (.tmp 4), type := 73, pos := "embeds.go:66", after := #[], guard := none }) (v := ?v0_49) hG hsel (by kernel_rfl) (by kernel_rfl) (by kernel_rfl) (by kernel_rfl) (fun _ _ _ h => h) (Or.inl (And.intro (by kernel_rfl) ?q0_49)) hS0 ?r0_49
    case q0_49 => intro w hx; refine run_env [4] [?a0_49_4] (by kernel_rfl) (by kernel_rfl) (⟨?e0_49_4, trivial⟩) ?h0_49; (case e0_49_4 => ((conv => lhs; whnf); (try exact rfl))); (case h0_49 => ((try dsimp only); (try simp only [envL, lookV, if_true, if_false]); (try go_simp); (try with_reducible rfl)))
    (try simp only [Act.put, putS])
    refine wpAnyJ_takeG (i := 1) (oi := { dst := some 50, op := .move (.tmp 0), type := 9, pos := "embeds.go:66", after := #[], guard := none }) (v := ?v1_50) hG hsel (by kernel_rfl) (by kernel_rfl) (by kernel_rfl) (by kernel_rfl) (fun _ _ _ h => h) (Or.inl (And.intro (by kernel_rfl) ?q1_50)) hS0 ?r1_50
    case q1_50 => intro w hx; refine run_env [0] [?a1_50_0] (by kernel_rfl) (by kernel_rfl) (⟨?e1_50_0, trivial⟩) ?h1_50; (case e1_50_0 => ((conv => lhs; whnf); (try exact rfl))); (case h1_50 => ((try dsimp only); (try simp only [envL, lookV, if_true, if_false]); (try go_simp); (try with_reducible rfl)))
    (try simp only [Act.put, putS])
    refine wpAnyJ_takeG (i := 2) (oi := { dst := some 51, op := .index 9 (.tmp 50) (.const (Go.Value.int Go.IntKind.i64 9)), type := 5, pos := "embeds.go:66", after := #[{ on := 1, ground := .data }], guard := none }) (v := ?v2_51) hG hsel (by kernel_rfl) (by kernel_rfl) (by kernel_rfl) (by kernel_rfl) (fun _ _ _ h => h) (Or.inl (And.intro (by kernel_rfl) ?q2_51)) hS0 ?r2_51
    case q2_51 => intro w hx; refine run_env [50] [?a2_51_50] (by kernel_rfl) (by kernel_rfl) (⟨?e2_51_50, trivial⟩) ?h2_51; (case e2_51_50 => ((conv => lhs; whnf); (try exact rfl))); (case h2_51 => ((try dsimp only); (try simp only [envL, lookV, if_true, if_false]); (try go_simp); (try with_reducible rfl)))
    (try simp only [Act.put, putS])
    refine wpAnyJ_takeG (i := 3) (oi := { dst := some 52, op := .move (.tmp 4), type := 73, pos := "embeds.go:66", after := #[], guard := none }) (v := ?v3_52) hG hsel (by kernel_rfl) (by kernel_rfl) (by kernel_rfl) (by kernel_rfl) (fun _ _ _ h => h) (Or.inl (And.intro (by kernel_rfl) ?q3_52)) hS0 ?r3_52
    case q3_52 => intro w hx; refine run_env [4] [?a3_52_4] (by kernel_rfl) (by kernel_rfl) (⟨?e3_52_4, trivial⟩) ?h3_52; (case e3_52_4 => ((conv => lhs; whnf); (try exact rfl))); (case h3_52 => ((try dsimp only); (try simp only [envL, lookV, if_true, if_false]); (try go_simp); (try with_reducible rfl)))
    (try simp only [Act.put, putS])
    refine wpAnyJ_takeG (i := 4) (oi := { dst := some 53, op := .nilCheck (.tmp 52), type := 0, pos := "embeds.go:66", after := #[{ on := 3, ground := .data }], guard := none }) (v := ?v4_53) hG hsel (by kernel_rfl) (by kernel_rfl) (by kernel_rfl) (by kernel_rfl) (fun _ _ _ h => h) (Or.inl (And.intro (by kernel_rfl) ?q4_53)) hS0 ?r4_53
    case q4_53 => intro w hx; refine run_env [52] [?a4_53_52] (by kernel_rfl) (by kernel_rfl) (⟨?e4_53_52, trivial⟩) ?h4_53; (case e4_53_52 => ((conv => lhs; whnf); (try exact rfl))); (case h4_53 => ((try dsimp only); (try simp only [envL, lookV, if_true, if_false]); (try go_simp); (try with_reducible rfl)))
    (try simp only [Act.put, putS])
    refine wpAnyJ_takeG (i := 5) (oi := { dst := some 54, op := .fieldAddr 79 (.tmp 53) 0, type := 0, pos := "embeds.go:66", after := #[{ on := 4, ground := .data }], guard := none }) (v := ?v5_54) hG hsel (by kernel_rfl) (by kernel_rfl) (by kernel_rfl) (by kernel_rfl) (fun _ _ _ h => h) (Or.inl (And.intro (by kernel_rfl) ?q5_54)) hS0 ?r5_54
    case q5_54 => intro w hx; refine run_env [53] [?a5_54_53] (by kernel_rfl) (by kernel_rfl) (⟨?e5_54_53, trivial⟩) ?h5_54; (case e5_54_53 => ((conv => lhs; whnf); (try exact rfl))); (case h5_54 => ((try dsimp only); (try simp only [envL, lookV, if_true, if_false]); (try go_simp); (try with_reducible rfl)))
    (try simp only [Act.put, putS])
    refine wpAnyJ_takeG (i := 8) (oi := { dst := some 57, op := .move (.tmp 4), type := 73, pos := "embeds.go:66", after := #[], guard := none }) (v := ?v8_55) hG hsel (by kernel_rfl) (by kernel_rfl) (by kernel_rfl) (by kernel_rfl) (fun _ _ _ h => h) (Or.inl (And.intro (by kernel_rfl) ?q8_55)) hS0 ?r8_55
    case q8_55 => intro w hx; refine run_env [4] [?a8_55_4] (by kernel_rfl) (by kernel_rfl) (⟨?e8_55_4, trivial⟩) ?h8_55; (case e8_55_4 => ((conv => lhs; whnf); (try exact rfl))); (case h8_55 => ((try dsimp only); (try simp only [envL, lookV, if_true, if_false]); (try go_simp); (try with_reducible rfl)))
    (try simp only [Act.put, putS])
    refine wpAnyJ_takeG (i := 9) (oi := { dst := some 58, op := .nilCheck (.tmp 57), type := 0, pos := "embeds.go:66", after := #[{ on := 8, ground := .data }], guard := none }) (v := ?v9_56) hG hsel (by kernel_rfl) (by kernel_rfl) (by kernel_rfl) (by kernel_rfl) (fun _ _ _ h => h) (Or.inl (And.intro (by kernel_rfl) ?q9_56)) hS0 ?r9_56
    case q9_56 => intro w hx; refine run_env [57] [?a9_56_57] (by kernel_rfl) (by kernel_rfl) (⟨?e9_56_57, trivial⟩) ?h9_56; (case e9_56_57 => ((conv => lhs; whnf); (try exact rfl))); (case h9_56 => ((try dsimp only); (try simp only [envL, lookV, if_true, if_false]); (try go_simp); (try with_reducible rfl)))
    (try simp only [Act.put, putS])
    refine wpAnyJ_takeG (i := 10) (oi := { dst := some 59, op := .fieldAddr 79 (.tmp 58) 0, type := 0, pos := "embeds.go:66", after := #[{ on := 9, ground := .data }], guard := none }) (v := ?v10_57) hG hsel (by kernel_rfl) (by kernel_rfl) (by kernel_rfl) (by kernel_rfl) (fun _ _ _ h => h) (Or.inl (And.intro (by kernel_rfl) ?q10_57)) hS0 ?r10_57
    case q10_57 => intro w hx; refine run_env [58] [?a10_57_58] (by kernel_rfl) (by kernel_rfl) (⟨?e10_57_58, trivial⟩) ?h10_57; (case e10_57_58 => ((conv => lhs; whnf); (try exact rfl))); (case h10_57 => ((try dsimp only); (try simp only [envL, lookV, if_true, if_false]); (try go_simp); (try with_reducible rfl)))
    (try simp only [Act.put, putS])
    refine rJ [6] ?_
    refine (AllReadyJ.cons rfl (fun K hK => ?_) AllReadyJ.nil)
    rw [if_pos (by kernel_rfl)]
    (try simp only [putG])
    (focus go_simp)
    (focus ((with_reducible refine (CA.out _ _ (qec_0 _ hS0)).mono ?_); rintro e wa ⟨rfl, ba⟩; have sq := bstep hS0 ba))
    (focus (try go_wp2_with fail))
    refine hK.out _ _ ?hs (fun hS0 => ?_)
    case hs => (first | with_reducible exact hS0 | with_reducible exact sq)
    clear hK K
    (try simp only [Act.put, putS])
    refine wpAnyJ_takeG (i := 7) (oi := { dst := some 56, op := .build 26 #[(0, .tmp 55)], type := 26, pos := "embeds.go:66", after := #[{ on := 6, ground := .data }], guard := none }) (v := ?v7_58) hG hsel (by kernel_rfl) (by kernel_rfl) (by kernel_rfl) (by kernel_rfl) (fun _ _ _ h => h) (Or.inl (And.intro (by kernel_rfl) ?q7_58)) hS0 ?r7_58
    case q7_58 => intro w hx; refine run_env [55] [?a7_58_55] (by kernel_rfl) (by kernel_rfl) (⟨?e7_58_55, trivial⟩) ?h7_58; (case e7_58_55 => ((conv => lhs; whnf); (try exact rfl))); (case h7_58 => ((try dsimp only); (try simp only [envL, lookV, if_true, if_false]); (try go_simp); (try with_reducible rfl)))
    (try simp only [Act.put, putS])
    refine rJ [11] ?_
    refine (AllReadyJ.cons rfl (fun K hK => ?_) AllReadyJ.nil)
    rw [if_pos (by kernel_rfl)]
    (try simp only [putG])
    (focus go_simp)
    (focus ((with_reducible refine (CB.out _ _ (qec_0 _ hS0)).mono ?_); rintro e wb ⟨rfl, bb2⟩; have sq := bstep hS0 bb2))
    (focus (try go_wp2_with fail))
    refine hK.out _ _ ?hs (fun hS0 => ?_)
    case hs => (first | with_reducible exact hS0 | with_reducible exact sq)
    clear hK K
    (try simp only [Act.put, putS])
    refine wpAnyJ_takeG (i := 12) (oi := { dst := some 61, op := .build 26 #[(0, .tmp 60)], type := 26, pos := "embeds.go:66", after := #[{ on := 11, ground := .data }], guard := none }) (v := ?v12_59) hG hsel (by kernel_rfl) (by kernel_rfl) (by kernel_rfl) (by kernel_rfl) (fun _ _ _ h => h) (Or.inl (And.intro (by kernel_rfl) ?q12_59)) hS0 ?r12_59
    case q12_59 => intro w hx; refine run_env [60] [?a12_59_60] (by kernel_rfl) (by kernel_rfl) (⟨?e12_59_60, trivial⟩) ?h12_59; (case e12_59_60 => ((conv => lhs; whnf); (try exact rfl))); (case h12_59 => ((try dsimp only); (try simp only [envL, lookV, if_true, if_false]); (try go_simp); (try with_reducible rfl)))
    (try simp only [Act.put, putS])
    refine wpAnyJ_takeG (i := 13) (oi := { dst := some 62, op := .build 33 #[(0, .tmp 51), (1, .tmp 56), (2, .tmp 61)], type := 33, pos := "embeds.go:66", after := #[{ on := 2, ground := .data }, { on := 7, ground := .data }, { on := 12, ground := .data }], guard := none }) (v := ?v13_60) hG hsel (by kernel_rfl) (by kernel_rfl) (by kernel_rfl) (by kernel_rfl) (fun _ _ _ h => h) (Or.inl (And.intro (by kernel_rfl) ?q13_60)) hS0 ?r13_60
    case q13_60 => intro w hx; refine run_env [51, 56, 61] [?a13_60_51, ?a13_60_56, ?a13_60_61] (by kernel_rfl) (by kernel_rfl) (⟨?e13_60_51, ?e13_60_56, ?e13_60_61, trivial⟩) ?h13_60; (case e13_60_51 => ((conv => lhs; whnf); (try exact rfl))); (case e13_60_56 => ((conv => lhs; whnf); (try exact rfl))); (case e13_60_61 => ((conv => lhs; whnf); (try exact rfl))); (case h13_60 => ((try dsimp only); (try simp only [envL, lookV, if_true, if_false]); (try go_simp); (try with_reducible rfl)))
    (try simp only [Act.put, putS])
    refine rJ [14] ?_
    refine (AllReadyJ.cons rfl (fun K hK => ?_) AllReadyJ.nil)
    rw [if_pos (by kernel_rfl)]
    (try simp only [putG])
    (focus go_simp)
    refine hK.out _ _ ?hs (fun hS0 => ?_)
    case hs => (first | with_reducible exact hS0 | with_reducible exact sq)
    clear hK K
    (try simp only [Act.put, putS])
    refine wpAnyJ_takeG (i := 15) (oi := { dst := some 64, op := .fieldAddr 79 (.tmp 63) 2, type := 0, pos := "embeds.go:66", after := #[{ on := 14, ground := .data }, { on := 0, ground := .phase }, { on := 1, ground := .phase }, { on := 2, ground := .phase }, { on := 3, ground := .phase }, { on := 4, ground := .phase }, { on := 5, ground := .phase }, { on := 6, ground := .phase }, { on := 7, ground := .phase }, { on := 8, ground := .phase }, { on := 9, ground := .phase }, { on := 10, ground := .phase }, { on := 11, ground := .phase }, { on := 12, ground := .phase }, { on := 13, ground := .phase }], guard := none }) (v := ?v15_61) hG hsel (by kernel_rfl) (by kernel_rfl) (by kernel_rfl) (by kernel_rfl) (fun _ _ _ h => h) (Or.inl (And.intro (by kernel_rfl) ?q15_61)) hS0 ?r15_61
    case q15_61 => intro w hx; refine run_env [63] [?a15_61_63] (by kernel_rfl) (by kernel_rfl) (⟨?e15_61_63, trivial⟩) ?h15_61; (case e15_61_63 => ((conv => lhs; whnf); (try exact rfl))); (case h15_61 => ((try dsimp only); (try simp only [envL, lookV, if_true, if_false]); (try go_simp); (try with_reducible rfl)))
    (try simp only [Act.put, putS])
    refine rJ [16] ?_
    refine (AllReadyJ.last rfl (by kernel_rfl) (fun K hK => ?_) AllReadyJ.nil)
    (focus (rw [if_pos (by kernel_rfl)]; have kc := Cells.below hS0 EC.out; have y2 := kc.at_ 2; have y3 := kc.at_ 3; have y4 := kc.at_ 4; have y5 := kc.at_ 5; have y6 := kc.at_ 6; have f2 := kc.free 2; have f3 := kc.free 3; have f4 := kc.free 4; have f5 := kc.free 5; have f6 := kc.free 6; clear kc; go_simp))
    (focus (try go_wp2_with fail))
    refine hK.out _ _ ?_
    clear hK K
    (try simp only [Act.put, putS])
    refine wpAnyJ_done (by kernel_rfl) ?_ _
  have em : Em (((((wb.setCell ⟨w.heap.size, 2, none⟩ (.int .u8 p)).setCell ⟨w.heap.size, 3, none⟩ (.int .u32 va)).setCell ⟨w.heap.size, 4, none⟩ (.int .u16 0)).setCell ⟨w.heap.size, 5, none⟩ (.int .u32 vb)).setCell ⟨w.heap.size, 6, none⟩ (.int .u16 0)) w.heap.size s k ⟨p, va, 0, vb, 0⟩ false := Cells.like (Cells.set_ (Cells.set_ (Cells.set_ (Cells.set_ (Cells.set_ (Cells.below hS0 EC.out) 2 (.int .u8 p)) 3 (.int .u32 va)) 4 (.int .u16 0)) 5 (.int .u32 vb)) 6 (.int .u16 0)) (by simp [emCells])
  have lw : Below w.heap.size w (((((wb.setCell ⟨w.heap.size, 2, none⟩ (.int .u8 p)).setCell ⟨w.heap.size, 3, none⟩ (.int .u32 va)).setCell ⟨w.heap.size, 4, none⟩ (.int .u16 0)).setCell ⟨w.heap.size, 5, none⟩ (.int .u32 vb)).setCell ⟨w.heap.size, 6, none⟩ (.int .u16 0)) := Below.setCell (Below.setCell (Below.setCell (Below.setCell (Below.setCell (bstep EB.out hS0) (Nat.le_refl _) _) (Nat.le_refl _) _) (Nat.le_refl _) _) (Nat.le_refl _) _) (Nat.le_refl _) _
  have EM := hide em; have LW := hide lw
  clear em lw s7 sq ba bb2 b6' hS0 qec_0 qec_1 qec_2 qec_3 qec_4 qec_5 qec_6 qec_7 EC EB CA CB CW
  generalize (((((wb.setCell ⟨w.heap.size, 2, none⟩ (.int .u8 p)).setCell ⟨w.heap.size, 3, none⟩ (.int .u32 va)).setCell ⟨w.heap.size, 4, none⟩ (.int .u16 0)).setCell ⟨w.heap.size, 5, none⟩ (.int .u32 vb)).setCell ⟨w.heap.size, 6, none⟩ (.int .u16 0)) = w8 at *
  have hk := HK.out
  obtain ⟨k2, hk2⟩ : ∃ k2 : Nat, k2 = k + 2 := ⟨_, rfl⟩
  have cS := fun W B (hc : W.cell? ⟨B, 0, none⟩ = some (.string s)) => e_two W B s (k : Int) hc hs ⟨by omega, by omega⟩
  have cD := fun W B (hc : W.cell? ⟨B, 0, none⟩ = some (.string s)) => e_two W B s (k2 : Int) hc hs ⟨by omega, by omega⟩
  rw [get16_nat (by rw [L_length]; have := F2.out; omega), hk, ← hvs, ← hk] at cS
  rw [get16_nat (by rw [L_length]; have := F2.out; omega), hk2, hk, ← hvd, ← hk, ← hk2] at cD
  have CS := hide cS; have CD := hide cD
  have hw2 : IntKind.i64.wrap ((k : Int) + 2) = (k2 : Int) := by rw [IntWalk.i64_in _ (by omega), hk2]; omega
  clear cS cD hvs hvd hs hk2 hkb
  clear hk
  have kc := EM.out
  have y2 : w8.cell? ⟨w.heap.size, 2, none⟩ = some (.int .u8 p) := kc.at_ 2
  clear kc
  have hp := HP.out
  subst hp
  go_upto_region 12 with fail
  clear y2
  have s12 : Below w8.heap.size w8 w8.drew := Below.drew (Below.refl _ _)
  have EMS := hide (fun W (h : ∃ b d, Em W w.heap.size s k ⟨17, va, b, vb, d⟩ false) => (show W.cell? ⟨w.heap.size, 0, none⟩ = some (.string s) by obtain ⟨b, d, k⟩ := h; exact k.at_ 0))
  have t12 : ∃ b d, Em w8.drew w.heap.size s k ⟨17, va, b, vb, d⟩ false := ⟨0, 0, Cells.drew EM.out⟩
  focus
    refine wp_region_JG [28] (fun W => ∃ b d, Em W w.heap.size s k ⟨17, va, b, vb, d⟩ false) (by kernel_rfl) (by kernel_rfl) (t12) (fun hG hsel hS0 => ?_)
    refine wpAnyJ_takeG (i := 0) (oi := { dst := some 73, op := .move (.tmp 4), type := 73, pos := "embeds.go:69", after := #[], guard := none }) (v := ?v0_62) hG hsel (by kernel_rfl) (by kernel_rfl) (by kernel_rfl) (by kernel_rfl) (fun _ _ _ h => h) (Or.inl (And.intro (by kernel_rfl) ?q0_62)) hS0 ?r0_62
    case q0_62 => intro wx hx; obtain ⟨b, d, kx⟩ := hx; have y1 : wx.cell? ⟨w.heap.size, 1, none⟩ = some (.int .i64 (k : Int)) := kx.at_ 1; refine run_env [4] [?a0_62_4] (by kernel_rfl) (by kernel_rfl) (⟨?e0_62_4, trivial⟩) ?h0_62; (case e0_62_4 => ((conv => lhs; whnf); (try exact rfl))); (case h0_62 => ((try dsimp only); (try simp only [envL, lookV, if_true, if_false]); (try go_simp); (try with_reducible rfl)))
    (try simp only [Act.put, putS])
    refine wpAnyJ_takeG (i := 1) (oi := { dst := some 74, op := .move (.tmp 4), type := 73, pos := "embeds.go:69", after := #[{ on := 23, ground := .gcOnly Go.Departure.lateStores }], guard := none }) (v := ?v1_63) hG hsel (by kernel_rfl) (by kernel_rfl) (by kernel_rfl) (by kernel_rfl) (fun _ _ _ h => h) (Or.inl (And.intro (by kernel_rfl) ?q1_63)) hS0 ?r1_63
    case q1_63 => intro wx hx; obtain ⟨b, d, kx⟩ := hx; have y1 : wx.cell? ⟨w.heap.size, 1, none⟩ = some (.int .i64 (k : Int)) := kx.at_ 1; refine run_env [4] [?a1_63_4] (by kernel_rfl) (by kernel_rfl) (⟨?e1_63_4, trivial⟩) ?h1_63; (case e1_63_4 => ((conv => lhs; whnf); (try exact rfl))); (case h1_63 => ((try dsimp only); (try simp only [envL, lookV, if_true, if_false]); (try go_simp); (try with_reducible rfl)))
    (try simp only [Act.put, putS])
    refine wpAnyJ_takeG (i := 2) (oi := { dst := some 75, op := .move (.tmp 4), type := 73, pos := "embeds.go:69", after := #[], guard := none }) (v := ?v2_64) hG hsel (by kernel_rfl) (by kernel_rfl) (by kernel_rfl) (by kernel_rfl) (fun _ _ _ h => h) (Or.inl (And.intro (by kernel_rfl) ?q2_64)) hS0 ?r2_64
    case q2_64 => intro wx hx; obtain ⟨b, d, kx⟩ := hx; have y1 : wx.cell? ⟨w.heap.size, 1, none⟩ = some (.int .i64 (k : Int)) := kx.at_ 1; refine run_env [4] [?a2_64_4] (by kernel_rfl) (by kernel_rfl) (⟨?e2_64_4, trivial⟩) ?h2_64; (case e2_64_4 => ((conv => lhs; whnf); (try exact rfl))); (case h2_64 => ((try dsimp only); (try simp only [envL, lookV, if_true, if_false]); (try go_simp); (try with_reducible rfl)))
    (try simp only [Act.put, putS])
    refine wpAnyJ_takeG (i := 3) (oi := { dst := some 76, op := .nilCheck (.tmp 75), type := 0, pos := "embeds.go:69", after := #[{ on := 2, ground := .data }], guard := none }) (v := ?v3_65) hG hsel (by kernel_rfl) (by kernel_rfl) (by kernel_rfl) (by kernel_rfl) (fun _ _ _ h => h) (Or.inl (And.intro (by kernel_rfl) ?q3_65)) hS0 ?r3_65
    case q3_65 => intro wx hx; obtain ⟨b, d, kx⟩ := hx; have y1 : wx.cell? ⟨w.heap.size, 1, none⟩ = some (.int .i64 (k : Int)) := kx.at_ 1; refine run_env [75] [?a3_65_75] (by kernel_rfl) (by kernel_rfl) (⟨?e3_65_75, trivial⟩) ?h3_65; (case e3_65_75 => ((conv => lhs; whnf); (try exact rfl))); (case h3_65 => ((try dsimp only); (try simp only [envL, lookV, if_true, if_false]); (try go_simp); (try with_reducible rfl)))
    (try simp only [Act.put, putS])
    refine wpAnyJ_takeG (i := 4) (oi := { dst := some 77, op := .fieldAddr 79 (.tmp 76) 0, type := 0, pos := "embeds.go:69", after := #[{ on := 3, ground := .data }], guard := none }) (v := ?v4_66) hG hsel (by kernel_rfl) (by kernel_rfl) (by kernel_rfl) (by kernel_rfl) (fun _ _ _ h => h) (Or.inl (And.intro (by kernel_rfl) ?q4_66)) hS0 ?r4_66
    case q4_66 => intro wx hx; obtain ⟨b, d, kx⟩ := hx; have y1 : wx.cell? ⟨w.heap.size, 1, none⟩ = some (.int .i64 (k : Int)) := kx.at_ 1; refine run_env [76] [?a4_66_76] (by kernel_rfl) (by kernel_rfl) (⟨?e4_66_76, trivial⟩) ?h4_66; (case e4_66_76 => ((conv => lhs; whnf); (try exact rfl))); (case h4_66 => ((try dsimp only); (try simp only [envL, lookV, if_true, if_false]); (try go_simp); (try with_reducible rfl)))
    (try simp only [Act.put, putS])
    refine wpAnyJ_takeG (i := 5) (oi := { dst := some 78, op := .move (.tmp 4), type := 73, pos := "embeds.go:69", after := #[], guard := none }) (v := ?v5_67) hG hsel (by kernel_rfl) (by kernel_rfl) (by kernel_rfl) (by kernel_rfl) (fun _ _ _ h => h) (Or.inl (And.intro (by kernel_rfl) ?q5_67)) hS0 ?r5_67
    case q5_67 => intro wx hx; obtain ⟨b, d, kx⟩ := hx; have y1 : wx.cell? ⟨w.heap.size, 1, none⟩ = some (.int .i64 (k : Int)) := kx.at_ 1; refine run_env [4] [?a5_67_4] (by kernel_rfl) (by kernel_rfl) (⟨?e5_67_4, trivial⟩) ?h5_67; (case e5_67_4 => ((conv => lhs; whnf); (try exact rfl))); (case h5_67 => ((try dsimp only); (try simp only [envL, lookV, if_true, if_false]); (try go_simp); (try with_reducible rfl)))
    (try simp only [Act.put, putS])
    refine wpAnyJ_takeG (i := 6) (oi := { dst := some 79, op := .nilCheck (.tmp 78), type := 0, pos := "embeds.go:69", after := #[{ on := 5, ground := .data }], guard := none }) (v := ?v6_68) hG hsel (by kernel_rfl) (by kernel_rfl) (by kernel_rfl) (by kernel_rfl) (fun _ _ _ h => h) (Or.inl (And.intro (by kernel_rfl) ?q6_68)) hS0 ?r6_68
    case q6_68 => intro wx hx; obtain ⟨b, d, kx⟩ := hx; have y1 : wx.cell? ⟨w.heap.size, 1, none⟩ = some (.int .i64 (k : Int)) := kx.at_ 1; refine run_env [78] [?a6_68_78] (by kernel_rfl) (by kernel_rfl) (⟨?e6_68_78, trivial⟩) ?h6_68; (case e6_68_78 => ((conv => lhs; whnf); (try exact rfl))); (case h6_68 => ((try dsimp only); (try simp only [envL, lookV, if_true, if_false]); (try go_simp); (try with_reducible rfl)))
    (try simp only [Act.put, putS])
    refine wpAnyJ_takeG (i := 7) (oi := { dst := some 80, op := .fieldAddr 79 (.tmp 79) 1, type := 0, pos := "embeds.go:69", after := #[{ on := 6, ground := .data }], guard := none }) (v := ?v7_69) hG hsel (by kernel_rfl) (by kernel_rfl) (by kernel_rfl) (by kernel_rfl) (fun _ _ _ h => h) (Or.inl (And.intro (by kernel_rfl) ?q7_69)) hS0 ?r7_69
    case q7_69 => intro wx hx; obtain ⟨b, d, kx⟩ := hx; have y1 : wx.cell? ⟨w.heap.size, 1, none⟩ = some (.int .i64 (k : Int)) := kx.at_ 1; refine run_env [79] [?a7_69_79] (by kernel_rfl) (by kernel_rfl) (⟨?e7_69_79, trivial⟩) ?h7_69; (case e7_69_79 => ((conv => lhs; whnf); (try exact rfl))); (case h7_69 => ((try dsimp only); (try simp only [envL, lookV, if_true, if_false]); (try go_simp); (try with_reducible rfl)))
    (try simp only [Act.put, putS])
    refine wpAnyJ_takeG (i := 8) (oi := { dst := some 81, op := .load 3 (.tmp 80), type := 3, pos := "embeds.go:69", after := #[{ on := 7, ground := .data }], guard := none }) (v := ?v8_70) hG hsel (by kernel_rfl) (by kernel_rfl) (by kernel_rfl) (by kernel_rfl) (fun _ _ _ h => h) (Or.inl (And.intro (by kernel_rfl) ?q8_70)) hS0 ?r8_70
    case q8_70 => intro wx hx; obtain ⟨b, d, kx⟩ := hx; have y1 : wx.cell? ⟨w.heap.size, 1, none⟩ = some (.int .i64 (k : Int)) := kx.at_ 1; refine run_env [80] [?a8_70_80] (by kernel_rfl) (by kernel_rfl) (⟨?e8_70_80, trivial⟩) ?h8_70; (case e8_70_80 => ((conv => lhs; whnf); (try exact rfl))); (case h8_70 => ((try dsimp only); (try simp only [envL, lookV, if_true, if_false]); (try go_simp); (try with_reducible rfl)))
    (try simp only [Act.put, putS])
    refine wpAnyJ_takeG (i := 10) (oi := { dst := some 83, op := .move (.tmp 4), type := 73, pos := "embeds.go:69", after := #[], guard := none }) (v := ?v10_71) hG hsel (by kernel_rfl) (by kernel_rfl) (by kernel_rfl) (by kernel_rfl) (fun _ _ _ h => h) (Or.inl (And.intro (by kernel_rfl) ?q10_71)) hS0 ?r10_71
    case q10_71 => intro wx hx; obtain ⟨b, d, kx⟩ := hx; have y1 : wx.cell? ⟨w.heap.size, 1, none⟩ = some (.int .i64 (k : Int)) := kx.at_ 1; refine run_env [4] [?a10_71_4] (by kernel_rfl) (by kernel_rfl) (⟨?e10_71_4, trivial⟩) ?h10_71; (case e10_71_4 => ((conv => lhs; whnf); (try exact rfl))); (case h10_71 => ((try dsimp only); (try simp only [envL, lookV, if_true, if_false]); (try go_simp); (try with_reducible rfl)))
    (try simp only [Act.put, putS])
    refine wpAnyJ_takeG (i := 11) (oi := { dst := some 84, op := .nilCheck (.tmp 83), type := 0, pos := "embeds.go:69", after := #[{ on := 10, ground := .data }], guard := none }) (v := ?v11_72) hG hsel (by kernel_rfl) (by kernel_rfl) (by kernel_rfl) (by kernel_rfl) (fun _ _ _ h => h) (Or.inl (And.intro (by kernel_rfl) ?q11_72)) hS0 ?r11_72
    case q11_72 => intro wx hx; obtain ⟨b, d, kx⟩ := hx; have y1 : wx.cell? ⟨w.heap.size, 1, none⟩ = some (.int .i64 (k : Int)) := kx.at_ 1; refine run_env [83] [?a11_72_83] (by kernel_rfl) (by kernel_rfl) (⟨?e11_72_83, trivial⟩) ?h11_72; (case e11_72_83 => ((conv => lhs; whnf); (try exact rfl))); (case h11_72 => ((try dsimp only); (try simp only [envL, lookV, if_true, if_false]); (try go_simp); (try with_reducible rfl)))
    (try simp only [Act.put, putS])
    refine wpAnyJ_takeG (i := 12) (oi := { dst := some 85, op := .fieldAddr 79 (.tmp 84) 0, type := 0, pos := "embeds.go:69", after := #[{ on := 11, ground := .data }], guard := none }) (v := ?v12_73) hG hsel (by kernel_rfl) (by kernel_rfl) (by kernel_rfl) (by kernel_rfl) (fun _ _ _ h => h) (Or.inl (And.intro (by kernel_rfl) ?q12_73)) hS0 ?r12_73
    case q12_73 => intro wx hx; obtain ⟨b, d, kx⟩ := hx; have y1 : wx.cell? ⟨w.heap.size, 1, none⟩ = some (.int .i64 (k : Int)) := kx.at_ 1; refine run_env [84] [?a12_73_84] (by kernel_rfl) (by kernel_rfl) (⟨?e12_73_84, trivial⟩) ?h12_73; (case e12_73_84 => ((conv => lhs; whnf); (try exact rfl))); (case h12_73 => ((try dsimp only); (try simp only [envL, lookV, if_true, if_false]); (try go_simp); (try with_reducible rfl)))
    (try simp only [Act.put, putS])
    refine wpAnyJ_takeG (i := 13) (oi := { dst := some 86, op := .move (.tmp 4), type := 73, pos := "embeds.go:69", after := #[], guard := none }) (v := ?v13_74) hG hsel (by kernel_rfl) (by kernel_rfl) (by kernel_rfl) (by kernel_rfl) (fun _ _ _ h => h) (Or.inl (And.intro (by kernel_rfl) ?q13_74)) hS0 ?r13_74
    case q13_74 => intro wx hx; obtain ⟨b, d, kx⟩ := hx; have y1 : wx.cell? ⟨w.heap.size, 1, none⟩ = some (.int .i64 (k : Int)) := kx.at_ 1; refine run_env [4] [?a13_74_4] (by kernel_rfl) (by kernel_rfl) (⟨?e13_74_4, trivial⟩) ?h13_74; (case e13_74_4 => ((conv => lhs; whnf); (try exact rfl))); (case h13_74 => ((try dsimp only); (try simp only [envL, lookV, if_true, if_false]); (try go_simp); (try with_reducible rfl)))
    (try simp only [Act.put, putS])
    refine wpAnyJ_takeG (i := 14) (oi := { dst := some 87, op := .nilCheck (.tmp 86), type := 0, pos := "embeds.go:69", after := #[{ on := 13, ground := .data }], guard := none }) (v := ?v14_75) hG hsel (by kernel_rfl) (by kernel_rfl) (by kernel_rfl) (by kernel_rfl) (fun _ _ _ h => h) (Or.inl (And.intro (by kernel_rfl) ?q14_75)) hS0 ?r14_75
    case q14_75 => intro wx hx; obtain ⟨b, d, kx⟩ := hx; have y1 : wx.cell? ⟨w.heap.size, 1, none⟩ = some (.int .i64 (k : Int)) := kx.at_ 1; refine run_env [86] [?a14_75_86] (by kernel_rfl) (by kernel_rfl) (⟨?e14_75_86, trivial⟩) ?h14_75; (case e14_75_86 => ((conv => lhs; whnf); (try exact rfl))); (case h14_75 => ((try dsimp only); (try simp only [envL, lookV, if_true, if_false]); (try go_simp); (try with_reducible rfl)))
    (try simp only [Act.put, putS])
    refine wpAnyJ_takeG (i := 15) (oi := { dst := some 88, op := .fieldAddr 79 (.tmp 87) 1, type := 0, pos := "embeds.go:69", after := #[{ on := 14, ground := .data }], guard := none }) (v := ?v15_76) hG hsel (by kernel_rfl) (by kernel_rfl) (by kernel_rfl) (by kernel_rfl) (fun _ _ _ h => h) (Or.inl (And.intro (by kernel_rfl) ?q15_76)) hS0 ?r15_76
    case q15_76 => intro wx hx; obtain ⟨b, d, kx⟩ := hx; have y1 : wx.cell? ⟨w.heap.size, 1, none⟩ = some (.int .i64 (k : Int)) := kx.at_ 1; refine run_env [87] [?a15_76_87] (by kernel_rfl) (by kernel_rfl) (⟨?e15_76_87, trivial⟩) ?h15_76; (case e15_76_87 => ((conv => lhs; whnf); (try exact rfl))); (case h15_76 => ((try dsimp only); (try simp only [envL, lookV, if_true, if_false]); (try go_simp); (try with_reducible rfl)))
    (try simp only [Act.put, putS])
    refine wpAnyJ_takeG (i := 16) (oi := { dst := some 89, op := .load 3 (.tmp 88), type := 3, pos := "embeds.go:69", after := #[{ on := 15, ground := .data }], guard := none }) (v := ?v16_77) hG hsel (by kernel_rfl) (by kernel_rfl) (by kernel_rfl) (by kernel_rfl) (fun _ _ _ h => h) (Or.inl (And.intro (by kernel_rfl) ?q16_77)) hS0 ?r16_77
    case q16_77 => intro wx hx; obtain ⟨b, d, kx⟩ := hx; have y1 : wx.cell? ⟨w.heap.size, 1, none⟩ = some (.int .i64 (k : Int)) := kx.at_ 1; refine run_env [88] [?a16_77_88] (by kernel_rfl) (by kernel_rfl) (⟨?e16_77_88, trivial⟩) ?h16_77; (case e16_77_88 => ((conv => lhs; whnf); (try exact rfl))); (case h16_77 => ((try dsimp only); (try simp only [envL, lookV, if_true, if_false]); (try go_simp); (try with_reducible rfl)))
    (try simp only [Act.put, putS])
    refine wpAnyJ_takeG (i := 17) (oi := { dst := some 90, op := .binOp Go.BinOp.add 3 (.tmp 89) (.const (Go.Value.int Go.IntKind.i64 2)) 3, type := 3, pos := "embeds.go:69", after := #[{ on := 16, ground := .data }], guard := none }) (v := ?v17_78) hG hsel (by kernel_rfl) (by kernel_rfl) (by kernel_rfl) (by kernel_rfl) (fun _ _ _ h => h) (Or.inl (And.intro (by kernel_rfl) ?q17_78)) hS0 ?r17_78
    case q17_78 => intro wx hx; obtain ⟨b, d, kx⟩ := hx; have y1 : wx.cell? ⟨w.heap.size, 1, none⟩ = some (.int .i64 (k : Int)) := kx.at_ 1; refine run_env [89] [?a17_78_89] (by kernel_rfl) (by kernel_rfl) (⟨?e17_78_89, trivial⟩) ?h17_78; (case e17_78_89 => ((conv => lhs; whnf); (try exact rfl))); (case h17_78 => ((try dsimp only); (try simp only [envL, lookV, if_true, if_false]); (try go_simp); (try with_reducible rfl)))
    (try simp only [Act.put, putS])
    refine rJ [9] ?_
    refine (AllReadyJ.cons rfl (fun K hK => ?_) AllReadyJ.nil)
    rw [if_pos (by kernel_rfl)]
    (try simp only [putG])
    (focus go_simp)
    (focus ((with_reducible refine (CS.out _ _ (EMS.out _ hS0)).mono ?_); rintro e wa ⟨rfl, ba⟩; have sq : ∃ b d, Em wa w.heap.size s k ⟨17, va, b, vb, d⟩ false := by obtain ⟨b, d, kc⟩ := hS0; exact ⟨b, d, Cells.below ba kc⟩))
    (focus (try go_wp2_with fail))
    refine hK.out _ _ ?hs (fun hS0 => ?_)
    case hs => (first | with_reducible exact hS0 | with_reducible exact sq | (obtain ⟨b, d, kc⟩ := hS0; exact ⟨vs, d, Cells.like (Cells.set_ kc 4 (.int .u16 vs)) (by simp [emCells])⟩))
    clear hK K
    (try simp only [Act.put, putS])
    refine rJ [18] ?_
    refine (AllReadyJ.cons rfl (fun K hK => ?_) AllReadyJ.nil)
    rw [if_pos (by kernel_rfl)]
    (try simp only [putG])
    (focus go_simp)
    (focus ((with_reducible refine (CD.out _ _ (EMS.out _ hS0)).mono ?_); rintro e wb ⟨rfl, bb⟩; have sq : ∃ b d, Em wb w.heap.size s k ⟨17, va, b, vb, d⟩ false := by obtain ⟨b, d, kc⟩ := hS0; exact ⟨b, d, Cells.below bb kc⟩))
    (focus (try go_wp2_with fail))
    refine hK.out _ _ ?hs (fun hS0 => ?_)
    case hs => (first | with_reducible exact hS0 | with_reducible exact sq | (obtain ⟨b, d, kc⟩ := hS0; exact ⟨vs, d, Cells.like (Cells.set_ kc 4 (.int .u16 vs)) (by simp [emCells])⟩))
    clear hK K
    (try simp only [Act.put, putS])
    refine wpAnyJ_takeG (i := 19) (oi := { dst := some 92, op := .nilCheck (.tmp 73), type := 0, pos := "embeds.go:69", after := #[{ on := 0, ground := .data }, { on := 0, ground := .phase }, { on := 1, ground := .textOnly Go.Departure.lateStores }, { on := 2, ground := .phase }, { on := 3, ground := .phase }, { on := 4, ground := .phase }, { on := 5, ground := .phase }, { on := 6, ground := .phase }, { on := 7, ground := .phase }, { on := 8, ground := .phase }, { on := 9, ground := .phase }, { on := 10, ground := .textOnly Go.Departure.lateStores }, { on := 11, ground := .textOnly Go.Departure.lateStoresUnsure }, { on := 12, ground := .textOnly Go.Departure.lateStoresUnsure }, { on := 13, ground := .textOnly Go.Departure.lateStores }, { on := 14, ground := .textOnly Go.Departure.lateStoresUnsure }, { on := 15, ground := .textOnly Go.Departure.lateStoresUnsure }, { on := 16, ground := .phase }, { on := 17, ground := .textOnly Go.Departure.lateStoresUnsure }, { on := 18, ground := .phase }], guard := none }) (v := ?v19_79) hG hsel (by kernel_rfl) (by kernel_rfl) (by kernel_rfl) (by kernel_rfl) (fun _ _ _ h => h) (Or.inl (And.intro (by kernel_rfl) ?q19_79)) hS0 ?r19_79
    case q19_79 => intro wx hx; obtain ⟨b, d, kx⟩ := hx; have y1 : wx.cell? ⟨w.heap.size, 1, none⟩ = some (.int .i64 (k : Int)) := kx.at_ 1; refine run_env [73] [?a19_79_73] (by kernel_rfl) (by kernel_rfl) (⟨?e19_79_73, trivial⟩) ?h19_79; (case e19_79_73 => ((conv => lhs; whnf); (try exact rfl))); (case h19_79 => ((try dsimp only); (try simp only [envL, lookV, if_true, if_false]); (try go_simp); (try with_reducible rfl)))
    (try simp only [Act.put, putS])
    refine wpAnyJ_takeG (i := 20) (oi := { dst := some 93, op := .fieldAddr 79 (.tmp 92) 2, type := 0, pos := "embeds.go:69", after := #[{ on := 19, ground := .data }, { on := 0, ground := .phase }, { on := 1, ground := .textOnly Go.Departure.lateStores }, { on := 2, ground := .phase }, { on := 3, ground := .phase }, { on := 4, ground := .phase }, { on := 5, ground := .phase }, { on := 6, ground := .phase }, { on := 7, ground := .phase }, { on := 8, ground := .phase }, { on := 9, ground := .phase }, { on := 10, ground := .textOnly Go.Departure.lateStores }, { on := 11, ground := .textOnly Go.Departure.lateStoresUnsure }, { on := 12, ground := .textOnly Go.Departure.lateStoresUnsure }, { on := 13, ground := .textOnly Go.Departure.lateStores }, { on := 14, ground := .textOnly Go.Departure.lateStoresUnsure }, { on := 15, ground := .textOnly Go.Departure.lateStoresUnsure }, { on := 16, ground := .phase }, { on := 17, ground := .textOnly Go.Departure.lateStoresUnsure }, { on := 18, ground := .phase }], guard := none }) (v := ?v20_80) hG hsel (by kernel_rfl) (by kernel_rfl) (by kernel_rfl) (by kernel_rfl) (fun _ _ _ h => h) (Or.inl (And.intro (by kernel_rfl) ?q20_80)) hS0 ?r20_80
    case q20_80 => intro wx hx; obtain ⟨b, d, kx⟩ := hx; have y1 : wx.cell? ⟨w.heap.size, 1, none⟩ = some (.int .i64 (k : Int)) := kx.at_ 1; refine run_env [92] [?a20_80_92] (by kernel_rfl) (by kernel_rfl) (⟨?e20_80_92, trivial⟩) ?h20_80; (case e20_80_92 => ((conv => lhs; whnf); (try exact rfl))); (case h20_80 => ((try dsimp only); (try simp only [envL, lookV, if_true, if_false]); (try go_simp); (try with_reducible rfl)))
    (try simp only [Act.put, putS])
    refine wpAnyJ_takeG (i := 21) (oi := { dst := some 94, op := .fieldAddr 33 (.tmp 93) 1, type := 0, pos := "embeds.go:69", after := #[{ on := 20, ground := .data }, { on := 0, ground := .phase }, { on := 1, ground := .textOnly Go.Departure.lateStores }, { on := 2, ground := .phase }, { on := 3, ground := .phase }, { on := 4, ground := .phase }, { on := 5, ground := .phase }, { on := 6, ground := .phase }, { on := 7, ground := .phase }, { on := 8, ground := .phase }, { on := 9, ground := .phase }, { on := 10, ground := .textOnly Go.Departure.lateStores }, { on := 11, ground := .textOnly Go.Departure.lateStoresUnsure }, { on := 12, ground := .textOnly Go.Departure.lateStoresUnsure }, { on := 13, ground := .textOnly Go.Departure.lateStores }, { on := 14, ground := .textOnly Go.Departure.lateStoresUnsure }, { on := 15, ground := .textOnly Go.Departure.lateStoresUnsure }, { on := 16, ground := .phase }, { on := 17, ground := .textOnly Go.Departure.lateStoresUnsure }, { on := 18, ground := .phase }], guard := none }) (v := ?v21_81) hG hsel (by kernel_rfl) (by kernel_rfl) (by kernel_rfl) (by kernel_rfl) (fun _ _ _ h => h) (Or.inl (And.intro (by kernel_rfl) ?q21_81)) hS0 ?r21_81
    case q21_81 => intro wx hx; obtain ⟨b, d, kx⟩ := hx; have y1 : wx.cell? ⟨w.heap.size, 1, none⟩ = some (.int .i64 (k : Int)) := kx.at_ 1; refine run_env [93] [?a21_81_93] (by kernel_rfl) (by kernel_rfl) (⟨?e21_81_93, trivial⟩) ?h21_81; (case e21_81_93 => ((conv => lhs; whnf); (try exact rfl))); (case h21_81 => ((try dsimp only); (try simp only [envL, lookV, if_true, if_false]); (try go_simp); (try with_reducible rfl)))
    (try simp only [Act.put, putS])
    refine wpAnyJ_takeG (i := 22) (oi := { dst := some 95, op := .fieldAddr 26 (.tmp 94) 1, type := 0, pos := "embeds.go:69", after := #[{ on := 21, ground := .data }, { on := 0, ground := .phase }, { on := 1, ground := .textOnly Go.Departure.lateStores }, { on := 2, ground := .phase }, { on := 3, ground := .phase }, { on := 4, ground := .phase }, { on := 5, ground := .phase }, { on := 6, ground := .phase }, { on := 7, ground := .phase }, { on := 8, ground := .phase }, { on := 9, ground := .phase }, { on := 10, ground := .textOnly Go.Departure.lateStores }, { on := 11, ground := .textOnly Go.Departure.lateStoresUnsure }, { on := 12, ground := .textOnly Go.Departure.lateStoresUnsure }, { on := 13, ground := .textOnly Go.Departure.lateStores }, { on := 14, ground := .textOnly Go.Departure.lateStoresUnsure }, { on := 15, ground := .textOnly Go.Departure.lateStoresUnsure }, { on := 16, ground := .phase }, { on := 17, ground := .textOnly Go.Departure.lateStoresUnsure }, { on := 18, ground := .phase }], guard := none }) (v := ?v22_82) hG hsel (by kernel_rfl) (by kernel_rfl) (by kernel_rfl) (by kernel_rfl) (fun _ _ _ h => h) (Or.inl (And.intro (by kernel_rfl) ?q22_82)) hS0 ?r22_82
    case q22_82 => intro wx hx; obtain ⟨b, d, kx⟩ := hx; have y1 : wx.cell? ⟨w.heap.size, 1, none⟩ = some (.int .i64 (k : Int)) := kx.at_ 1; refine run_env [94] [?a22_82_94] (by kernel_rfl) (by kernel_rfl) (⟨?e22_82_94, trivial⟩) ?h22_82; (case e22_82_94 => ((conv => lhs; whnf); (try exact rfl))); (case h22_82 => ((try dsimp only); (try simp only [envL, lookV, if_true, if_false]); (try go_simp); (try with_reducible rfl)))
    (try simp only [Act.put, putS])
    refine rJ [23] ?_
    refine (AllReadyJ.cons rfl (fun K hK => ?_) AllReadyJ.nil)
    (focus (rw [if_pos (by kernel_rfl)]; obtain ⟨b, d, kc⟩ := hS0; have y4 : World.cell? _ ⟨w.heap.size, 4, none⟩ = some (.int .u16 b) := kc.at_ 4; have f4 := kc.free 4; go_simp; have hS0 : ∃ b d, Em wb w.heap.size s k ⟨17, va, b, vb, d⟩ false := ⟨b, d, kc⟩; clear kc y4 f4))
    (focus (try go_wp2_with fail))
    refine hK.out _ _ ?hs (fun hS0 => ?_)
    case hs => (first | with_reducible exact hS0 | with_reducible exact sq | (obtain ⟨b, d, kc⟩ := hS0; exact ⟨vs, d, Cells.like (Cells.set_ kc 4 (.int .u16 vs)) (by simp [emCells])⟩))
    clear hK K
    (try simp only [Act.put, putS])
    refine rJ [24] ?_
    refine (AllReadyJ.cons rfl (fun K hK => ?_) AllReadyJ.nil)
    rw [if_pos (by kernel_rfl)]
    (try simp only [putG])
    (focus go_simp)
    refine hK.out _ _ ?hs (fun hS0 => ?_)
    case hs => (first | with_reducible exact hS0 | with_reducible exact sq | (obtain ⟨b, d, kc⟩ := hS0; exact ⟨vs, d, Cells.like (Cells.set_ kc 4 (.int .u16 vs)) (by simp [emCells])⟩))
    clear hK K
    (try simp only [Act.put, putS])
    refine rJ [25] ?_
    refine (AllReadyJ.cons rfl (fun K hK => ?_) AllReadyJ.nil)
    rw [if_pos (by kernel_rfl)]
    (try simp only [putG])
    (focus go_simp)
    refine hK.out _ _ ?hs (fun hS0 => ?_)
    case hs => (first | with_reducible exact hS0 | with_reducible exact sq | (obtain ⟨b, d, kc⟩ := hS0; exact ⟨vs, d, Cells.like (Cells.set_ kc 4 (.int .u16 vs)) (by simp [emCells])⟩))
    clear hK K
    (try simp only [Act.put, putS])
    refine rJ [26] ?_
    refine (AllReadyJ.cons rfl (fun K hK => ?_) AllReadyJ.nil)
    rw [if_pos (by kernel_rfl)]
    (try simp only [putG])
    (focus go_simp)
    refine hK.out _ _ ?hs (fun hS0 => ?_)
    case hs => (first | with_reducible exact hS0 | with_reducible exact sq | (obtain ⟨b, d, kc⟩ := hS0; exact ⟨vs, d, Cells.like (Cells.set_ kc 4 (.int .u16 vs)) (by simp [emCells])⟩))
    clear hK K
    (try simp only [Act.put, putS])
    refine wpAnyJ_takeG (i := 27) (oi := { dst := some 99, op := .fieldAddr 26 (.tmp 98) 1, type := 0, pos := "embeds.go:69", after := #[{ on := 26, ground := .data }, { on := 0, ground := .phase }, { on := 1, ground := .phase }, { on := 2, ground := .phase }, { on := 3, ground := .phase }, { on := 4, ground := .phase }, { on := 5, ground := .phase }, { on := 6, ground := .phase }, { on := 7, ground := .phase }, { on := 8, ground := .phase }, { on := 9, ground := .phase }, { on := 10, ground := .phase }, { on := 11, ground := .phase }, { on := 12, ground := .phase }, { on := 13, ground := .phase }, { on := 14, ground := .phase }, { on := 15, ground := .phase }, { on := 16, ground := .phase }, { on := 17, ground := .phase }, { on := 18, ground := .phase }, { on := 19, ground := .phase }, { on := 20, ground := .phase }, { on := 21, ground := .phase }, { on := 22, ground := .phase }, { on := 23, ground := .phase }], guard := none }) (v := ?v27_83) hG hsel (by kernel_rfl) (by kernel_rfl) (by kernel_rfl) (by kernel_rfl) (fun _ _ _ h => h) (Or.inl (And.intro (by kernel_rfl) ?q27_83)) hS0 ?r27_83
    case q27_83 => intro wx hx; obtain ⟨b, d, kx⟩ := hx; have y1 : wx.cell? ⟨w.heap.size, 1, none⟩ = some (.int .i64 (k : Int)) := kx.at_ 1; refine run_env [98] [?a27_83_98] (by kernel_rfl) (by kernel_rfl) (⟨?e27_83_98, trivial⟩) ?h27_83; (case e27_83_98 => ((conv => lhs; whnf); (try exact rfl))); (case h27_83 => ((try dsimp only); (try simp only [envL, lookV, if_true, if_false]); (try go_simp); (try with_reducible rfl)))
    (try simp only [Act.put, putS])
    refine rJ [28] ?_
    refine (AllReadyJ.last rfl (by kernel_rfl) (fun K hK => ?_) AllReadyJ.nil)
    (focus (rw [if_pos (by kernel_rfl)]; obtain ⟨b, d, kc⟩ := hS0; have y6 : World.cell? _ ⟨w.heap.size, 6, none⟩ = some (.int .u16 d) := kc.at_ 6; have f6 := kc.free 6; go_simp))
    (focus (try go_wp2_with fail))
    refine hK.out _ _ ?_
    clear hK K
    (try simp only [Act.put, putS])
    refine wpAnyJ_done (by kernel_rfl) ?_ _
  have bx : Below w8.heap.size w8 wb := bstep (bstep s12 ba) bb
  have ef : Em ((wb.setCell ⟨w.heap.size, 4, none⟩ (.int .u16 vs)).setCell ⟨w.heap.size, 6, none⟩ (.int .u16 vd)) w.heap.size s k ⟨17, va, vs, vb, vd⟩ false := Cells.like (Cells.set_ (Cells.set_ (Cells.below bx EM.out) 4 (.int .u16 vs)) 6 (.int .u16 vd)) (by simp [emCells])
  have lf : Below w.heap.size w ((wb.setCell ⟨w.heap.size, 4, none⟩ (.int .u16 vs)).setCell ⟨w.heap.size, 6, none⟩ (.int .u16 vd)) := Below.setCell (Below.setCell (bstep LW.out bx) (Nat.le_refl _) _) (Nat.le_refl _) _
  have EF := hide ef; have LF := hide lf
  clear ef lf bx sq hS0 s12 t12 EMS EM LW ba bb CS CD
  generalize ((wb.setCell ⟨w.heap.size, 4, none⟩ (.int .u16 vs)).setCell ⟨w.heap.size, 6, none⟩ (.int .u16 vd)) = wf at *
  go_wp2_with fail
  go_ret2
  exact ⟨_, rfl, Nat.le_refl _, by rw [← HK.out]; exact EF.out, LF.out⟩
set_option maxRecDepth 100000 in
set_option maxHeartbeats 8000000 in
theorem e_open_msg (w : World) (s : ByteArray) (hs : s.size ≤ 140737488351232) (h20 : 20 ≤ s.size) (hv : at_ (L s) 0 / 16 = 4) (g1 : ¬ emEnd (L s) < 20) (g2 : ¬ (s.size : Int) - 8 < emEnd (L s)) (g3 : be16 (L s) 6 % 8192 = 0) (K0 : Kinds w) (hp : at_ (L s) 9 = 1) :
    Calls Tryz.prog 56 #[.string s] w (fun en w' => ∃ W, Below w.heap.size w W ∧ w.heap.size < W.heap.size ∧ Asked W w.heap.size s (emAt (L s)) 1 (be32 (L s) 12) (be32 (L s) 16) (be16 (L s) (emAt (L s) + 4)) (qAsk (emMsg (L s))) (qIs (emMsg (L s))) en w') := by
  obtain ⟨RR, hRR⟩ : ∃ RR : Ending → World → Prop, RR = (fun en w' => ∃ W, Below w.heap.size w W ∧ w.heap.size < W.heap.size ∧ Asked W w.heap.size s (emAt (L s)) 1 (be32 (L s) 12) (be32 (L s) 16) (be16 (L s) (emAt (L s) + 4)) (qAsk (emMsg (L s))) (qIs (emMsg (L s))) en w') := ⟨_, rfl⟩
  rw [← hRR]
  have HRR := hide hRR
  clear hRR
  have hgg : ¬ ((emAt (L s) : Nat) : Int) < 20 ∧ ¬ (s.size : Int) - 8 < ((emAt (L s) : Nat) : Int) := by
    rw [show ((emAt (L s) : Nat) : Int) = emEnd (L s) from by unfold emAt; have := at_bd (L s) 0; unfold emEnd; omega]
    exact ⟨g1, g2⟩
  obtain ⟨f1, f2⟩ := hgg
  clear g1 g2
  have cA := fun W B (hc : W.cell? ⟨B, 0, none⟩ = some (.string s)) => e_addr W B s 12 hc hs ⟨by omega, by omega⟩
  have cB := fun W B (hc : W.cell? ⟨B, 0, none⟩ = some (.string s)) => e_addr W B s 16 hc hs ⟨by omega, by omega⟩
  rw [show get32 (L s) 12 = be32 (L s) 12 from get32_nat (k := 12) (by rw [L_length]; omega)] at cA
  rw [show get32 (L s) 16 = be32 (L s) 16 from get32_nat (k := 16) (by rw [L_length]; omega)] at cB
  have k9 : 9 < s.size := by omega
  have e9 : (((s[9]'k9).toNat : Nat) : Int) = at_ (L s) 9 := by rw [getElem_L s 9 (by omega)]; rfl
  have j9 : (9 : Int) < (s.size : Int) := by omega
  generalize be32 (L s) 12 = va at *
  generalize be32 (L s) 16 = vb at *
  generalize at_ (L s) 9 = p at *
  have HP := hide hp
  clear hp
  have CA := hide cA; have CB := hide cB
  clear cA cB
  have hsz : (s.size : Int) ≤ 140737488351232 := by omega
  have q2 : ¬ (s.size : Int) < 20 := by omega
  have i5 : 0 < s.size := by omega
  have e0 : (((s[0]'i5).toNat : Nat) : Int) = at_ (L s) 0 := by rw [getElem_L s 0 (by omega)]; rfl
  have hb := at_bd (L s) 0
  have i4 : (0 : Int) < (s.size : Int) := by omega
  have hkz : ((emAt (L s) : Nat) : Int) = at_ (L s) 0 % 16 * 4 := by unfold emAt emEnd; omega
  have cw := fun W B (hc : W.cell? ⟨B, 0, none⟩ = some (.string s)) => e_two W B s 6 hc hs ⟨by omega, by omega⟩
  rw [show get16 (L s) 6 = be16 (L s) 6 from get16_nat (k := 6) (by rw [L_length]; omega)] at cw
  have hv16 := be16_bd (L s) 6
  generalize be16 (L s) 6 = v at *
  obtain ⟨k, hk⟩ : ∃ k, k = emAt (L s) := ⟨_, rfl⟩
  rw [← hk] at hkz f1 f2 
  obtain ⟨x, hx⟩ : ∃ x, x = at_ (L s) 0 := ⟨_, rfl⟩
  rw [← hx] at e0 hb hv hkz
  have m1 : (x / 16 != 4) = false := by simpa using hv
  have m2 : (x / 16 == 4) = true := by simpa using hv
  obtain ⟨y, hy⟩ : ∃ y, y = x % 16 := ⟨_, rfl⟩
  have hand : bits .and .u8 x 15 = y := by rw [u8_and15 x hb.1 (by omega), hy]
  rw [← hy] at hkz
  have hyb : 0 ≤ y ∧ y ≤ 15 := by omega
  have wy : IntKind.i64.wrap y = y := IntWalk.i64_in _ (by omega)
  have wz : IntKind.i64.wrap (y * 4) = (k : Int) := by rw [IntWalk.i64_in _ (by omega), hkz]
  obtain ⟨l8, hl8⟩ : ∃ l8 : Int, l8 = (s.size : Int) - 8 := ⟨_, rfl⟩
  have w8 : IntKind.i64.wrap ((s.size : Int) - 8) = l8 := by rw [IntWalk.i64_in _ (by omega), hl8]
  obtain ⟨r, hr⟩ : ∃ r, r = v % 8192 := ⟨_, rfl⟩
  have hand2 : bits .and .u16 v 8191 = r := by rw [em_and13 hv16.1 (by omega), hr]
  have hkb : k ≤ 60 := by omega
  have CW := hide cw
  clear cw
  have F2 := hide f2
  rw [← hl8] at f2
  rw [← hr] at g3
  have HK := hide hk
  clear hx hy hkz hk hb hv hyb hl8 hr hv16 h20
  go_enter Tryz.func56, Tryz.ntmps56
  have d0 := Cells.new w #[.string s, .int .i64 0, .int .u8 0, .int .u32 0, .int .u16 0, .int .u32 0, .int .u16 0, .bool false] 79
  have bn := fresh_below w (.cells #[.string s, .int .i64 0, .int .u8 0, .int .u32 0, .int .u16 0, .int .u32 0, .int .u16 0, .bool false] 79)
  have z0 := d0.at_ 1; have zf := d0.free 1
  have D0 := hide d0; have BN := hide bn
  clear d0 bn
  go_upto_region 5 with fail
  have ec := Cells.new w #[.string s, .int .i64 (k : Int), .int .u8 0, .int .u32 0, .int .u16 0, .int .u32 0, .int .u16 0, .bool false] 79
  have eb := fresh_below w (.cells #[.string s, .int .i64 (k : Int), .int .u8 0, .int .u32 0, .int .u16 0, .int .u32 0, .int .u16 0, .bool false] 79)
  clear z0 zf D0 BN q2 m1 m2 hand wy wz
  generalize (w.alloc (.cells #[.string s, .int .i64 (k : Int), .int .u8 0, .int .u32 0, .int .u16 0, .int .u32 0, .int .u16 0, .bool false] 79)) = w5 at *
  have EC := hide ec; have EB := hide eb
  clear eb
  obtain ⟨qec_0, qec_1, qec_2, qec_3, qec_4, qec_5, qec_6, qec_7⟩ := ec.q8
  have bb : Below w5.heap.size w5 w5 := Below.refl _ _
  clear ec
  have h4 : (r != 0) = false := by rw [g3]; rfl
  go_upto_region 7 with (go_at_call 64; (with_reducible refine (CW.out _ _ (qec_0 _ (by assumption))).mono ?_); rintro e w6 ⟨rfl, b6⟩; have b6' := bstep (by assumption : Below w5.heap.size w5 _) b6; clear b6)
  clear h4 hand2 f1 f2 w8
  have s7 : Below w5.heap.size w5 w6.drew := Below.drew b6'
  clear bb
  focus
    refine wp_region_JG [16] (fun W => Below w5.heap.size w5 W) (by kernel_rfl) (by kernel_rfl) (s7) (fun hG hsel hS0 => ?_)
    refine wpAnyJ_takeG (i := 0) (oi := { dst := some 49, op := .move (.tmp 4), type := 73, pos := "embeds.go:66", after := #[], guard := none }) (v := ?v0_84) hG hsel (by kernel_rfl) (by kernel_rfl) (by kernel_rfl) (by kernel_rfl) (fun _ _ _ h => h) (Or.inl (And.intro (by kernel_rfl) ?q0_84)) hS0 ?r0_84
    case q0_84 => intro w hx; refine run_env [4] [?a0_84_4] (by kernel_rfl) (by kernel_rfl) (⟨?e0_84_4, trivial⟩) ?h0_84; (case e0_84_4 => ((conv => lhs; whnf); (try exact rfl))); (case h0_84 => ((try dsimp only); (try simp only [envL, lookV, if_true, if_false]); (try go_simp); (try with_reducible rfl)))
    (try simp only [Act.put, putS])
    refine wpAnyJ_takeG (i := 1) (oi := { dst := some 50, op := .move (.tmp 0), type := 9, pos := "embeds.go:66", after := #[], guard := none }) (v := ?v1_85) hG hsel (by kernel_rfl) (by kernel_rfl) (by kernel_rfl) (by kernel_rfl) (fun _ _ _ h => h) (Or.inl (And.intro (by kernel_rfl) ?q1_85)) hS0 ?r1_85
    case q1_85 => intro w hx; refine run_env [0] [?a1_85_0] (by kernel_rfl) (by kernel_rfl) (⟨?e1_85_0, trivial⟩) ?h1_85; (case e1_85_0 => ((conv => lhs; whnf); (try exact rfl))); (case h1_85 => ((try dsimp only); (try simp only [envL, lookV, if_true, if_false]); (try go_simp); (try with_reducible rfl)))
    (try simp only [Act.put, putS])
    refine wpAnyJ_takeG (i := 2) (oi := { dst := some 51, op := .index 9 (.tmp 50) (.const (Go.Value.int Go.IntKind.i64 9)), type := 5, pos := "embeds.go:66", after := #[{ on := 1, ground := .data }], guard := none }) (v := ?v2_86) hG hsel (by kernel_rfl) (by kernel_rfl) (by kernel_rfl) (by kernel_rfl) (fun _ _ _ h => h) (Or.inl (And.intro (by kernel_rfl) ?q2_86)) hS0 ?r2_86
    case q2_86 => intro w hx; refine run_env [50] [?a2_86_50] (by kernel_rfl) (by kernel_rfl) (⟨?e2_86_50, trivial⟩) ?h2_86; (case e2_86_50 => ((conv => lhs; whnf); (try exact rfl))); (case h2_86 => ((try dsimp only); (try simp only [envL, lookV, if_true, if_false]); (try go_simp); (try with_reducible rfl)))
    (try simp only [Act.put, putS])
    refine wpAnyJ_takeG (i := 3) (oi := { dst := some 52, op := .move (.tmp 4), type := 73, pos := "embeds.go:66", after := #[], guard := none }) (v := ?v3_87) hG hsel (by kernel_rfl) (by kernel_rfl) (by kernel_rfl) (by kernel_rfl) (fun _ _ _ h => h) (Or.inl (And.intro (by kernel_rfl) ?q3_87)) hS0 ?r3_87
    case q3_87 => intro w hx; refine run_env [4] [?a3_87_4] (by kernel_rfl) (by kernel_rfl) (⟨?e3_87_4, trivial⟩) ?h3_87; (case e3_87_4 => ((conv => lhs; whnf); (try exact rfl))); (case h3_87 => ((try dsimp only); (try simp only [envL, lookV, if_true, if_false]); (try go_simp); (try with_reducible rfl)))
    (try simp only [Act.put, putS])
    refine wpAnyJ_takeG (i := 4) (oi := { dst := some 53, op := .nilCheck (.tmp 52), type := 0, pos := "embeds.go:66", after := #[{ on := 3, ground := .data }], guard := none }) (v := ?v4_88) hG hsel (by kernel_rfl) (by kernel_rfl) (by kernel_rfl) (by kernel_rfl) (fun _ _ _ h => h) (Or.inl (And.intro (by kernel_rfl) ?q4_88)) hS0 ?r4_88
    case q4_88 => intro w hx; refine run_env [52] [?a4_88_52] (by kernel_rfl) (by kernel_rfl) (⟨?e4_88_52, trivial⟩) ?h4_88; (case e4_88_52 => ((conv => lhs; whnf); (try exact rfl))); (case h4_88 => ((try dsimp only); (try simp only [envL, lookV, if_true, if_false]); (try go_simp); (try with_reducible rfl)))
    (try simp only [Act.put, putS])
    refine wpAnyJ_takeG (i := 5) (oi := { dst := some 54, op := .fieldAddr 79 (.tmp 53) 0, type := 0, pos := "embeds.go:66", after := #[{ on := 4, ground := .data }], guard := none }) (v := ?v5_89) hG hsel (by kernel_rfl) (by kernel_rfl) (by kernel_rfl) (by kernel_rfl) (fun _ _ _ h => h) (Or.inl (And.intro (by kernel_rfl) ?q5_89)) hS0 ?r5_89
    case q5_89 => intro w hx; refine run_env [53] [?a5_89_53] (by kernel_rfl) (by kernel_rfl) (⟨?e5_89_53, trivial⟩) ?h5_89; (case e5_89_53 => ((conv => lhs; whnf); (try exact rfl))); (case h5_89 => ((try dsimp only); (try simp only [envL, lookV, if_true, if_false]); (try go_simp); (try with_reducible rfl)))
    (try simp only [Act.put, putS])
    refine wpAnyJ_takeG (i := 8) (oi := { dst := some 57, op := .move (.tmp 4), type := 73, pos := "embeds.go:66", after := #[], guard := none }) (v := ?v8_90) hG hsel (by kernel_rfl) (by kernel_rfl) (by kernel_rfl) (by kernel_rfl) (fun _ _ _ h => h) (Or.inl (And.intro (by kernel_rfl) ?q8_90)) hS0 ?r8_90
    case q8_90 => intro w hx; refine run_env [4] [?a8_90_4] (by kernel_rfl) (by kernel_rfl) (⟨?e8_90_4, trivial⟩) ?h8_90; (case e8_90_4 => ((conv => lhs; whnf); (try exact rfl))); (case h8_90 => ((try dsimp only); (try simp only [envL, lookV, if_true, if_false]); (try go_simp); (try with_reducible rfl)))
    (try simp only [Act.put, putS])
    refine wpAnyJ_takeG (i := 9) (oi := { dst := some 58, op := .nilCheck (.tmp 57), type := 0, pos := "embeds.go:66", after := #[{ on := 8, ground := .data }], guard := none }) (v := ?v9_91) hG hsel (by kernel_rfl) (by kernel_rfl) (by kernel_rfl) (by kernel_rfl) (fun _ _ _ h => h) (Or.inl (And.intro (by kernel_rfl) ?q9_91)) hS0 ?r9_91
    case q9_91 => intro w hx; refine run_env [57] [?a9_91_57] (by kernel_rfl) (by kernel_rfl) (⟨?e9_91_57, trivial⟩) ?h9_91; (case e9_91_57 => ((conv => lhs; whnf); (try exact rfl))); (case h9_91 => ((try dsimp only); (try simp only [envL, lookV, if_true, if_false]); (try go_simp); (try with_reducible rfl)))
    (try simp only [Act.put, putS])
    refine wpAnyJ_takeG (i := 10) (oi := { dst := some 59, op := .fieldAddr 79 (.tmp 58) 0, type := 0, pos := "embeds.go:66", after := #[{ on := 9, ground := .data }], guard := none }) (v := ?v10_92) hG hsel (by kernel_rfl) (by kernel_rfl) (by kernel_rfl) (by kernel_rfl) (fun _ _ _ h => h) (Or.inl (And.intro (by kernel_rfl) ?q10_92)) hS0 ?r10_92
    case q10_92 => intro w hx; refine run_env [58] [?a10_92_58] (by kernel_rfl) (by kernel_rfl) (⟨?e10_92_58, trivial⟩) ?h10_92; (case e10_92_58 => ((conv => lhs; whnf); (try exact rfl))); (case h10_92 => ((try dsimp only); (try simp only [envL, lookV, if_true, if_false]); (try go_simp); (try with_reducible rfl)))
    (try simp only [Act.put, putS])
    refine rJ [6] ?_
    refine (AllReadyJ.cons rfl (fun K hK => ?_) AllReadyJ.nil)
    rw [if_pos (by kernel_rfl)]
    (try simp only [putG])
    (focus go_simp)
    (focus ((with_reducible refine (CA.out _ _ (qec_0 _ hS0)).mono ?_); rintro e wa ⟨rfl, ba⟩; have sq := bstep hS0 ba))
    (focus (try go_wp2_with fail))
    refine hK.out _ _ ?hs (fun hS0 => ?_)
    case hs => (first | with_reducible exact hS0 | with_reducible exact sq)
    clear hK K
    (try simp only [Act.put, putS])
    refine wpAnyJ_takeG (i := 7) (oi := { dst := some 56, op := .build 26 #[(0, .tmp 55)], type := 26, pos := "embeds.go:66", after := #[{ on := 6, ground := .data }], guard := none }) (v := ?v7_93) hG hsel (by kernel_rfl) (by kernel_rfl) (by kernel_rfl) (by kernel_rfl) (fun _ _ _ h => h) (Or.inl (And.intro (by kernel_rfl) ?q7_93)) hS0 ?r7_93
    case q7_93 => intro w hx; refine run_env [55] [?a7_93_55] (by kernel_rfl) (by kernel_rfl) (⟨?e7_93_55, trivial⟩) ?h7_93; (case e7_93_55 => ((conv => lhs; whnf); (try exact rfl))); (case h7_93 => ((try dsimp only); (try simp only [envL, lookV, if_true, if_false]); (try go_simp); (try with_reducible rfl)))
    (try simp only [Act.put, putS])
    refine rJ [11] ?_
    refine (AllReadyJ.cons rfl (fun K hK => ?_) AllReadyJ.nil)
    rw [if_pos (by kernel_rfl)]
    (try simp only [putG])
    (focus go_simp)
    (focus ((with_reducible refine (CB.out _ _ (qec_0 _ hS0)).mono ?_); rintro e wb ⟨rfl, bb2⟩; have sq := bstep hS0 bb2))
    (focus (try go_wp2_with fail))
    refine hK.out _ _ ?hs (fun hS0 => ?_)
    case hs => (first | with_reducible exact hS0 | with_reducible exact sq)
    clear hK K
    (try simp only [Act.put, putS])
    refine wpAnyJ_takeG (i := 12) (oi := { dst := some 61, op := .build 26 #[(0, .tmp 60)], type := 26, pos := "embeds.go:66", after := #[{ on := 11, ground := .data }], guard := none }) (v := ?v12_94) hG hsel (by kernel_rfl) (by kernel_rfl) (by kernel_rfl) (by kernel_rfl) (fun _ _ _ h => h) (Or.inl (And.intro (by kernel_rfl) ?q12_94)) hS0 ?r12_94
    case q12_94 => intro w hx; refine run_env [60] [?a12_94_60] (by kernel_rfl) (by kernel_rfl) (⟨?e12_94_60, trivial⟩) ?h12_94; (case e12_94_60 => ((conv => lhs; whnf); (try exact rfl))); (case h12_94 => ((try dsimp only); (try simp only [envL, lookV, if_true, if_false]); (try go_simp); (try with_reducible rfl)))
    (try simp only [Act.put, putS])
    refine wpAnyJ_takeG (i := 13) (oi := { dst := some 62, op := .build 33 #[(0, .tmp 51), (1, .tmp 56), (2, .tmp 61)], type := 33, pos := "embeds.go:66", after := #[{ on := 2, ground := .data }, { on := 7, ground := .data }, { on := 12, ground := .data }], guard := none }) (v := ?v13_95) hG hsel (by kernel_rfl) (by kernel_rfl) (by kernel_rfl) (by kernel_rfl) (fun _ _ _ h => h) (Or.inl (And.intro (by kernel_rfl) ?q13_95)) hS0 ?r13_95
    case q13_95 => intro w hx; refine run_env [51, 56, 61] [?a13_95_51, ?a13_95_56, ?a13_95_61] (by kernel_rfl) (by kernel_rfl) (⟨?e13_95_51, ?e13_95_56, ?e13_95_61, trivial⟩) ?h13_95; (case e13_95_51 => ((conv => lhs; whnf); (try exact rfl))); (case e13_95_56 => ((conv => lhs; whnf); (try exact rfl))); (case e13_95_61 => ((conv => lhs; whnf); (try exact rfl))); (case h13_95 => ((try dsimp only); (try simp only [envL, lookV, if_true, if_false]); (try go_simp); (try with_reducible rfl)))
    (try simp only [Act.put, putS])
    refine rJ [14] ?_
    refine (AllReadyJ.cons rfl (fun K hK => ?_) AllReadyJ.nil)
    rw [if_pos (by kernel_rfl)]
    (try simp only [putG])
    (focus go_simp)
    refine hK.out _ _ ?hs (fun hS0 => ?_)
    case hs => (first | with_reducible exact hS0 | with_reducible exact sq)
    clear hK K
    (try simp only [Act.put, putS])
    refine wpAnyJ_takeG (i := 15) (oi := { dst := some 64, op := .fieldAddr 79 (.tmp 63) 2, type := 0, pos := "embeds.go:66", after := #[{ on := 14, ground := .data }, { on := 0, ground := .phase }, { on := 1, ground := .phase }, { on := 2, ground := .phase }, { on := 3, ground := .phase }, { on := 4, ground := .phase }, { on := 5, ground := .phase }, { on := 6, ground := .phase }, { on := 7, ground := .phase }, { on := 8, ground := .phase }, { on := 9, ground := .phase }, { on := 10, ground := .phase }, { on := 11, ground := .phase }, { on := 12, ground := .phase }, { on := 13, ground := .phase }], guard := none }) (v := ?v15_96) hG hsel (by kernel_rfl) (by kernel_rfl) (by kernel_rfl) (by kernel_rfl) (fun _ _ _ h => h) (Or.inl (And.intro (by kernel_rfl) ?q15_96)) hS0 ?r15_96
    case q15_96 => intro w hx; refine run_env [63] [?a15_96_63] (by kernel_rfl) (by kernel_rfl) (⟨?e15_96_63, trivial⟩) ?h15_96; (case e15_96_63 => ((conv => lhs; whnf); (try exact rfl))); (case h15_96 => ((try dsimp only); (try simp only [envL, lookV, if_true, if_false]); (try go_simp); (try with_reducible rfl)))
    (try simp only [Act.put, putS])
    refine rJ [16] ?_
    refine (AllReadyJ.last rfl (by kernel_rfl) (fun K hK => ?_) AllReadyJ.nil)
    (focus (rw [if_pos (by kernel_rfl)]; have kc := Cells.below hS0 EC.out; have y2 := kc.at_ 2; have y3 := kc.at_ 3; have y4 := kc.at_ 4; have y5 := kc.at_ 5; have y6 := kc.at_ 6; have f2 := kc.free 2; have f3 := kc.free 3; have f4 := kc.free 4; have f5 := kc.free 5; have f6 := kc.free 6; clear kc; go_simp))
    (focus (try go_wp2_with fail))
    refine hK.out _ _ ?_
    clear hK K
    (try simp only [Act.put, putS])
    refine wpAnyJ_done (by kernel_rfl) ?_ _
  have em : Em (((((wb.setCell ⟨w.heap.size, 2, none⟩ (.int .u8 p)).setCell ⟨w.heap.size, 3, none⟩ (.int .u32 va)).setCell ⟨w.heap.size, 4, none⟩ (.int .u16 0)).setCell ⟨w.heap.size, 5, none⟩ (.int .u32 vb)).setCell ⟨w.heap.size, 6, none⟩ (.int .u16 0)) w.heap.size s k ⟨p, va, 0, vb, 0⟩ false := Cells.like (Cells.set_ (Cells.set_ (Cells.set_ (Cells.set_ (Cells.set_ (Cells.below hS0 EC.out) 2 (.int .u8 p)) 3 (.int .u32 va)) 4 (.int .u16 0)) 5 (.int .u32 vb)) 6 (.int .u16 0)) (by simp [emCells])
  have lw : Below w.heap.size w (((((wb.setCell ⟨w.heap.size, 2, none⟩ (.int .u8 p)).setCell ⟨w.heap.size, 3, none⟩ (.int .u32 va)).setCell ⟨w.heap.size, 4, none⟩ (.int .u16 0)).setCell ⟨w.heap.size, 5, none⟩ (.int .u32 vb)).setCell ⟨w.heap.size, 6, none⟩ (.int .u16 0)) := Below.setCell (Below.setCell (Below.setCell (Below.setCell (Below.setCell (bstep EB.out hS0) (Nat.le_refl _) _) (Nat.le_refl _) _) (Nat.le_refl _) _) (Nat.le_refl _) _) (Nat.le_refl _) _
  have EM := hide em; have LW := hide lw
  clear em lw s7 sq ba bb2 b6' hS0 qec_0 qec_1 qec_2 qec_3 qec_4 qec_5 qec_6 qec_7 EC EB CA CB CW
  generalize (((((wb.setCell ⟨w.heap.size, 2, none⟩ (.int .u8 p)).setCell ⟨w.heap.size, 3, none⟩ (.int .u32 va)).setCell ⟨w.heap.size, 4, none⟩ (.int .u16 0)).setCell ⟨w.heap.size, 5, none⟩ (.int .u32 vb)).setCell ⟨w.heap.size, 6, none⟩ (.int .u16 0)) = w8 at *
  have kc := EM.out
  have y2 : w8.cell? ⟨w.heap.size, 2, none⟩ = some (.int .u8 p) := kc.at_ 2
  clear kc
  have hp := HP.out
  subst hp
  have cq := e_query w8 w.heap.size s k 1 va vb EM.out (K0.below LW.out) hs (by have := F2.out; omega)
  have hB : w.heap.size < w8.heap.size := Cells.lt EM.out
  have hm0 : (⟨at_ (L s) k, at_ (L s) (k + 1), 0, { data := #[] }, { data := #[] }⟩ : Msg) = emMsg (L s) := by unfold emMsg; rw [← HK.out]
  rw [hm0] at cq
  have fin' : ∀ en wz, Asked w8 w.heap.size s k 1 va vb (be16 (L s) (k + 4)) (qAsk (emMsg (L s))) (qIs (emMsg (L s))) en wz → RR en wz := fun en wz hz => by rw [HRR.out]; exact ⟨w8, LW.out, hB, by rw [← HK.out]; exact hz⟩
  clear hm0 HRR
  generalize qAsk (emMsg (L s)) = ask at *
  generalize qIs (emMsg (L s)) = is at *
  generalize be16 (L s) (k + 4) = id at *
  unfold Asked at cq fin'
  cases is with
  | false =>
    simp only [Bool.false_eq_true, if_false] at cq fin'
    have CQ := hide cq; have FIN := hide fin'
    clear cq fin' hs hkb
    go_wp2_with (go_at_call 105; (refine (CQ.out).mono ?_); rintro e wz ⟨rfl, hz⟩)
    exact FIN.out _ _ ⟨rfl, hz⟩
  | true =>
    simp only [if_true] at cq fin'
    have CQ := hide cq; have FIN := hide fin'
    clear cq fin' hs hkb
    go_wp2_with (go_at_call 105; (refine (CQ.out).mono ?_); rintro e wz ⟨rfl, hz1, hz2⟩)
    exact FIN.out _ _ ⟨rfl, hz1, hz2⟩
theorem e_open (w : World) (s : ByteArray) (K0 : Kinds w) (hs : s.size ≤ 140737488351232) : Calls Tryz.prog 56 #[.string s] w (Opened w s) := by
  have hb := at_bd (L s) 0
  have hL : ((L s).length : Int) = (s.size : Int) := by rw [L_length]
  have hno : ∀ r, emWhy (L s) = r → r ≠ 0 → Calls Tryz.prog 56 #[.string s] w (Ret (.tuple #[.pointer none, .int .i64 r]) w) → Calls Tryz.prog 56 #[.string s] w (Opened w s) := fun r h1 h2 h3 => h3.mono (by
    rintro e w' ⟨rfl, hb⟩
    unfold Opened
    rw [h1, if_neg h2]
    exact ⟨rfl, hb⟩)
  have hyes : ∀ t q, emWhy (L s) = 0 → emTup (L s) = t → emAsk (L s) = q → Calls Tryz.prog 56 #[.string s] w (fun en w' => ∃ B, en = .returned (.tuple #[.pointer (some ⟨B, 0, none⟩), .int .i64 0]) ∧ w.heap.size ≤ B ∧ Em w' B s (emAt (L s)) t q ∧ Below w.heap.size w w') → Calls Tryz.prog 56 #[.string s] w (Opened w s) := fun t q h1 h2 h3 h4 => h4.mono (by
    intro e w' h
    unfold Opened
    rw [if_pos h1, h2, h3]
    exact h)
  by_cases c1 : ((L s).length : Int) < 20 ∨ at_ (L s) 0 / 16 ≠ 4
  · exact hno 15 (by unfold emWhy; rw [if_pos c1]) (by decide) (e_open_early w s hs (by omega))
  by_cases c2 : emEnd (L s) < 20 ∨ ((L s).length : Int) - 8 < emEnd (L s) ∨ be16 (L s) 6 % 8192 ≠ 0
  · exact hno 15 (by unfold emWhy; rw [if_neg c1, if_pos c2]) (by decide) (e_open_mid w s hs (by omega) (by omega) (by omega))
  have g20 : 20 ≤ s.size := by omega
  have gv : at_ (L s) 0 / 16 = 4 := by omega
  have g1 : ¬ emEnd (L s) < 20 := by omega
  have g2 : ¬ (s.size : Int) - 8 < emEnd (L s) := by omega
  have g3 : be16 (L s) 6 % 8192 = 0 := by omega
  by_cases p6 : at_ (L s) 9 = 6
  · exact hyes _ false (by unfold emWhy; rw [if_neg c1, if_neg c2, if_pos (Or.inl p6)]) (by unfold emTup; rw [if_pos (Or.inl p6), p6]) (by unfold emAsk; rw [p6]; rfl) (e_open_flow6 w s hs g20 gv g1 g2 g3 p6)
  by_cases p17 : at_ (L s) 9 = 17
  · exact hyes _ false (by unfold emWhy; rw [if_neg c1, if_neg c2, if_pos (Or.inr p17)]) (by unfold emTup; rw [if_pos (Or.inr p17), p17]) (by unfold emAsk; rw [p17]; rfl) (e_open_flow17 w s hs g20 gv g1 g2 g3 p17)
  by_cases p1 : at_ (L s) 9 = 1
  · have hw : emWhy (L s) = if qIs (emMsg (L s)) = true then 0 else 15 := by unfold emWhy; rw [if_neg c1, if_neg c2, if_neg (by omega), if_neg (by omega)]
    refine (e_open_msg w s hs g20 gv g1 g2 g3 K0 p1).mono ?_
    rintro e w' ⟨W, hb, hlt, hq⟩
    unfold Asked at hq
    unfold Opened
    rw [hw]
    cases his : qIs (emMsg (L s)) with
    | false =>
      rw [his] at hq
      simp only [Bool.false_eq_true, if_false] at hq ⊢
      rw [if_neg (by decide)]
      exact ⟨hq.1, bstep hb hq.2⟩
    | true =>
      rw [his] at hq
      simp only [if_true] at hq ⊢
      obtain ⟨h1, h2, h3⟩ := hq
      refine ⟨_, h1, Nat.le_refl _, ?_, hb.trans (h3.below (fun j e => by omega) hb.size)⟩
      have e1 : emAsk (L s) = qAsk (emMsg (L s)) := by unfold emAsk; rw [p1]; rfl
      have e2 : emTup (L s) = if qAsk (emMsg (L s)) = true then ⟨1, be32 (L s) 12, be16 (L s) (emAt (L s) + 4), be32 (L s) 16, 0⟩ else ⟨1, be32 (L s) 12, 0, be32 (L s) 16, be16 (L s) (emAt (L s) + 4)⟩ := by unfold emTup; rw [if_neg (by omega), p1]
      rw [e1, e2]
      exact h2
  · exact hno 6 (by unfold emWhy; rw [if_neg c1, if_neg c2, if_neg (by omega), if_pos p1]) (by decide) (e_open_other w s hs g20 gv g1 g2 g3 ⟨p6, p17, p1⟩)
end Go.Proofs.YtjeaknipmdfkdaaGreatDoor
end

section
/- rewrite: a segment, or a datagram, changed, over this program. -/
set_option linter.unusedVariables false
set_option linter.unusedSimpArgs false
namespace Go.Proofs.YtjeaknipmdfkdaaGreatDoor
open Go.RowKit
attribute [local go_sem] Oper.semAt_some

def flowSum (l ips : List UInt8) (a b c d : Int) (k : Nat) : Int := updates (be16 l k) (ips ++ l.take 4) (ipsOf a c ++ putW [b, d])
/-- the sum that is laid: of a datagram that has none, none; none of 0 -/
def flowFix (k : Nat) (was n : Int) : Int := if k = 6 then (if was = 0 then 0 else if n = 0 then 65535 else n) else n
/-- a segment, or a datagram, changed -/
def flowNew (l ips : List UInt8) (a b c d : Int) (k : Nat) : List UInt8 := lay (putW [b, d] ++ l.drop 4) k (flowFix k (be16 l k) (flowSum l ips a b c d k))
theorem flowSum_bd (l ips : List UInt8) (a b c d : Int) (k : Nat) : 0 ≤ flowSum l ips a b c d k ∧ flowSum l ips a b c d k ≤ 65535 := updates_bd (be16_bd _ _)
theorem flowFix_bd {k : Nat} {was n : Int} (h : 0 ≤ n ∧ n ≤ 65535) : 0 ≤ flowFix k was n ∧ flowFix k was n ≤ 65535 := by
  unfold flowFix; split
  · split
    · omega
    · split <;> omega
  · exact h

set_option maxRecDepth 100000 in
set_option maxHeartbeats 4000000 in
theorem rw_flow_t (a b c d : Int) (l ips : ByteArray) (v n0 nF : Int) (pr p1 p2 ip t1 pn out : ByteArray) (w : World) (hl : l.size ≤ 140737488351232) (h20 : 18 ≤ l.size) (hpr : pr.size = 4)
    (f1 : ∀ W (A : Option Addr), Row W W.heap.size A 2 (ints16 [b, d]) → Calls Tryz.prog 34 #[.slice A 2 2] W (Ret (.string pr) W))
    (f2 : ∀ W, Calls Tryz.prog 85 #[.string l, .int .i64 16] W (Ret (.int .u16 v) W))
    (f3 : ∀ W (A : Option Addr), Row W W.heap.size A 2 [.string ips, .string (l.extract 0 4)] → Calls Tryz.prog 84 #[.slice A 2 2] W (Ret (.string p1) W))
    (f4 : ∀ W, Calls Tryz.prog 86 #[.agg #[.int .u32 a, .int .u16 b, .int .u32 c, .int .u16 d]] W (Ret (.string ip) W))
    (f5 : ∀ W (A : Option Addr), Row W W.heap.size A 2 [.string ip, .string pr] → Calls Tryz.prog 84 #[.slice A 2 2] W (Ret (.string p2) W))
    (f6 : ∀ W, Calls Tryz.prog 32 #[.int .u16 v, .string p1, .string p2] W (Ret (.int .u16 n0) W))
    (f7 : ∀ W, Calls Tryz.prog 120 #[.string l, .int .i64 0, .string pr] W (Ret (.string t1) W))
    (f8 : ∀ W, Calls Tryz.prog 87 #[.int .u16 nF] W (Ret (.string pn) W))
    (f9 : ∀ W, Calls Tryz.prog 120 #[.string t1, .int .i64 16, .string pn] W (Ret (.string out) W))
    (hF : nF = n0) :
    Calls Tryz.prog 88 #[.agg #[.int .u32 a, .int .u16 b, .int .u32 c, .int .u16 d], .string l, .string ips, .int .i64 16] w (Ret (.string out) w) := by
  subst hF
  have i1 : (4 : Int) ≤ (l.size : Int) := by omega
  have F1 := hide f1; have F2 := hide f2; have F3 := hide f3; have F4 := hide f4; have F5 := hide f5; have F6 := hide f6; have F7 := hide f7; have F8 := hide f8; have F9 := hide f9
  clear f1 f2 f3 f4 f5 f6 f7 f8 f9
  go_enter Tryz.func88, Tryz.ntmps88
  have d0 := Cells.new w #[.int .u32 a, .int .u16 b, .int .u32 c, .int .u16 d] 28
  go_wp2_with fail
  (with_reducible refine Calls.mono (F1.out _ _ (Row.freshAt _ _ _ _ _ _ (by simp) rfl rfl)) ?_)
  rintro e w1 ⟨rfl, b1⟩
  have d1 := Cells.up d0 (fresh_below _ _) b1
  replace b1 : Below w.heap.size w w1 := bstep (bstep (fresh_below _ _) (fresh_below _ _)) b1
  clear d0
  go_wp2_with fail
  (with_reducible refine (F2.out _).mono ?_)
  rintro e w2 ⟨rfl, b2⟩
  have d2 := Cells.below b2 d1
  replace b2 : Below w.heap.size w w2 := bstep b1 b2
  clear d1 b1
  go_wp2_with fail
  have SK := hide (fun (zX zY : World) (zh : (Below w.heap.size w zX ∧ zX.cell? ⟨w.heap.size, 0, none⟩ = some (.int .u32 a) ∧ zX.cell? ⟨w.heap.size, 1, none⟩ = some (.int .u16 b) ∧ zX.cell? ⟨w.heap.size, 2, none⟩ = some (.int .u32 c) ∧ zX.cell? ⟨w.heap.size, 3, none⟩ = some (.int .u16 d) ∧ True)) (zb : Below zX.heap.size zX zY) => (show (Below w.heap.size w zY ∧ zY.cell? ⟨w.heap.size, 0, none⟩ = some (.int .u32 a) ∧ zY.cell? ⟨w.heap.size, 1, none⟩ = some (.int .u16 b) ∧ zY.cell? ⟨w.heap.size, 2, none⟩ = some (.int .u32 c) ∧ zY.cell? ⟨w.heap.size, 3, none⟩ = some (.int .u16 d) ∧ True) from ⟨bstep zh.1 zb, cellAt zb zh.2.1, cellAt zb zh.2.2.1, cellAt zb zh.2.2.2.1, cellAt zb zh.2.2.2.2.1, trivial⟩))
  have FS := hide (fun (zX : World) (zh : (Below w.heap.size w zX ∧ zX.cell? ⟨w.heap.size, 0, none⟩ = some (.int .u32 a) ∧ zX.cell? ⟨w.heap.size, 1, none⟩ = some (.int .u16 b) ∧ zX.cell? ⟨w.heap.size, 2, none⟩ = some (.int .u32 c) ∧ zX.cell? ⟨w.heap.size, 3, none⟩ = some (.int .u16 d) ∧ True)) => zh.1)
  have GS := hide (fun (zX : World) (zh : (Below w.heap.size w zX ∧ zX.cell? ⟨w.heap.size, 0, none⟩ = some (.int .u32 a) ∧ zX.cell? ⟨w.heap.size, 1, none⟩ = some (.int .u16 b) ∧ zX.cell? ⟨w.heap.size, 2, none⟩ = some (.int .u32 c) ∧ zX.cell? ⟨w.heap.size, 3, none⟩ = some (.int .u16 d) ∧ True)) => zh)
  have hS0 : (Below w.heap.size w w2 ∧ w2.cell? ⟨w.heap.size, 0, none⟩ = some (.int .u32 a) ∧ w2.cell? ⟨w.heap.size, 1, none⟩ = some (.int .u16 b) ∧ w2.cell? ⟨w.heap.size, 2, none⟩ = some (.int .u32 c) ∧ w2.cell? ⟨w.heap.size, 3, none⟩ = some (.int .u16 d) ∧ True) := ⟨(by (repeat' (first | with_reducible exact b2 | with_reducible exact Below.refl _ _ | with_reducible refine Below.setCell ?_ (by first | exact Nat.le_refl _ | (dsimp only; omega)) _ | with_reducible refine bstep ?_ (fresh_below _ _) | with_reducible refine Below.drew ?_))), d2.at_ 0, d2.at_ 1, d2.at_ 2, d2.at_ 3, trivial⟩
  go_region_held_law (fun w' => (Below w.heap.size w w' ∧ w'.cell? ⟨w.heap.size, 0, none⟩ = some (.int .u32 a) ∧ w'.cell? ⟨w.heap.size, 1, none⟩ = some (.int .u16 b) ∧ w'.cell? ⟨w.heap.size, 2, none⟩ = some (.int .u32 c) ∧ w'.cell? ⟨w.heap.size, 3, none⟩ = some (.int .u16 d) ∧ True)) (first | assumption | exact SK.out _ _ hS0 (Below.refl _ _).drew | exact SK.out _ _ hS0 (fresh_below _ _).drew | exact SK.out _ _ (by assumption) (fresh_below _ _) | (refine SK.out _ _ ?_ (by assumption); assumption))
    (first | (go_at_call 84; (with_reducible refine Calls.mono (F3.out _ _ ?_) ?_); (focus ((repeat' (first | with_reducible refine Row.afterdraw ?_ | with_reducible exact Row.freshAt _ _ _ _ _ _ (by first | (simp; done) | fail) rfl rfl | (with_reducible refine Row.rise ?_ (fresh_below _ _)) | (with_reducible refine Row.rise ?_ (by with_reducible assumption)))); (first | done | fail))); rintro e wq ⟨rfl, bq⟩) | (go_at_call 84; (with_reducible refine Calls.mono (F5.out _ _ ?_) ?_); (focus ((repeat' (first | with_reducible refine Row.afterdraw ?_ | with_reducible exact Row.freshAt _ _ _ _ _ _ (by first | (simp; done) | fail) rfl rfl | (with_reducible refine Row.rise ?_ (fresh_below _ _)) | (with_reducible refine Row.rise ?_ (by with_reducible assumption)))); (first | done | fail))); rintro e wq ⟨rfl, bq⟩) | (go_at_call 86; (with_reducible refine (F4.out _).mono ?_); rintro e wq ⟨rfl, bq⟩) | (go_at_call 32; (with_reducible refine (F6.out _).mono ?_); rintro e wq ⟨rfl, bq⟩))
  all_goals
    have gs := GS.out _ (by assumption)
    have gb : Below w.heap.size w wq := gs.1
    clear SK FS GS hS0 gs
    obtain ⟨w3, rfl⟩ : ∃ W : World, W = wq := ⟨_, rfl⟩
    have b3 := gb
    go_wp2_with fail
    (with_reducible refine (F7.out _).mono ?_)
    rintro e w4 ⟨rfl, b4⟩
    replace b4 : Below w.heap.size w w4 := bstep b3 b4
    go_wp2_with fail
    (with_reducible refine (F8.out _).mono ?_)
    rintro e w5 ⟨rfl, b5⟩
    replace b5 : Below w.heap.size w w5 := bstep b4 b5
    go_wp2_with fail
    (with_reducible refine (F9.out _).mono ?_)
    rintro e w6 ⟨rfl, b6⟩
    replace b6 : Below w.heap.size w w6 := bstep b5 b6
    go_wp2_with fail
    go_ret
    exact ⟨rfl, b6⟩

set_option maxRecDepth 100000 in
set_option maxHeartbeats 4000000 in
theorem rw_flow_u0 (a b c d : Int) (l ips : ByteArray) (v n0 nF : Int) (pr p1 p2 ip t1 pn out : ByteArray) (w : World) (hl : l.size ≤ 140737488351232) (h20 : 8 ≤ l.size) (hpr : pr.size = 4)
    (f1 : ∀ W (A : Option Addr), Row W W.heap.size A 2 (ints16 [b, d]) → Calls Tryz.prog 34 #[.slice A 2 2] W (Ret (.string pr) W))
    (f2 : ∀ W, Calls Tryz.prog 85 #[.string l, .int .i64 6] W (Ret (.int .u16 v) W))
    (f3 : ∀ W (A : Option Addr), Row W W.heap.size A 2 [.string ips, .string (l.extract 0 4)] → Calls Tryz.prog 84 #[.slice A 2 2] W (Ret (.string p1) W))
    (f4 : ∀ W, Calls Tryz.prog 86 #[.agg #[.int .u32 a, .int .u16 b, .int .u32 c, .int .u16 d]] W (Ret (.string ip) W))
    (f5 : ∀ W (A : Option Addr), Row W W.heap.size A 2 [.string ip, .string pr] → Calls Tryz.prog 84 #[.slice A 2 2] W (Ret (.string p2) W))
    (f6 : ∀ W, Calls Tryz.prog 32 #[.int .u16 v, .string p1, .string p2] W (Ret (.int .u16 n0) W))
    (f7 : ∀ W, Calls Tryz.prog 120 #[.string l, .int .i64 0, .string pr] W (Ret (.string t1) W))
    (f8 : ∀ W, Calls Tryz.prog 87 #[.int .u16 nF] W (Ret (.string pn) W))
    (f9 : ∀ W, Calls Tryz.prog 120 #[.string t1, .int .i64 6, .string pn] W (Ret (.string out) W))
    (hv : v = 0) (hF : nF = 0) :
    Calls Tryz.prog 88 #[.agg #[.int .u32 a, .int .u16 b, .int .u32 c, .int .u16 d], .string l, .string ips, .int .i64 6] w (Ret (.string out) w) := by
  subst hF; subst hv
  have i1 : (4 : Int) ≤ (l.size : Int) := by omega
  have F1 := hide f1; have F2 := hide f2; have F3 := hide f3; have F4 := hide f4; have F5 := hide f5; have F6 := hide f6; have F7 := hide f7; have F8 := hide f8; have F9 := hide f9
  clear f1 f2 f3 f4 f5 f6 f7 f8 f9
  go_enter Tryz.func88, Tryz.ntmps88
  have d0 := Cells.new w #[.int .u32 a, .int .u16 b, .int .u32 c, .int .u16 d] 28
  go_wp2_with fail
  (with_reducible refine Calls.mono (F1.out _ _ (Row.freshAt _ _ _ _ _ _ (by simp) rfl rfl)) ?_)
  rintro e w1 ⟨rfl, b1⟩
  have d1 := Cells.up d0 (fresh_below _ _) b1
  replace b1 : Below w.heap.size w w1 := bstep (bstep (fresh_below _ _) (fresh_below _ _)) b1
  clear d0
  go_wp2_with fail
  (with_reducible refine (F2.out _).mono ?_)
  rintro e w2 ⟨rfl, b2⟩
  have d2 := Cells.below b2 d1
  replace b2 : Below w.heap.size w w2 := bstep b1 b2
  clear d1 b1
  go_wp2_with fail
  have SK := hide (fun (zX zY : World) (zh : (Below w.heap.size w zX ∧ zX.cell? ⟨w.heap.size, 0, none⟩ = some (.int .u32 a) ∧ zX.cell? ⟨w.heap.size, 1, none⟩ = some (.int .u16 b) ∧ zX.cell? ⟨w.heap.size, 2, none⟩ = some (.int .u32 c) ∧ zX.cell? ⟨w.heap.size, 3, none⟩ = some (.int .u16 d) ∧ True)) (zb : Below zX.heap.size zX zY) => (show (Below w.heap.size w zY ∧ zY.cell? ⟨w.heap.size, 0, none⟩ = some (.int .u32 a) ∧ zY.cell? ⟨w.heap.size, 1, none⟩ = some (.int .u16 b) ∧ zY.cell? ⟨w.heap.size, 2, none⟩ = some (.int .u32 c) ∧ zY.cell? ⟨w.heap.size, 3, none⟩ = some (.int .u16 d) ∧ True) from ⟨bstep zh.1 zb, cellAt zb zh.2.1, cellAt zb zh.2.2.1, cellAt zb zh.2.2.2.1, cellAt zb zh.2.2.2.2.1, trivial⟩))
  have FS := hide (fun (zX : World) (zh : (Below w.heap.size w zX ∧ zX.cell? ⟨w.heap.size, 0, none⟩ = some (.int .u32 a) ∧ zX.cell? ⟨w.heap.size, 1, none⟩ = some (.int .u16 b) ∧ zX.cell? ⟨w.heap.size, 2, none⟩ = some (.int .u32 c) ∧ zX.cell? ⟨w.heap.size, 3, none⟩ = some (.int .u16 d) ∧ True)) => zh.1)
  have GS := hide (fun (zX : World) (zh : (Below w.heap.size w zX ∧ zX.cell? ⟨w.heap.size, 0, none⟩ = some (.int .u32 a) ∧ zX.cell? ⟨w.heap.size, 1, none⟩ = some (.int .u16 b) ∧ zX.cell? ⟨w.heap.size, 2, none⟩ = some (.int .u32 c) ∧ zX.cell? ⟨w.heap.size, 3, none⟩ = some (.int .u16 d) ∧ True)) => zh)
  have hS0 : (Below w.heap.size w w2 ∧ w2.cell? ⟨w.heap.size, 0, none⟩ = some (.int .u32 a) ∧ w2.cell? ⟨w.heap.size, 1, none⟩ = some (.int .u16 b) ∧ w2.cell? ⟨w.heap.size, 2, none⟩ = some (.int .u32 c) ∧ w2.cell? ⟨w.heap.size, 3, none⟩ = some (.int .u16 d) ∧ True) := ⟨(by (repeat' (first | with_reducible exact b2 | with_reducible exact Below.refl _ _ | with_reducible refine Below.setCell ?_ (by first | exact Nat.le_refl _ | (dsimp only; omega)) _ | with_reducible refine bstep ?_ (fresh_below _ _) | with_reducible refine Below.drew ?_))), d2.at_ 0, d2.at_ 1, d2.at_ 2, d2.at_ 3, trivial⟩
  go_region_held_law (fun w' => (Below w.heap.size w w' ∧ w'.cell? ⟨w.heap.size, 0, none⟩ = some (.int .u32 a) ∧ w'.cell? ⟨w.heap.size, 1, none⟩ = some (.int .u16 b) ∧ w'.cell? ⟨w.heap.size, 2, none⟩ = some (.int .u32 c) ∧ w'.cell? ⟨w.heap.size, 3, none⟩ = some (.int .u16 d) ∧ True)) (first | assumption | exact SK.out _ _ hS0 (Below.refl _ _).drew | exact SK.out _ _ hS0 (fresh_below _ _).drew | exact SK.out _ _ (by assumption) (fresh_below _ _) | (refine SK.out _ _ ?_ (by assumption); assumption))
    (first | (go_at_call 84; (with_reducible refine Calls.mono (F3.out _ _ ?_) ?_); (focus ((repeat' (first | with_reducible refine Row.afterdraw ?_ | with_reducible exact Row.freshAt _ _ _ _ _ _ (by first | (simp; done) | fail) rfl rfl | (with_reducible refine Row.rise ?_ (fresh_below _ _)) | (with_reducible refine Row.rise ?_ (by with_reducible assumption)))); (first | done | fail))); rintro e wq ⟨rfl, bq⟩) | (go_at_call 84; (with_reducible refine Calls.mono (F5.out _ _ ?_) ?_); (focus ((repeat' (first | with_reducible refine Row.afterdraw ?_ | with_reducible exact Row.freshAt _ _ _ _ _ _ (by first | (simp; done) | fail) rfl rfl | (with_reducible refine Row.rise ?_ (fresh_below _ _)) | (with_reducible refine Row.rise ?_ (by with_reducible assumption)))); (first | done | fail))); rintro e wq ⟨rfl, bq⟩) | (go_at_call 86; (with_reducible refine (F4.out _).mono ?_); rintro e wq ⟨rfl, bq⟩) | (go_at_call 32; (with_reducible refine (F6.out _).mono ?_); rintro e wq ⟨rfl, bq⟩))
  all_goals
    have gs := GS.out _ (by assumption)
    have gb : Below w.heap.size w wq := gs.1
    clear SK FS GS hS0 gs
    obtain ⟨w3, rfl⟩ : ∃ W : World, W = wq := ⟨_, rfl⟩
    have b3 := gb
    go_wp2_with fail
    (with_reducible refine (F7.out _).mono ?_)
    rintro e w4 ⟨rfl, b4⟩
    replace b4 : Below w.heap.size w w4 := bstep b3 b4
    go_wp2_with fail
    (with_reducible refine (F8.out _).mono ?_)
    rintro e w5 ⟨rfl, b5⟩
    replace b5 : Below w.heap.size w w5 := bstep b4 b5
    go_wp2_with fail
    (with_reducible refine (F9.out _).mono ?_)
    rintro e w6 ⟨rfl, b6⟩
    replace b6 : Below w.heap.size w w6 := bstep b5 b6
    go_wp2_with fail
    go_ret
    exact ⟨rfl, b6⟩

set_option maxRecDepth 100000 in
set_option maxHeartbeats 4000000 in
theorem rw_flow_u1 (a b c d : Int) (l ips : ByteArray) (v n0 nF : Int) (pr p1 p2 ip t1 pn out : ByteArray) (w : World) (hl : l.size ≤ 140737488351232) (h20 : 8 ≤ l.size) (hpr : pr.size = 4)
    (f1 : ∀ W (A : Option Addr), Row W W.heap.size A 2 (ints16 [b, d]) → Calls Tryz.prog 34 #[.slice A 2 2] W (Ret (.string pr) W))
    (f2 : ∀ W, Calls Tryz.prog 85 #[.string l, .int .i64 6] W (Ret (.int .u16 v) W))
    (f3 : ∀ W (A : Option Addr), Row W W.heap.size A 2 [.string ips, .string (l.extract 0 4)] → Calls Tryz.prog 84 #[.slice A 2 2] W (Ret (.string p1) W))
    (f4 : ∀ W, Calls Tryz.prog 86 #[.agg #[.int .u32 a, .int .u16 b, .int .u32 c, .int .u16 d]] W (Ret (.string ip) W))
    (f5 : ∀ W (A : Option Addr), Row W W.heap.size A 2 [.string ip, .string pr] → Calls Tryz.prog 84 #[.slice A 2 2] W (Ret (.string p2) W))
    (f6 : ∀ W, Calls Tryz.prog 32 #[.int .u16 v, .string p1, .string p2] W (Ret (.int .u16 n0) W))
    (f7 : ∀ W, Calls Tryz.prog 120 #[.string l, .int .i64 0, .string pr] W (Ret (.string t1) W))
    (f8 : ∀ W, Calls Tryz.prog 87 #[.int .u16 nF] W (Ret (.string pn) W))
    (f9 : ∀ W, Calls Tryz.prog 120 #[.string t1, .int .i64 6, .string pn] W (Ret (.string out) W))
    (hv : v ≠ 0) (hn : n0 = 0) (hF : nF = 65535) :
    Calls Tryz.prog 88 #[.agg #[.int .u32 a, .int .u16 b, .int .u32 c, .int .u16 d], .string l, .string ips, .int .i64 6] w (Ret (.string out) w) := by
  have q1 : (v == 0) = false := by simpa using hv
  have qx : bits .xor .u16 IntKind.u16.max 0 = 65535 := by decide
  clear hv
  subst hF; subst hn
  have i1 : (4 : Int) ≤ (l.size : Int) := by omega
  have F1 := hide f1; have F2 := hide f2; have F3 := hide f3; have F4 := hide f4; have F5 := hide f5; have F6 := hide f6; have F7 := hide f7; have F8 := hide f8; have F9 := hide f9
  clear f1 f2 f3 f4 f5 f6 f7 f8 f9
  go_enter Tryz.func88, Tryz.ntmps88
  have d0 := Cells.new w #[.int .u32 a, .int .u16 b, .int .u32 c, .int .u16 d] 28
  go_wp2_with fail
  (with_reducible refine Calls.mono (F1.out _ _ (Row.freshAt _ _ _ _ _ _ (by simp) rfl rfl)) ?_)
  rintro e w1 ⟨rfl, b1⟩
  have d1 := Cells.up d0 (fresh_below _ _) b1
  replace b1 : Below w.heap.size w w1 := bstep (bstep (fresh_below _ _) (fresh_below _ _)) b1
  clear d0
  go_wp2_with fail
  (with_reducible refine (F2.out _).mono ?_)
  rintro e w2 ⟨rfl, b2⟩
  have d2 := Cells.below b2 d1
  replace b2 : Below w.heap.size w w2 := bstep b1 b2
  clear d1 b1
  go_wp2_with fail
  have SK := hide (fun (zX zY : World) (zh : (Below w.heap.size w zX ∧ zX.cell? ⟨w.heap.size, 0, none⟩ = some (.int .u32 a) ∧ zX.cell? ⟨w.heap.size, 1, none⟩ = some (.int .u16 b) ∧ zX.cell? ⟨w.heap.size, 2, none⟩ = some (.int .u32 c) ∧ zX.cell? ⟨w.heap.size, 3, none⟩ = some (.int .u16 d) ∧ True)) (zb : Below zX.heap.size zX zY) => (show (Below w.heap.size w zY ∧ zY.cell? ⟨w.heap.size, 0, none⟩ = some (.int .u32 a) ∧ zY.cell? ⟨w.heap.size, 1, none⟩ = some (.int .u16 b) ∧ zY.cell? ⟨w.heap.size, 2, none⟩ = some (.int .u32 c) ∧ zY.cell? ⟨w.heap.size, 3, none⟩ = some (.int .u16 d) ∧ True) from ⟨bstep zh.1 zb, cellAt zb zh.2.1, cellAt zb zh.2.2.1, cellAt zb zh.2.2.2.1, cellAt zb zh.2.2.2.2.1, trivial⟩))
  have FS := hide (fun (zX : World) (zh : (Below w.heap.size w zX ∧ zX.cell? ⟨w.heap.size, 0, none⟩ = some (.int .u32 a) ∧ zX.cell? ⟨w.heap.size, 1, none⟩ = some (.int .u16 b) ∧ zX.cell? ⟨w.heap.size, 2, none⟩ = some (.int .u32 c) ∧ zX.cell? ⟨w.heap.size, 3, none⟩ = some (.int .u16 d) ∧ True)) => zh.1)
  have GS := hide (fun (zX : World) (zh : (Below w.heap.size w zX ∧ zX.cell? ⟨w.heap.size, 0, none⟩ = some (.int .u32 a) ∧ zX.cell? ⟨w.heap.size, 1, none⟩ = some (.int .u16 b) ∧ zX.cell? ⟨w.heap.size, 2, none⟩ = some (.int .u32 c) ∧ zX.cell? ⟨w.heap.size, 3, none⟩ = some (.int .u16 d) ∧ True)) => zh)
  have hS0 : (Below w.heap.size w w2 ∧ w2.cell? ⟨w.heap.size, 0, none⟩ = some (.int .u32 a) ∧ w2.cell? ⟨w.heap.size, 1, none⟩ = some (.int .u16 b) ∧ w2.cell? ⟨w.heap.size, 2, none⟩ = some (.int .u32 c) ∧ w2.cell? ⟨w.heap.size, 3, none⟩ = some (.int .u16 d) ∧ True) := ⟨(by (repeat' (first | with_reducible exact b2 | with_reducible exact Below.refl _ _ | with_reducible refine Below.setCell ?_ (by first | exact Nat.le_refl _ | (dsimp only; omega)) _ | with_reducible refine bstep ?_ (fresh_below _ _) | with_reducible refine Below.drew ?_))), d2.at_ 0, d2.at_ 1, d2.at_ 2, d2.at_ 3, trivial⟩
  go_region_held_law (fun w' => (Below w.heap.size w w' ∧ w'.cell? ⟨w.heap.size, 0, none⟩ = some (.int .u32 a) ∧ w'.cell? ⟨w.heap.size, 1, none⟩ = some (.int .u16 b) ∧ w'.cell? ⟨w.heap.size, 2, none⟩ = some (.int .u32 c) ∧ w'.cell? ⟨w.heap.size, 3, none⟩ = some (.int .u16 d) ∧ True)) (first | assumption | exact SK.out _ _ hS0 (Below.refl _ _).drew | exact SK.out _ _ hS0 (fresh_below _ _).drew | exact SK.out _ _ (by assumption) (fresh_below _ _) | (refine SK.out _ _ ?_ (by assumption); assumption))
    (first | (go_at_call 84; (with_reducible refine Calls.mono (F3.out _ _ ?_) ?_); (focus ((repeat' (first | with_reducible refine Row.afterdraw ?_ | with_reducible exact Row.freshAt _ _ _ _ _ _ (by first | (simp; done) | fail) rfl rfl | (with_reducible refine Row.rise ?_ (fresh_below _ _)) | (with_reducible refine Row.rise ?_ (by with_reducible assumption)))); (first | done | fail))); rintro e wq ⟨rfl, bq⟩) | (go_at_call 84; (with_reducible refine Calls.mono (F5.out _ _ ?_) ?_); (focus ((repeat' (first | with_reducible refine Row.afterdraw ?_ | with_reducible exact Row.freshAt _ _ _ _ _ _ (by first | (simp; done) | fail) rfl rfl | (with_reducible refine Row.rise ?_ (fresh_below _ _)) | (with_reducible refine Row.rise ?_ (by with_reducible assumption)))); (first | done | fail))); rintro e wq ⟨rfl, bq⟩) | (go_at_call 86; (with_reducible refine (F4.out _).mono ?_); rintro e wq ⟨rfl, bq⟩) | (go_at_call 32; (with_reducible refine (F6.out _).mono ?_); rintro e wq ⟨rfl, bq⟩))
  all_goals
    have gs := GS.out _ (by assumption)
    have gb : Below w.heap.size w wq := gs.1
    clear SK FS GS hS0 gs
    obtain ⟨w3, rfl⟩ : ∃ W : World, W = wq := ⟨_, rfl⟩
    have b3 := gb
    go_wp2_with fail
    (with_reducible refine (F7.out _).mono ?_)
    rintro e w4 ⟨rfl, b4⟩
    replace b4 : Below w.heap.size w w4 := bstep b3 b4
    go_wp2_with fail
    (with_reducible refine (F8.out _).mono ?_)
    rintro e w5 ⟨rfl, b5⟩
    replace b5 : Below w.heap.size w w5 := bstep b4 b5
    go_wp2_with fail
    (with_reducible refine (F9.out _).mono ?_)
    rintro e w6 ⟨rfl, b6⟩
    replace b6 : Below w.heap.size w w6 := bstep b5 b6
    go_wp2_with fail
    go_ret
    exact ⟨rfl, b6⟩

set_option maxRecDepth 100000 in
set_option maxHeartbeats 4000000 in
theorem rw_flow_u2 (a b c d : Int) (l ips : ByteArray) (v n0 nF : Int) (pr p1 p2 ip t1 pn out : ByteArray) (w : World) (hl : l.size ≤ 140737488351232) (h20 : 8 ≤ l.size) (hpr : pr.size = 4)
    (f1 : ∀ W (A : Option Addr), Row W W.heap.size A 2 (ints16 [b, d]) → Calls Tryz.prog 34 #[.slice A 2 2] W (Ret (.string pr) W))
    (f2 : ∀ W, Calls Tryz.prog 85 #[.string l, .int .i64 6] W (Ret (.int .u16 v) W))
    (f3 : ∀ W (A : Option Addr), Row W W.heap.size A 2 [.string ips, .string (l.extract 0 4)] → Calls Tryz.prog 84 #[.slice A 2 2] W (Ret (.string p1) W))
    (f4 : ∀ W, Calls Tryz.prog 86 #[.agg #[.int .u32 a, .int .u16 b, .int .u32 c, .int .u16 d]] W (Ret (.string ip) W))
    (f5 : ∀ W (A : Option Addr), Row W W.heap.size A 2 [.string ip, .string pr] → Calls Tryz.prog 84 #[.slice A 2 2] W (Ret (.string p2) W))
    (f6 : ∀ W, Calls Tryz.prog 32 #[.int .u16 v, .string p1, .string p2] W (Ret (.int .u16 n0) W))
    (f7 : ∀ W, Calls Tryz.prog 120 #[.string l, .int .i64 0, .string pr] W (Ret (.string t1) W))
    (f8 : ∀ W, Calls Tryz.prog 87 #[.int .u16 nF] W (Ret (.string pn) W))
    (f9 : ∀ W, Calls Tryz.prog 120 #[.string t1, .int .i64 6, .string pn] W (Ret (.string out) W))
    (hv : v ≠ 0) (hn : n0 ≠ 0) (hF : nF = n0) :
    Calls Tryz.prog 88 #[.agg #[.int .u32 a, .int .u16 b, .int .u32 c, .int .u16 d], .string l, .string ips, .int .i64 6] w (Ret (.string out) w) := by
  have q1 : (v == 0) = false := by simpa using hv
  have q2 : (n0 == 0) = false := by simpa using hn
  clear hv hn
  subst hF
  have i1 : (4 : Int) ≤ (l.size : Int) := by omega
  have F1 := hide f1; have F2 := hide f2; have F3 := hide f3; have F4 := hide f4; have F5 := hide f5; have F6 := hide f6; have F7 := hide f7; have F8 := hide f8; have F9 := hide f9
  clear f1 f2 f3 f4 f5 f6 f7 f8 f9
  go_enter Tryz.func88, Tryz.ntmps88
  have d0 := Cells.new w #[.int .u32 a, .int .u16 b, .int .u32 c, .int .u16 d] 28
  go_wp2_with fail
  (with_reducible refine Calls.mono (F1.out _ _ (Row.freshAt _ _ _ _ _ _ (by simp) rfl rfl)) ?_)
  rintro e w1 ⟨rfl, b1⟩
  have d1 := Cells.up d0 (fresh_below _ _) b1
  replace b1 : Below w.heap.size w w1 := bstep (bstep (fresh_below _ _) (fresh_below _ _)) b1
  clear d0
  go_wp2_with fail
  (with_reducible refine (F2.out _).mono ?_)
  rintro e w2 ⟨rfl, b2⟩
  have d2 := Cells.below b2 d1
  replace b2 : Below w.heap.size w w2 := bstep b1 b2
  clear d1 b1
  go_wp2_with fail
  have SK := hide (fun (zX zY : World) (zh : (Below w.heap.size w zX ∧ zX.cell? ⟨w.heap.size, 0, none⟩ = some (.int .u32 a) ∧ zX.cell? ⟨w.heap.size, 1, none⟩ = some (.int .u16 b) ∧ zX.cell? ⟨w.heap.size, 2, none⟩ = some (.int .u32 c) ∧ zX.cell? ⟨w.heap.size, 3, none⟩ = some (.int .u16 d) ∧ True)) (zb : Below zX.heap.size zX zY) => (show (Below w.heap.size w zY ∧ zY.cell? ⟨w.heap.size, 0, none⟩ = some (.int .u32 a) ∧ zY.cell? ⟨w.heap.size, 1, none⟩ = some (.int .u16 b) ∧ zY.cell? ⟨w.heap.size, 2, none⟩ = some (.int .u32 c) ∧ zY.cell? ⟨w.heap.size, 3, none⟩ = some (.int .u16 d) ∧ True) from ⟨bstep zh.1 zb, cellAt zb zh.2.1, cellAt zb zh.2.2.1, cellAt zb zh.2.2.2.1, cellAt zb zh.2.2.2.2.1, trivial⟩))
  have FS := hide (fun (zX : World) (zh : (Below w.heap.size w zX ∧ zX.cell? ⟨w.heap.size, 0, none⟩ = some (.int .u32 a) ∧ zX.cell? ⟨w.heap.size, 1, none⟩ = some (.int .u16 b) ∧ zX.cell? ⟨w.heap.size, 2, none⟩ = some (.int .u32 c) ∧ zX.cell? ⟨w.heap.size, 3, none⟩ = some (.int .u16 d) ∧ True)) => zh.1)
  have GS := hide (fun (zX : World) (zh : (Below w.heap.size w zX ∧ zX.cell? ⟨w.heap.size, 0, none⟩ = some (.int .u32 a) ∧ zX.cell? ⟨w.heap.size, 1, none⟩ = some (.int .u16 b) ∧ zX.cell? ⟨w.heap.size, 2, none⟩ = some (.int .u32 c) ∧ zX.cell? ⟨w.heap.size, 3, none⟩ = some (.int .u16 d) ∧ True)) => zh)
  have hS0 : (Below w.heap.size w w2 ∧ w2.cell? ⟨w.heap.size, 0, none⟩ = some (.int .u32 a) ∧ w2.cell? ⟨w.heap.size, 1, none⟩ = some (.int .u16 b) ∧ w2.cell? ⟨w.heap.size, 2, none⟩ = some (.int .u32 c) ∧ w2.cell? ⟨w.heap.size, 3, none⟩ = some (.int .u16 d) ∧ True) := ⟨(by (repeat' (first | with_reducible exact b2 | with_reducible exact Below.refl _ _ | with_reducible refine Below.setCell ?_ (by first | exact Nat.le_refl _ | (dsimp only; omega)) _ | with_reducible refine bstep ?_ (fresh_below _ _) | with_reducible refine Below.drew ?_))), d2.at_ 0, d2.at_ 1, d2.at_ 2, d2.at_ 3, trivial⟩
  go_region_held_law (fun w' => (Below w.heap.size w w' ∧ w'.cell? ⟨w.heap.size, 0, none⟩ = some (.int .u32 a) ∧ w'.cell? ⟨w.heap.size, 1, none⟩ = some (.int .u16 b) ∧ w'.cell? ⟨w.heap.size, 2, none⟩ = some (.int .u32 c) ∧ w'.cell? ⟨w.heap.size, 3, none⟩ = some (.int .u16 d) ∧ True)) (first | assumption | exact SK.out _ _ hS0 (Below.refl _ _).drew | exact SK.out _ _ hS0 (fresh_below _ _).drew | exact SK.out _ _ (by assumption) (fresh_below _ _) | (refine SK.out _ _ ?_ (by assumption); assumption))
    (first | (go_at_call 84; (with_reducible refine Calls.mono (F3.out _ _ ?_) ?_); (focus ((repeat' (first | with_reducible refine Row.afterdraw ?_ | with_reducible exact Row.freshAt _ _ _ _ _ _ (by first | (simp; done) | fail) rfl rfl | (with_reducible refine Row.rise ?_ (fresh_below _ _)) | (with_reducible refine Row.rise ?_ (by with_reducible assumption)))); (first | done | fail))); rintro e wq ⟨rfl, bq⟩) | (go_at_call 84; (with_reducible refine Calls.mono (F5.out _ _ ?_) ?_); (focus ((repeat' (first | with_reducible refine Row.afterdraw ?_ | with_reducible exact Row.freshAt _ _ _ _ _ _ (by first | (simp; done) | fail) rfl rfl | (with_reducible refine Row.rise ?_ (fresh_below _ _)) | (with_reducible refine Row.rise ?_ (by with_reducible assumption)))); (first | done | fail))); rintro e wq ⟨rfl, bq⟩) | (go_at_call 86; (with_reducible refine (F4.out _).mono ?_); rintro e wq ⟨rfl, bq⟩) | (go_at_call 32; (with_reducible refine (F6.out _).mono ?_); rintro e wq ⟨rfl, bq⟩))
  all_goals
    have gs := GS.out _ (by assumption)
    have gb : Below w.heap.size w wq := gs.1
    clear SK FS GS hS0 gs
    obtain ⟨w3, rfl⟩ : ∃ W : World, W = wq := ⟨_, rfl⟩
    have b3 := gb
    go_wp2_with fail
    (with_reducible refine (F7.out _).mono ?_)
    rintro e w4 ⟨rfl, b4⟩
    replace b4 : Below w.heap.size w w4 := bstep b3 b4
    go_wp2_with fail
    (with_reducible refine (F8.out _).mono ?_)
    rintro e w5 ⟨rfl, b5⟩
    replace b5 : Below w.heap.size w w5 := bstep b4 b5
    go_wp2_with fail
    (with_reducible refine (F9.out _).mono ?_)
    rintro e w6 ⟨rfl, b6⟩
    replace b6 : Below w.heap.size w w6 := bstep b5 b6
    go_wp2_with fail
    go_ret
    exact ⟨rfl, b6⟩

theorem rw_flow (a b c d : Int) (l ips : ByteArray) (k : Nat) (kk : Int) (w : World) (hk : (k = 16 ∧ kk = 16) ∨ (k = 6 ∧ kk = 6)) (ha : 0 ≤ a ∧ a ≤ 4294967295) (hb : 0 ≤ b ∧ b ≤ 65535) (hc : 0 ≤ c ∧ c ≤ 4294967295) (hd : 0 ≤ d ∧ d ≤ 65535) (hl : l.size ≤ 1000000) (h20 : k + 2 ≤ l.size) (hi : ips.size = 8) :
    Calls Tryz.prog 88 #[.agg #[.int .u32 a, .int .u16 b, .int .u32 c, .int .u16 d], .string l, .string ips, .int .i64 kk] w (Ret (.string (S (flowNew (L l) (L ips) a b c d k))) w) := by
  have hbd : ∀ x ∈ [b, d], 0 ≤ x ∧ x ≤ 65535 := by
    intro x hx
    simp only [List.mem_cons, List.not_mem_nil, or_false] at hx
    rcases hx with rfl | rfl <;> assumption
  have hL : k + 2 ≤ (L l).length := by rw [L_length]; exact h20
  have hk4 : 6 ≤ k := by omega
  have hns := flowSum_bd (L l) (L ips) a b c d k
  have hnf := flowFix_bd (k := k) (was := be16 (L l) k) hns
  have hz : (putW [b, d] ++ (L l).drop 4).length = l.size := by rw [List.length_append, List.length_drop, L_length]; show 4 + _ = _; omega
  have z0 : (S (putW [b, d])).size = 4 := rfl
  have f1 := fun W A (hR : Row W W.heap.size A 2 (ints16 [b, d])) => Word A 2 2 [b, d] W hR hbd (by omega)
  have f2 := fun W => rw_word l k W (by unfold maxLen; omega) h20
  have f3 := fun W A (hR : Row W W.heap.size A 2 [.string ips, .string (l.extract 0 4)]) => rw_laid A 2 2 [ips, l.extract 0 4] W hR (by simp [allOf, L_extract, L_length]; omega) (by omega)
  have f4 := fun W => rw_ips a b c d W ha hc
  have f5 := fun W A (hR : Row W W.heap.size A 2 [.string (S (ipsOf a c)), .string (S (putW [b, d]))]) => rw_laid A 2 2 [S (ipsOf a c), S (putW [b, d])] W hR (by simp [allOf, L_S, putW_length, show (ipsOf a c).length = 8 from rfl]) (by omega)
  have e1 : S (allOf [ips, l.extract 0 4]) = S (L ips ++ (L l).take 4) := by unfold allOf; simp [L_to]
  have e2 : S (allOf [S (ipsOf a c), S (putW [b, d])]) = S (ipsOf a c ++ putW [b, d]) := by unfold allOf; simp [L_S]
  rw [e1] at f3
  rw [e2] at f5
  have f6 := fun W => Updates (be16 (L l) k) (S (L ips ++ (L l).take 4)) (S (ipsOf a c ++ putW [b, d])) W (be16_bd _ _) (by rw [S_size, List.length_append, L_length]; simp; omega) (by rw [S_size, List.length_append, putW_length]; show 8 + _ ≤ _; simp)
  rw [L_S, L_S] at f6
  have f7 := fun W => rw_patch l 0 (S (putW [b, d])) W (by omega) (by rw [z0]; omega)
  rw [show (L l).take 0 ++ (L (S (putW [b, d])) ++ (L l).drop (0 + (S (putW [b, d])).size)) = putW [b, d] ++ (L l).drop 4 from by rw [L_S]; rfl, show ((0 : Nat) : Int) = 0 from rfl] at f7
  have f8 := fun W => Put16 (flowFix k (be16 (L l) k) (flowSum (L l) (L ips) a b c d k)) W hnf.1 hnf.2
  have f9 := fun W => rw_patch (S (putW [b, d] ++ (L l).drop 4)) k (S (put16 (flowFix k (be16 (L l) k) (flowSum (L l) (L ips) a b c d k)))) W (by rw [S_size, hz]; omega) (by rw [S_size, S_size, hz, put16_length]; omega)
  have e9 : (L (S (putW [b, d] ++ (L l).drop 4))).take k ++ (L (S (put16 (flowFix k (be16 (L l) k) (flowSum (L l) (L ips) a b c d k)))) ++ (L (S (putW [b, d] ++ (L l).drop 4))).drop (k + (S (put16 (flowFix k (be16 (L l) k) (flowSum (L l) (L ips) a b c d k)))).size)) = flowNew (L l) (L ips) a b c d k := by
    rw [L_S, L_S, ← List.append_assoc]; rfl
  rw [e9] at f9
  rcases hk with ⟨rfl, rfl⟩ | ⟨rfl, rfl⟩
  · rw [show ((16 : Nat) : Int) = 16 from rfl] at f2 f9
    exact rw_flow_t a b c d l ips _ _ _ _ _ _ _ _ _ _ w (by omega) (by omega) z0 f1 f2 f3 f4 f5 f6 f7 f8 f9 (by unfold flowFix; rw [if_neg (by decide)]; rfl)
  · rw [show ((6 : Nat) : Int) = 6 from rfl] at f2 f9
    by_cases hv : be16 (L l) 6 = 0
    · exact rw_flow_u0 a b c d l ips _ _ _ _ _ _ _ _ _ _ w (by omega) (by omega) z0 f1 f2 f3 f4 f5 f6 f7 f8 f9 hv (by unfold flowFix; rw [if_pos rfl, if_pos hv])
    by_cases hn : flowSum (L l) (L ips) a b c d 6 = 0
    · exact rw_flow_u1 a b c d l ips _ _ _ _ _ _ _ _ _ _ w (by omega) (by omega) z0 f1 f2 f3 f4 f5 f6 f7 f8 f9 hv hn (by unfold flowFix; rw [if_pos rfl, if_neg hv, if_pos hn])
    · exact rw_flow_u2 a b c d l ips _ _ _ _ _ _ _ _ _ _ w (by omega) (by omega) z0 f1 f2 f3 f4 f5 f6 f7 f8 f9 hv hn (by unfold flowFix; rw [if_pos rfl, if_neg hv, if_neg hn]; rfl)
end Go.Proofs.YtjeaknipmdfkdaaGreatDoor
end

section
/- A packet that is looked at (tuples), over this program. -/
set_option linter.unusedVariables false
set_option linter.unusedSimpArgs false
namespace Go.Proofs.YtjeaknipmdfkdaaGreatDoor
open Go.RowKit
attribute [local go_sem] Oper.semAt_some

/-! ### all that lay there lies as it lay, but block B -/
def But (B : Nat) (w w' : World) : Prop := Below 0 w w' ∧ ∀ k, k < w.heap.size → k ≠ B → w'.heap[k]? = w.heap[k]?
theorem But.refl (B : Nat) (w : World) : But B w w := ⟨Below.refl _ _, fun _ _ _ => rfl⟩
theorem But.of_below {B : Nat} {w w' : World} (h : Below w.heap.size w w') : But B w w' := ⟨h.mono (Nat.zero_le _), fun k hk _ => h.block k hk⟩
theorem But.step {B : Nat} {a b c : World} (h : But B a b) (k : Below b.heap.size b c) : But B a c := ⟨h.1.trans (k.mono (Nat.zero_le _)), fun i hi hb => (k.block i (Nat.lt_of_lt_of_le hi h.1.size)).trans (h.2 i hi hb)⟩
theorem But.trans {B : Nat} {a b c : World} (h : But B a b) (k : But B b c) : But B a c := ⟨h.1.trans k.1, fun i hi hb => (k.2 i (Nat.lt_of_lt_of_le hi h.1.size) hb).trans (h.2 i hi hb)⟩
theorem But.set {B : Nat} {a b : World} (h : But B a b) (j : Nat) (v : Value) : But B a (b.setCell ⟨B, j, none⟩ v) := ⟨h.1.setCell (Nat.zero_le _) _, fun i hi hb => (Below.heap_setCell b ⟨B, j, none⟩ v i hb).trans (h.2 i hi hb)⟩
theorem But.drew {B : Nat} {a b : World} (h : But B a b) : But B a b.drew := ⟨h.1.drew, h.2⟩
theorem But.cells {B : Nat} {a b : World} (h : But B a b) {k : Nat} {cs : Array Value} {t : TypeId} (hk : k ≠ B) (c : Cells a k cs t) : Cells b k cs t := (h.2 k c.lt hk).trans c
theorem But.below {n B : Nat} {a b : World} (h : But B a b) (hn : n ≤ B) (hB : B ≤ a.heap.size) : Below n a b := ⟨h.1.os, h.1.tape, h.1.output, h.1.size, fun k hk => h.2 k (by omega) (by omega)⟩

/-- a packet that was taken apart, and what is seen of it so far, in a block -/
def pkCells (h : Hd) (l : ByteArray) (x : Seen) : Array Value := #[.int .u8 h.t, .int .u16 h.i, .bool h.f, .int .u8 h.l, .int .u8 h.p, .int .u32 h.s, .int .u32 h.d, .string h.o, .string l, .int .u8 x.t.p, .int .u32 x.t.a, .int .u16 x.t.b, .int .u32 x.t.c, .int .u16 x.t.d, .int .i64 x.k, .int .u8 x.f, .bool x.q, .int .u8 x.l]
def Pk (w : World) (B : Nat) (h : Hd) (l : ByteArray) (x : Seen) : Prop := Cells w B (pkCells h l x) 103

set_option maxRecDepth 100000 in
set_option maxHeartbeats 2000000 in
theorem p_between (B : Nat) (h : Hd) (l : ByteArray) (x : Seen) (a b : Int) (w : World) (hC : Pk w B h l x) :
    Calls Tryz.prog 122 #[.pointer (some ⟨B, 0, none⟩), .int .u16 a, .int .u16 b] w (fun e w' => e = .returned (.tuple #[]) ∧ But B w w' ∧ Pk w' B h l ⟨⟨h.p, h.s, a, h.d, b⟩, x.k, x.f, x.q, x.l⟩) := by
  obtain ⟨h0, h1, h2, h3, h4, h5, h6, h7⟩ := h
  obtain ⟨⟨x0, x1, x2, x3, x4⟩, x5, x6, x7, x8⟩ := x
  unfold Pk pkCells at hC
  unfold Pk pkCells
  simp only at hC ⊢
  have hD := hC.drew
  have p4 : w.cell? ⟨B, 4, none⟩ = some (.int .u8 h4) := hC.at_ 4
  have p5 : w.cell? ⟨B, 5, none⟩ = some (.int .u32 h5) := hC.at_ 5
  have p6 : w.cell? ⟨B, 6, none⟩ = some (.int .u32 h6) := hC.at_ 6
  have hE := ((((hD.set_ 9 (.int .u8 h4)).set_ 10 (.int .u32 h5)).set_ 11 (.int .u16 a)).set_ 12 (.int .u32 h6)).set_ 13 (.int .u16 b)
  have hB : But B w (((((w.drew.setCell ⟨B, 9, none⟩ (.int .u8 h4)).setCell ⟨B, 10, none⟩ (.int .u32 h5)).setCell ⟨B, 11, none⟩ (.int .u16 a)).setCell ⟨B, 12, none⟩ (.int .u32 h6)).setCell ⟨B, 13, none⟩ (.int .u16 b)) := (((((But.refl B w).drew.set 9 _).set 10 _).set 11 _).set 12 _).set 13 _
  have HC := hide hC; have HD := hide hD; have HE := hide hE; have HB := hide hB
  clear hC hE hB
  go_enter Tryz.func122, Tryz.ntmps122
  go_wp2_with fail
  go_still_tail 24, (by kernel_rfl)
  change wpList _ _ _ _ _ w.drew
  clear hD
  have hD := HD.out
  generalize w.drew = w2 at *
  have c9 : w2.cell? ⟨B, 9, none⟩ = some (.int .u8 x0) := hD.at_ 9
  have c10 : w2.cell? ⟨B, 10, none⟩ = some (.int .u32 x1) := hD.at_ 10
  have c11 : w2.cell? ⟨B, 11, none⟩ = some (.int .u16 x2) := hD.at_ 11
  have c12 : w2.cell? ⟨B, 12, none⟩ = some (.int .u32 x3) := hD.at_ 12
  have c13 : w2.cell? ⟨B, 13, none⟩ = some (.int .u16 x4) := hD.at_ 13
  have f9 := hD.free 9; have f10 := hD.free 10; have f11 := hD.free 11; have f12 := hD.free 12; have f13 := hD.free 13
  clear hD
  go_wp2
  (try simp only [Exit.inBlock, Exit.then]); refine bodyPost_end (v := .tuple #[]) (by simp [results, Tryz.results122, go_sem]; try rfl) rfl ?_
  exact ⟨rfl, HB.out, HE.out⟩
end Go.Proofs.YtjeaknipmdfkdaaGreatDoor
end
