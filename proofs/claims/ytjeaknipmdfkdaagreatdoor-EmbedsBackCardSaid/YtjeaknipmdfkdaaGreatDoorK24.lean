/- Several texts of this claim, one behind the other. -/
import Derived.Test.YtjeaknipmdfkdaaGreatDoorK2
import Derived.Test.YtjeaknipmdfkdaaGreatDoorK23
import Derived.Test.YtjeaknipmdfkdaaGreatDoorK21
import Derived.Test.YtjeaknipmdfkdaaGreatDoorK17
import Derived.Test.YtjeaknipmdfkdaaGreatDoorK15
import Derived.Test.YtjeaknipmdfkdaaGreatDoorK1

section
/- embeds.open: what an error is about, over this program. -/
set_option linter.unusedVariables false
set_option linter.unusedSimpArgs false
namespace Go.Proofs.YtjeaknipmdfkdaaGreatDoor
open Go.RowKit
attribute [local go_sem] Oper.semAt_some envL lookV

theorem em_wraps (n : Int) (h0 : 0 ≤ n) (h1 : n < 2 ^ 16) : IntKind.u16.wrap n = n := by rw [IntKind.wrap_u16]; omega
theorem em_and13 {v : Int} (h0 : 0 ≤ v) (h1 : v < 65536) : bits .and .u16 v 8191 = v % 8192 := bits_mask .u16 16 (by decide) em_wraps 13 (by decide) v h0 h1
/-- what open leaves -/
def Opened (w : World) (s : ByteArray) (en : Ending) (w' : World) : Prop :=
  if emWhy (L s) = 0 then ∃ B, en = .returned (.tuple #[.pointer (some ⟨B, 0, none⟩), .int .i64 0]) ∧ w.heap.size ≤ B ∧ Em w' B s (emAt (L s)) (emTup (L s)) (emAsk (L s)) ∧ Below w.heap.size w w'
  else en = .returned (.tuple #[.pointer none, .int .i64 (emWhy (L s))]) ∧ Below w.heap.size w w'
set_option maxRecDepth 100000 in
set_option maxHeartbeats 4000000 in
theorem e_open_early (w : World) (s : ByteArray) (hs : s.size ≤ 140737488351232) (h : s.size < 20 ∨ (20 ≤ s.size ∧ at_ (L s) 0 / 16 ≠ 4)) :
    Calls Tryz.prog 56 #[.string s] w (Ret (.tuple #[.pointer none, .int .i64 15]) w) := by
  have hsz : (s.size : Int) ≤ 140737488351232 := by omega
  rcases h with h | ⟨h20, hv⟩
  · have q2 : (s.size : Int) < 20 := by omega
    clear h hs
    have bn := fresh_below w (.cells #[.string s, .int .i64 0, .int .u8 0, .int .u32 0, .int .u16 0, .int .u32 0, .int .u16 0, .bool false] 79)
    have BN := hide bn
    clear bn
    go_enter Tryz.func56, Tryz.ntmps56
    go_wp2_with fail
    go_ret2
    exact ⟨rfl, BN.out⟩
  · have q2 : ¬ (s.size : Int) < 20 := by omega
    have i5 : 0 < s.size := by omega
    have e0 : (((s[0]'i5).toNat : Nat) : Int) = at_ (L s) 0 := by rw [getElem_L s 0 (by omega)]; rfl
    have hb := at_bd (L s) 0
    have i4 : (0 : Int) < (s.size : Int) := by omega
    generalize at_ (L s) 0 = x at *
    have m1 : (x / 16 != 4) = true := by simpa using hv
    have m2 : (x / 16 == 4) = false := by simpa using hv
    clear hv hs h20
    have bn := fresh_below w (.cells #[.string s, .int .i64 0, .int .u8 0, .int .u32 0, .int .u16 0, .int .u32 0, .int .u16 0, .bool false] 79)
    have BN := hide bn
    clear bn
    go_enter Tryz.func56, Tryz.ntmps56
    go_wp2_with fail
    go_ret2
    exact ⟨rfl, BN.out⟩
set_option maxRecDepth 100000 in
set_option maxHeartbeats 4000000 in
theorem e_open_mid (w : World) (s : ByteArray) (hs : s.size ≤ 140737488351232) (h20 : 20 ≤ s.size) (hv : at_ (L s) 0 / 16 = 4) (hbad : emEnd (L s) < 20 ∨ (¬ emEnd (L s) < 20 ∧ (s.size : Int) - 8 < emEnd (L s)) ∨ (¬ emEnd (L s) < 20 ∧ ¬ (s.size : Int) - 8 < emEnd (L s) ∧ be16 (L s) 6 % 8192 ≠ 0)) :
    Calls Tryz.prog 56 #[.string s] w (Ret (.tuple #[.pointer none, .int .i64 15]) w) := by
  rw [show emEnd (L s) = ((emAt (L s) : Nat) : Int) from by unfold emAt; have := at_bd (L s) 0; unfold emEnd; omega] at hbad
  have hsz : (s.size : Int) ≤ 140737488351232 := by omega
  have q2 : ¬ (s.size : Int) < 20 := by omega
  have i5 : 0 < s.size := by omega
  have e0 : (((s[0]'i5).toNat : Nat) : Int) = at_ (L s) 0 := by rw [getElem_L s 0 (by omega)]; rfl
  have hb := at_bd (L s) 0
  have i4 : (0 : Int) < (s.size : Int) := by omega
  have hkz : ((emAt (L s) : Nat) : Int) = at_ (L s) 0 % 16 * 4 := by unfold emAt emEnd; omega
  have cw := fun W B (hc : W.cell? ⟨B, 0, none⟩ = some (.string s)) => e_two W B s 6 hc hs ⟨by omega, by omega⟩
  rw [show get16 (L s) 6 = be16 (L s) 6 from get16_nat (k := 6) (by rw [L_length]; omega)] at cw
  have hv16 := be16_bd (L s) 6
  generalize be16 (L s) 6 = v at *
  obtain ⟨k, hk⟩ : ∃ k, k = emAt (L s) := ⟨_, rfl⟩
  rw [← hk] at hkz hbad
  obtain ⟨x, hx⟩ : ∃ x, x = at_ (L s) 0 := ⟨_, rfl⟩
  rw [← hx] at e0 hb hv hkz
  have m1 : (x / 16 != 4) = false := by simpa using hv
  have m2 : (x / 16 == 4) = true := by simpa using hv
  obtain ⟨y, hy⟩ : ∃ y, y = x % 16 := ⟨_, rfl⟩
  have hand : bits .and .u8 x 15 = y := by rw [u8_and15 x hb.1 (by omega), hy]
  rw [← hy] at hkz
  have hyb : 0 ≤ y ∧ y ≤ 15 := by omega
  have wy : IntKind.i64.wrap y = y := IntWalk.i64_in _ (by omega)
  have wz : IntKind.i64.wrap (y * 4) = (k : Int) := by rw [IntWalk.i64_in _ (by omega), hkz]
  obtain ⟨l8, hl8⟩ : ∃ l8 : Int, l8 = (s.size : Int) - 8 := ⟨_, rfl⟩
  have w8 : IntKind.i64.wrap ((s.size : Int) - 8) = l8 := by rw [IntWalk.i64_in _ (by omega), hl8]
  obtain ⟨r, hr⟩ : ∃ r, r = v % 8192 := ⟨_, rfl⟩
  have hand2 : bits .and .u16 v 8191 = r := by rw [em_and13 hv16.1 (by omega), hr]
  have hkb : k ≤ 60 := by omega
  have CW := hide cw
  clear cw
  rw [← hl8, ← hr] at hbad
  clear hx hy hkz hk hb hv hyb hl8 hr hv16 hs h20
  go_enter Tryz.func56, Tryz.ntmps56
  have d0 := Cells.new w #[.string s, .int .i64 0, .int .u8 0, .int .u32 0, .int .u16 0, .int .u32 0, .int .u16 0, .bool false] 79
  have bn := fresh_below w (.cells #[.string s, .int .i64 0, .int .u8 0, .int .u32 0, .int .u16 0, .int .u32 0, .int .u16 0, .bool false] 79)
  have z0 := d0.at_ 1; have zf := d0.free 1
  have D0 := hide d0; have BN := hide bn
  clear d0 bn
  go_upto_region 5 with fail
  have ec := Cells.new w #[.string s, .int .i64 (k : Int), .int .u8 0, .int .u32 0, .int .u16 0, .int .u32 0, .int .u16 0, .bool false] 79
  have eb := fresh_below w (.cells #[.string s, .int .i64 (k : Int), .int .u8 0, .int .u32 0, .int .u16 0, .int .u32 0, .int .u16 0, .bool false] 79)
  clear z0 zf D0 BN q2 m1 m2 hand wy wz
  generalize (w.alloc (.cells #[.string s, .int .i64 (k : Int), .int .u8 0, .int .u32 0, .int .u16 0, .int .u32 0, .int .u16 0, .bool false] 79)) = w5 at *
  have EC := hide ec; have EB := hide eb
  clear eb
  obtain ⟨qec_0, qec_1, qec_2, qec_3, qec_4, qec_5, qec_6, qec_7⟩ := ec.q8
  have bb : Below w5.heap.size w5 w5 := Below.refl _ _
  clear ec
  rcases hbad with h1 | ⟨h1, h2⟩ | ⟨h1, h2, h3⟩
  · have h1z : (k : Int) < 20 := h1
    go_wp2_with fail
    go_ret2
    exact ⟨rfl, EB.out⟩
  · go_wp2_with fail
    go_ret2
    exact ⟨rfl, EB.out⟩
  · have h4 : (r != 0) = true := by simpa using h3
    go_wp2_with (go_at_call 64; (with_reducible refine (CW.out _ _ (qec_0 _ (by assumption))).mono ?_); rintro e w6 ⟨rfl, b6⟩; have b6' := bstep (by assumption : Below w5.heap.size w5 _) b6; clear b6)
    go_ret2
    exact ⟨rfl, bstep EB.out b6'⟩
set_option maxRecDepth 100000 in
set_option maxHeartbeats 8000000 in
theorem e_open_other (w : World) (s : ByteArray) (hs : s.size ≤ 140737488351232) (h20 : 20 ≤ s.size) (hv : at_ (L s) 0 / 16 = 4) (g1 : ¬ emEnd (L s) < 20) (g2 : ¬ (s.size : Int) - 8 < emEnd (L s)) (g3 : be16 (L s) 6 % 8192 = 0) (hp : at_ (L s) 9 ≠ 6 ∧ at_ (L s) 9 ≠ 17 ∧ at_ (L s) 9 ≠ 1) :
    Calls Tryz.prog 56 #[.string s] w (Ret (.tuple #[.pointer none, .int .i64 6]) w) := by
  have hgg : ¬ ((emAt (L s) : Nat) : Int) < 20 ∧ ¬ (s.size : Int) - 8 < ((emAt (L s) : Nat) : Int) := by
    rw [show ((emAt (L s) : Nat) : Int) = emEnd (L s) from by unfold emAt; have := at_bd (L s) 0; unfold emEnd; omega]
    exact ⟨g1, g2⟩
  obtain ⟨f1, f2⟩ := hgg
  clear g1 g2
  have cA := fun W B (hc : W.cell? ⟨B, 0, none⟩ = some (.string s)) => e_addr W B s 12 hc hs ⟨by omega, by omega⟩
  have cB := fun W B (hc : W.cell? ⟨B, 0, none⟩ = some (.string s)) => e_addr W B s 16 hc hs ⟨by omega, by omega⟩
  rw [show get32 (L s) 12 = be32 (L s) 12 from get32_nat (k := 12) (by rw [L_length]; omega)] at cA
  rw [show get32 (L s) 16 = be32 (L s) 16 from get32_nat (k := 16) (by rw [L_length]; omega)] at cB
  have k9 : 9 < s.size := by omega
  have e9 : (((s[9]'k9).toNat : Nat) : Int) = at_ (L s) 9 := by rw [getElem_L s 9 (by omega)]; rfl
  have j9 : (9 : Int) < (s.size : Int) := by omega
  generalize be32 (L s) 12 = va at *
  generalize be32 (L s) 16 = vb at *
  generalize at_ (L s) 9 = p at *
  have HP := hide hp
  clear hp
  have CA := hide cA; have CB := hide cB
  clear cA cB
  have hsz : (s.size : Int) ≤ 140737488351232 := by omega
  have q2 : ¬ (s.size : Int) < 20 := by omega
  have i5 : 0 < s.size := by omega
  have e0 : (((s[0]'i5).toNat : Nat) : Int) = at_ (L s) 0 := by rw [getElem_L s 0 (by omega)]; rfl
  have hb := at_bd (L s) 0
  have i4 : (0 : Int) < (s.size : Int) := by omega
  have hkz : ((emAt (L s) : Nat) : Int) = at_ (L s) 0 % 16 * 4 := by unfold emAt emEnd; omega
  have cw := fun W B (hc : W.cell? ⟨B, 0, none⟩ = some (.string s)) => e_two W B s 6 hc hs ⟨by omega, by omega⟩
  rw [show get16 (L s) 6 = be16 (L s) 6 from get16_nat (k := 6) (by rw [L_length]; omega)] at cw
  have hv16 := be16_bd (L s) 6
  generalize be16 (L s) 6 = v at *
  obtain ⟨k, hk⟩ : ∃ k, k = emAt (L s) := ⟨_, rfl⟩
  rw [← hk] at hkz f1 f2 
  obtain ⟨x, hx⟩ : ∃ x, x = at_ (L s) 0 := ⟨_, rfl⟩
  rw [← hx] at e0 hb hv hkz
  have m1 : (x / 16 != 4) = false := by simpa using hv
  have m2 : (x / 16 == 4) = true := by simpa using hv
  obtain ⟨y, hy⟩ : ∃ y, y = x % 16 := ⟨_, rfl⟩
  have hand : bits .and .u8 x 15 = y := by rw [u8_and15 x hb.1 (by omega), hy]
  rw [← hy] at hkz
  have hyb : 0 ≤ y ∧ y ≤ 15 := by omega
  have wy : IntKind.i64.wrap y = y := IntWalk.i64_in _ (by omega)
  have wz : IntKind.i64.wrap (y * 4) = (k : Int) := by rw [IntWalk.i64_in _ (by omega), hkz]
  obtain ⟨l8, hl8⟩ : ∃ l8 : Int, l8 = (s.size : Int) - 8 := ⟨_, rfl⟩
  have w8 : IntKind.i64.wrap ((s.size : Int) - 8) = l8 := by rw [IntWalk.i64_in _ (by omega), hl8]
  obtain ⟨r, hr⟩ : ∃ r, r = v % 8192 := ⟨_, rfl⟩
  have hand2 : bits .and .u16 v 8191 = r := by rw [em_and13 hv16.1 (by omega), hr]
  have hkb : k ≤ 60 := by omega
  have CW := hide cw
  clear cw
  rw [← hl8] at f2
  rw [← hr] at g3
  have HK := hide hk
  clear hx hy hkz hk hb hv hyb hl8 hr hv16 hs h20
  go_enter Tryz.func56, Tryz.ntmps56
  have d0 := Cells.new w #[.string s, .int .i64 0, .int .u8 0, .int .u32 0, .int .u16 0, .int .u32 0, .int .u16 0, .bool false] 79
  have bn := fresh_below w (.cells #[.string s, .int .i64 0, .int .u8 0, .int .u32 0, .int .u16 0, .int .u32 0, .int .u16 0, .bool false] 79)
  have z0 := d0.at_ 1; have zf := d0.free 1
  have D0 := hide d0; have BN := hide bn
  clear d0 bn
  go_upto_region 5 with fail
  have ec := Cells.new w #[.string s, .int .i64 (k : Int), .int .u8 0, .int .u32 0, .int .u16 0, .int .u32 0, .int .u16 0, .bool false] 79
  have eb := fresh_below w (.cells #[.string s, .int .i64 (k : Int), .int .u8 0, .int .u32 0, .int .u16 0, .int .u32 0, .int .u16 0, .bool false] 79)
  clear z0 zf D0 BN q2 m1 m2 hand wy wz
  generalize (w.alloc (.cells #[.string s, .int .i64 (k : Int), .int .u8 0, .int .u32 0, .int .u16 0, .int .u32 0, .int .u16 0, .bool false] 79)) = w5 at *
  have EC := hide ec; have EB := hide eb
  clear eb
  obtain ⟨qec_0, qec_1, qec_2, qec_3, qec_4, qec_5, qec_6, qec_7⟩ := ec.q8
  have bb : Below w5.heap.size w5 w5 := Below.refl _ _
  clear ec
  have h4 : (r != 0) = false := by rw [g3]; rfl
  go_upto_region 7 with (go_at_call 64; (with_reducible refine (CW.out _ _ (qec_0 _ (by assumption))).mono ?_); rintro e w6 ⟨rfl, b6⟩; have b6' := bstep (by assumption : Below w5.heap.size w5 _) b6; clear b6)
  clear h4 hand2 f1 f2 w8
  have s7 : Below w5.heap.size w5 w6.drew := Below.drew b6'
  clear bb
  focus
    refine wp_region_JG [16] (fun W => Below w5.heap.size w5 W) (by kernel_rfl) (by kernel_rfl) (s7) (fun hG hsel hS0 => ?_)
    refine wpAnyJ_takeG (i := 0) (oi := { dst := some 49, op := .move (.tmp 4), type := 73, pos := "embeds.go:66", after := #[], guard := none }) (v := ?v0_1) hG hsel (by kernel_rfl) (by kernel_rfl) (by kernel_rfl) (by kernel_rfl) (fun _ _ _ h => h) (Or.inl (And.intro (by kernel_rfl) ?q0_1)) hS0 ?r0_1
    case q0_1 => intro w hx; refine run_env [4] [?a0_1_4] (by kernel_rfl) (by kernel_rfl) (⟨?e0_1_4, trivial⟩) ?h0_1; (case e0_1_4 => ((conv => lhs; whnf); (try exact rfl))); (case h0_1 => ((try dsimp only); (try simp only [envL, lookV, if_true, if_false]); (try go_simp); (try with_reducible rfl)))
    (try simp only [Act.put, putS])
    refine wpAnyJ_takeG (i := 1) (oi := { dst := some 50, op := .move (.tmp 0), type := 9, pos := "embeds.go:66", after := #[], guard := none }) (v := ?v1_2) hG hsel (by kernel_rfl) (by kernel_rfl) (by kernel_rfl) (by kernel_rfl) (fun _ _ _ h => h) (Or.inl (And.intro (by kernel_rfl) ?q1_2)) hS0 ?r1_2
    case q1_2 => intro w hx; refine run_env [0] [?a1_2_0] (by kernel_rfl) (by kernel_rfl) (⟨?e1_2_0, trivial⟩) ?h1_2; (case e1_2_0 => ((conv => lhs; whnf); (try exact rfl))); (case h1_2 => ((try dsimp only); (try simp only [envL, lookV, if_true, if_false]); (try go_simp); (try with_reducible rfl)))
    (try simp only [Act.put, putS])
    refine wpAnyJ_takeG (i := 2) (oi := { dst := some 51, op := .index 9 (.tmp 50) (.const (Go.Value.int Go.IntKind.i64 9)), type := 5, pos := "embeds.go:66", after := #[{ on := 1, ground := .data }], guard := none }) (v := ?v2_3) hG hsel (by kernel_rfl) (by kernel_rfl) (by kernel_rfl) (by kernel_rfl) (fun _ _ _ h => h) (Or.inl (And.intro (by kernel_rfl) ?q2_3)) hS0 ?r2_3
    case q2_3 => intro w hx; refine run_env [50] [?a2_3_50] (by kernel_rfl) (by kernel_rfl) (⟨?e2_3_50, trivial⟩) ?h2_3; (case e2_3_50 => ((conv => lhs; whnf); (try exact rfl))); (case h2_3 => ((try dsimp only); (try simp only [envL, lookV, if_true, if_false]); (try go_simp); (try with_reducible rfl)))
    (try simp only [Act.put, putS])
    refine wpAnyJ_takeG (i := 3) (oi := { dst := some 52, op := .move (.tmp 4), type := 73, pos := "embeds.go:66", after := #[], guard := none }) (v := ?v3_4) hG hsel (by kernel_rfl) (by kernel_rfl) (by kernel_rfl) (by kernel_rfl) (fun _ _ _ h => h) (Or.inl (And.intro (by kernel_rfl) ?q3_4)) hS0 ?r3_4
    case q3_4 => intro w hx; refine run_env [4] [?a3_4_4] (by kernel_rfl) (by kernel_rfl) (⟨?e3_4_4, trivial⟩) ?h3_4; (case e3_4_4 => ((conv => lhs; whnf); (try exact rfl))); (case h3_4 => ((try dsimp only); (try simp only [envL, lookV, if_true, if_false]); (try go_simp); (try with_reducible rfl)))
    (try simp only [Act.put, putS])
    refine wpAnyJ_takeG (i := 4) (oi := { dst := some 53, op := .nilCheck (.tmp 52), type := 0, pos := "embeds.go:66", after := #[{ on := 3, ground := .data }], guard := none }) (v := ?v4_5) hG hsel (by kernel_rfl) (by kernel_rfl) (by kernel_rfl) (by kernel_rfl) (fun _ _ _ h => h) (Or.inl (And.intro (by kernel_rfl) ?q4_5)) hS0 ?r4_5
    case q4_5 => intro w hx; refine run_env [52] [?a4_5_52] (by kernel_rfl) (by kernel_rfl) (⟨?e4_5_52, trivial⟩) ?h4_5; (case e4_5_52 => ((conv => lhs; whnf); (try exact rfl))); (case h4_5 => ((try dsimp only); (try simp only [envL, lookV, if_true, if_false]); (try go_simp); (try with_reducible rfl)))
    (try simp only [Act.put, putS])
    refine wpAnyJ_takeG (i := 5) (oi := { dst := some 54, op := .fieldAddr 79 (.tmp 53) 0, type := 0, pos := "embeds.go:66", after := #[{ on := 4, ground := .data }], guard := none }) (v := ?v5_6) hG hsel (by kernel_rfl) (by kernel_rfl) (by kernel_rfl) (by kernel_rfl) (fun _ _ _ h => h) (Or.inl (And.intro (by kernel_rfl) ?q5_6)) hS0 ?r5_6
    case q5_6 => intro w hx; refine run_env [53] [?a5_6_53] (by kernel_rfl) (by kernel_rfl) (⟨?e5_6_53, trivial⟩) ?h5_6; (case e5_6_53 => ((conv => lhs; whnf); (try exact rfl))); (case h5_6 => ((try dsimp only); (try simp only [envL, lookV, if_true, if_false]); (try go_simp); (try with_reducible rfl)))
    (try simp only [Act.put, putS])
    refine wpAnyJ_takeG (i := 8) (oi := { dst := some 57, op := .move (.tmp 4), type := 73, pos := "embeds.go:66", after := #[], guard := none }) (v := ?v8_7) hG hsel (by kernel_rfl) (by kernel_rfl) (by kernel_rfl) (by kernel_rfl) (fun _ _ _ h => h) (Or.inl (And.intro (by kernel_rfl) ?q8_7)) hS0 ?r8_7
    case q8_7 => intro w hx; refine run_env [4] [?a8_7_4] (by kernel_rfl) (by kernel_rfl) (⟨?e8_7_4, trivial⟩) ?h8_7; (case e8_7_4 => ((conv => lhs; whnf); (try exact rfl))); (case h8_7 => ((try dsimp only); (try simp only [envL, lookV, if_true, if_false]); (try go_simp); (try with_reducible rfl)))
    (try simp only [Act.put, putS])
    refine wpAnyJ_takeG (i := 9) (oi := { dst := some 58, op := .nilCheck (.tmp 57), type := 0, pos := "embeds.go:66", after := #[{ on := 8, ground := .data }], guard := none }) (v := ?v9_8) hG hsel (by kernel_rfl) (by kernel_rfl) (by kernel_rfl) (by kernel_rfl) (fun _ _ _ h => h) (Or.inl (And.intro (by kernel_rfl) ?q9_8)) hS0 ?r9_8
    case q9_8 => intro w hx; refine run_env [57] [?a9_8_57] (by kernel_rfl) (by kernel_rfl) (⟨?e9_8_57, trivial⟩) ?h9_8; (case e9_8_57 => ((conv => lhs; whnf); (try exact rfl))); (case h9_8 => ((try dsimp only); (try simp only [envL, lookV, if_true, if_false]); (try go_simp); (try with_reducible rfl)))
    (try simp only [Act.put, putS])
    refine wpAnyJ_takeG (i := 10) (oi := { dst := some 59, op := .fieldAddr 79 (.tmp 58) 0, type := 0, pos := "embeds.go:66", after := #[{ on := 9, ground := .data }], guard := none }) (v := ?v10_9) hG hsel (by kernel_rfl) (by kernel_rfl) (by kernel_rfl) (by kernel_rfl) (fun _ _ _ h => h) (Or.inl (And.intro (by kernel_rfl) ?q10_9)) hS0 ?r10_9
    case q10_9 => intro w hx; refine run_env [58] [?a10_9_58] (by kernel_rfl) (by kernel_rfl) (⟨?e10_9_58, trivial⟩) ?h10_9; (case e10_9_58 => ((conv => lhs; whnf); (try exact rfl))); (case h10_9 => ((try dsimp only); (try simp only [envL, lookV, if_true, if_false]); (try go_simp); (try with_reducible rfl)))
    (try simp only [Act.put, putS])
    refine rJ [6] ?_
    refine (AllReadyJ.cons rfl (fun K hK => ?_) AllReadyJ.nil)
    rw [if_pos (by kernel_rfl)]
    (try simp only [putG])
    (focus go_simp)
    (focus ((with_reducible refine (CA.out _ _ (qec_0 _ hS0)).mono ?_); rintro e wa ⟨rfl, ba⟩; have sq := bstep hS0 ba))
    (focus (try go_wp2_with fail))
    refine hK.out _ _ ?hs (fun hS0 => ?_)
    case hs => (first | with_reducible exact hS0 | with_reducible exact sq)
    clear hK K
    (try simp only [Act.put, putS])
    refine wpAnyJ_takeG (i := 7) (oi := { dst := some 56, op := .build 26 #[(0, .tmp 55)], type := 26, pos := "embeds.go:66", after := #[{ on := 6, ground := .data }], guard := none }) (v := ?v7_10) hG hsel (by kernel_rfl) (by kernel_rfl) (by kernel_rfl) (by kernel_rfl) (fun _ _ _ h => h) (Or.inl (And.intro (by kernel_rfl) ?q7_10)) hS0 ?r7_10
    case q7_10 => intro w hx; refine run_env [55] [?a7_10_55] (by kernel_rfl) (by kernel_rfl) (⟨?e7_10_55, trivial⟩) ?h7_10; (case e7_10_55 => ((conv => lhs; whnf); (try exact rfl))); (case h7_10 => ((try dsimp only); (try simp only [envL, lookV, if_true, if_false]); (try go_simp); (try with_reducible rfl)))
    (try simp only [Act.put, putS])
    refine rJ [11] ?_
    refine (AllReadyJ.cons rfl (fun K hK => ?_) AllReadyJ.nil)
    rw [if_pos (by kernel_rfl)]
    (try simp only [putG])
    (focus go_simp)
    (focus ((with_reducible refine (CB.out _ _ (qec_0 _ hS0)).mono ?_); rintro e wb ⟨rfl, bb2⟩; have sq := bstep hS0 bb2))
    (focus (try go_wp2_with fail))
    refine hK.out _ _ ?hs (fun hS0 => ?_)
    case hs => (first | with_reducible exact hS0 | with_reducible exact sq)
    clear hK K
    (try simp only [Act.put, putS])
    refine wpAnyJ_takeG (i := 12) (oi := { dst := some 61, op := .build 26 #[(0, .tmp 60)], type := 26, pos := "embeds.go:66", after := #[{ on := 11, ground := .data }], guard := none }) (v := ?v12_11) hG hsel (by kernel_rfl) (by kernel_rfl) (by kernel_rfl) (by kernel_rfl) (fun _ _ _ h => h) (Or.inl (And.intro (by kernel_rfl) ?q12_11)) hS0 ?r12_11
    case q12_11 => intro w hx; refine run_env [60] [?a12_11_60] (by kernel_rfl) (by kernel_rfl) (⟨?e12_11_60, trivial⟩) ?h12_11; (case e12_11_60 => ((conv => lhs; whnf); (try exact rfl))); (case h12_11 => ((try dsimp only); (try simp only [envL, lookV, if_true, if_false]); (try go_simp); (try with_reducible rfl)))
    (try simp only [Act.put, putS])
    refine wpAnyJ_takeG (i := 13) (oi := { dst := some 62, op := .build 33 #[(0, .tmp 51), (1, .tmp 56), (2, .tmp 61)], type := 33, pos := "embeds.go:66", after := #[{ on := 2, ground := .data }, { on := 7, ground := .data }, { on := 12, ground := .data }], guard := none }) (v := ?v13_12) hG hsel (by kernel_rfl) (by kernel_rfl) (by kernel_rfl) (by kernel_rfl) (fun _ _ _ h => h) (Or.inl (And.intro (by kernel_rfl) ?q13_12)) hS0 ?r13_12
    case q13_12 => intro w hx; refine run_env [51, 56, 61] [?a13_12_51, ?a13_12_56, ?a13_12_61] (by kernel_rfl) (by kernel_rfl) (⟨?e13_12_51, ?e13_12_56, ?e13_12_61, trivial⟩) ?h13_12; (case e13_12_51 => ((conv => lhs; whnf); (try exact rfl))); (case e13_12_56 => ((conv => lhs; whnf); (try exact rfl))); (case e13_12_61 => ((conv => lhs; whnf); (try exact rfl))); (case h13_12 => ((try dsimp only); (try simp only [envL, lookV, if_true, if_false]); (try go_simp); (try with_reducible rfl)))
    (try simp only [Act.put, putS])
    refine rJ [14] ?_
    refine (AllReadyJ.cons rfl (fun K hK => ?_) AllReadyJ.nil)
    rw [if_pos (by kernel_rfl)]
    (try simp only [putG])
    (focus go_simp)
    refine hK.out _ _ ?hs (fun hS0 => ?_)
    case hs => (first | with_reducible exact hS0 | with_reducible exact sq)
    clear hK K
    (try simp only [Act.put, putS])
    refine wpAnyJ_takeG (i := 15) (oi := { dst := some 64, op := .fieldAddr 79 (.tmp 63) 2, type := 0, pos := "embeds.go:66", after := #[{ on := 14, ground := .data }, { on := 0, ground := .phase }, { on := 1, ground := .phase }, { on := 2, ground := .phase }, { on := 3, ground := .phase }, { on := 4, ground := .phase }, { on := 5, ground := .phase }, { on := 6, ground := .phase }, { on := 7, ground := .phase }, { on := 8, ground := .phase }, { on := 9, ground := .phase }, { on := 10, ground := .phase }, { on := 11, ground := .phase }, { on := 12, ground := .phase }, { on := 13, ground := .phase }], guard := none }) (v := ?v15_13) hG hsel (by kernel_rfl) (by kernel_rfl) (by kernel_rfl) (by kernel_rfl) (fun _ _ _ h => h) (Or.inl (And.intro (by kernel_rfl) ?q15_13)) hS0 ?r15_13
    case q15_13 => intro w hx; refine run_env [63] [?a15_13_63] (by kernel_rfl) (by kernel_rfl) (⟨?e15_13_63, trivial⟩) ?h15_13; (case e15_13_63 => ((conv => lhs; whnf); (try exact rfl))); (case h15_13 => ((try dsimp only); (try simp only [envL, lookV, if_true, if_false]); (try go_simp); (try with_reducible rfl)))
    (try simp only [Act.put, putS])
    refine rJ [16] ?_
    refine (AllReadyJ.last rfl (by kernel_rfl) (fun K hK => ?_) AllReadyJ.nil)
    (focus (rw [if_pos (by kernel_rfl)]; have kc := Cells.below hS0 EC.out; have y2 := kc.at_ 2; have y3 := kc.at_ 3; have y4 := kc.at_ 4; have y5 := kc.at_ 5; have y6 := kc.at_ 6; have f2 := kc.free 2; have f3 := kc.free 3; have f4 := kc.free 4; have f5 := kc.free 5; have f6 := kc.free 6; clear kc; go_simp))
    (focus (try go_wp2_with fail))
    refine hK.out _ _ ?_
    clear hK K
    (try simp only [Act.put, putS])
    refine wpAnyJ_done (by kernel_rfl) ?_ _
  have em : Em (((((wb.setCell ⟨w.heap.size, 2, none⟩ (.int .u8 p)).setCell ⟨w.heap.size, 3, none⟩ (.int .u32 va)).setCell ⟨w.heap.size, 4, none⟩ (.int .u16 0)).setCell ⟨w.heap.size, 5, none⟩ (.int .u32 vb)).setCell ⟨w.heap.size, 6, none⟩ (.int .u16 0)) w.heap.size s k ⟨p, va, 0, vb, 0⟩ false := Cells.like (Cells.set_ (Cells.set_ (Cells.set_ (Cells.set_ (Cells.set_ (Cells.below hS0 EC.out) 2 (.int .u8 p)) 3 (.int .u32 va)) 4 (.int .u16 0)) 5 (.int .u32 vb)) 6 (.int .u16 0)) (by simp [emCells])
  have lw : Below w.heap.size w (((((wb.setCell ⟨w.heap.size, 2, none⟩ (.int .u8 p)).setCell ⟨w.heap.size, 3, none⟩ (.int .u32 va)).setCell ⟨w.heap.size, 4, none⟩ (.int .u16 0)).setCell ⟨w.heap.size, 5, none⟩ (.int .u32 vb)).setCell ⟨w.heap.size, 6, none⟩ (.int .u16 0)) := Below.setCell (Below.setCell (Below.setCell (Below.setCell (Below.setCell (bstep EB.out hS0) (Nat.le_refl _) _) (Nat.le_refl _) _) (Nat.le_refl _) _) (Nat.le_refl _) _) (Nat.le_refl _) _
  have EM := hide em; have LW := hide lw
  clear em lw s7 sq ba bb2 b6' hS0 qec_0 qec_1 qec_2 qec_3 qec_4 qec_5 qec_6 qec_7 EC EB CA CB CW
  generalize (((((wb.setCell ⟨w.heap.size, 2, none⟩ (.int .u8 p)).setCell ⟨w.heap.size, 3, none⟩ (.int .u32 va)).setCell ⟨w.heap.size, 4, none⟩ (.int .u16 0)).setCell ⟨w.heap.size, 5, none⟩ (.int .u32 vb)).setCell ⟨w.heap.size, 6, none⟩ (.int .u16 0)) = w8 at *
  have hp := HP.out
  have p6 : (p == 6) = false := by simpa using hp.1
  have p17 : (p == 17) = false := by simpa using hp.2.1
  have p1 : (p == 1) = false := by simpa using hp.2.2
  have kc := EM.out
  have y2 : w8.cell? ⟨w.heap.size, 2, none⟩ = some (.int .u8 p) := kc.at_ 2
  clear kc hp
  go_wp2_with fail
  go_ret2
  exact ⟨rfl, LW.out⟩
set_option maxRecDepth 100000 in
set_option maxHeartbeats 8000000 in
theorem e_open_flow6 (w : World) (s : ByteArray) (hs : s.size ≤ 140737488351232) (h20 : 20 ≤ s.size) (hv : at_ (L s) 0 / 16 = 4) (g1 : ¬ emEnd (L s) < 20) (g2 : ¬ (s.size : Int) - 8 < emEnd (L s)) (g3 : be16 (L s) 6 % 8192 = 0) (hp : at_ (L s) 9 = 6) :
    Calls Tryz.prog 56 #[.string s] w (fun en w' => ∃ B, en = .returned (.tuple #[.pointer (some ⟨B, 0, none⟩), .int .i64 0]) ∧ w.heap.size ≤ B ∧ Em w' B s (emAt (L s)) ⟨6, be32 (L s) 12, be16 (L s) (emAt (L s)), be32 (L s) 16, be16 (L s) (emAt (L s) + 2)⟩ false ∧ Below w.heap.size w w') := by
  obtain ⟨vs, hvs⟩ : ∃ vs, vs = be16 (L s) (emAt (L s)) := ⟨_, rfl⟩
  obtain ⟨vd, hvd⟩ : ∃ vd, vd = be16 (L s) (emAt (L s) + 2) := ⟨_, rfl⟩
  rw [← hvs, ← hvd]
  have hgg : ¬ ((emAt (L s) : Nat) : Int) < 20 ∧ ¬ (s.size : Int) - 8 < ((emAt (L s) : Nat) : Int) := by
    rw [show ((emAt (L s) : Nat) : Int) = emEnd (L s) from by unfold emAt; have := at_bd (L s) 0; unfold emEnd; omega]
    exact ⟨g1, g2⟩
  obtain ⟨f1, f2⟩ := hgg
  clear g1 g2
  have cA := fun W B (hc : W.cell? ⟨B, 0, none⟩ = some (.string s)) => e_addr W B s 12 hc hs ⟨by omega, by omega⟩
  have cB := fun W B (hc : W.cell? ⟨B, 0, none⟩ = some (.string s)) => e_addr W B s 16 hc hs ⟨by omega, by omega⟩
  rw [show get32 (L s) 12 = be32 (L s) 12 from get32_nat (k := 12) (by rw [L_length]; omega)] at cA
  rw [show get32 (L s) 16 = be32 (L s) 16 from get32_nat (k := 16) (by rw [L_length]; omega)] at cB
  have k9 : 9 < s.size := by omega
  have e9 : (((s[9]'k9).toNat : Nat) : Int) = at_ (L s) 9 := by rw [getElem_L s 9 (by omega)]; rfl
  have j9 : (9 : Int) < (s.size : Int) := by omega
  generalize be32 (L s) 12 = va at *
  generalize be32 (L s) 16 = vb at *
  generalize at_ (L s) 9 = p at *
  have HP := hide hp
  clear hp
  have CA := hide cA; have CB := hide cB
  clear cA cB
  have hsz : (s.size : Int) ≤ 140737488351232 := by omega
  have q2 : ¬ (s.size : Int) < 20 := by omega
  have i5 : 0 < s.size := by omega
  have e0 : (((s[0]'i5).toNat : Nat) : Int) = at_ (L s) 0 := by rw [getElem_L s 0 (by omega)]; rfl
  have hb := at_bd (L s) 0
  have i4 : (0 : Int) < (s.size : Int) := by omega
  have hkz : ((emAt (L s) : Nat) : Int) = at_ (L s) 0 % 16 * 4 := by unfold emAt emEnd; omega
  have cw := fun W B (hc : W.cell? ⟨B, 0, none⟩ = some (.string s)) => e_two W B s 6 hc hs ⟨by omega, by omega⟩
  rw [show get16 (L s) 6 = be16 (L s) 6 from get16_nat (k := 6) (by rw [L_length]; omega)] at cw
  have hv16 := be16_bd (L s) 6
  generalize be16 (L s) 6 = v at *
  obtain ⟨k, hk⟩ : ∃ k, k = emAt (L s) := ⟨_, rfl⟩
  rw [← hk] at hkz f1 f2 
  obtain ⟨x, hx⟩ : ∃ x, x = at_ (L s) 0 := ⟨_, rfl⟩
  rw [← hx] at e0 hb hv hkz
  have m1 : (x / 16 != 4) = false := by simpa using hv
  have m2 : (x / 16 == 4) = true := by simpa using hv
  obtain ⟨y, hy⟩ : ∃ y, y = x % 16 := ⟨_, rfl⟩
  have hand : bits .and .u8 x 15 = y := by rw [u8_and15 x hb.1 (by omega), hy]
  rw [← hy] at hkz
  have hyb : 0 ≤ y ∧ y ≤ 15 := by omega
  have wy : IntKind.i64.wrap y = y := IntWalk.i64_in _ (by omega)
  have wz : IntKind.i64.wrap (y * 4) = (k : Int) := by rw [IntWalk.i64_in _ (by omega), hkz]
  obtain ⟨l8, hl8⟩ : ∃ l8 : Int, l8 = (s.size : Int) - 8 := ⟨_, rfl⟩
  have w8 : IntKind.i64.wrap ((s.size : Int) - 8) = l8 := by rw [IntWalk.i64_in _ (by omega), hl8]
  obtain ⟨r, hr⟩ : ∃ r, r = v % 8192 := ⟨_, rfl⟩
  have hand2 : bits .and .u16 v 8191 = r := by rw [em_and13 hv16.1 (by omega), hr]
  have hkb : k ≤ 60 := by omega
  have CW := hide cw
  clear cw
  have F2 := hide f2
  rw [← hl8] at f2
  rw [← hr] at g3
  have HK := hide hk
  clear hx hy hkz hk hb hv hyb hl8 hr hv16 h20
  go_enter Tryz.func56, Tryz.ntmps56
  have d0 := Cells.new w #[.string s, .int .i64 0, .int .u8 0, .int .u32 0, .int .u16 0, .int .u32 0, .int .u16 0, .bool false] 79
  have bn := fresh_below w (.cells #[.string s, .int .i64 0, .int .u8 0, .int .u32 0, .int .u16 0, .int .u32 0, .int .u16 0, .bool false] 79)
  have z0 := d0.at_ 1; have zf := d0.free 1
  have D0 := hide d0; have BN := hide bn
  clear d0 bn
  go_upto_region 5 with fail
  have ec := Cells.new w #[.string s, .int .i64 (k : Int), .int .u8 0, .int .u32 0, .int .u16 0, .int .u32 0, .int .u16 0, .bool false] 79
  have eb := fresh_below w (.cells #[.string s, .int .i64 (k : Int), .int .u8 0, .int .u32 0, .int .u16 0, .int .u32 0, .int .u16 0, .bool false] 79)
  clear z0 zf D0 BN q2 m1 m2 hand wy wz
  generalize (w.alloc (.cells #[.string s, .int .i64 (k : Int), .int .u8 0, .int .u32 0, .int .u16 0, .int .u32 0, .int .u16 0, .bool false] 79)) = w5 at *
  have EC := hide ec; have EB := hide eb
  clear eb
  obtain ⟨qec_0, qec_1, qec_2, qec_3, qec_4, qec_5, qec_6, qec_7⟩ := ec.q8
  have bb : Below w5.heap.size w5 w5 := Below.refl _ _
  clear ec
  have h4 : (r != 0) = false := by rw [g3]; rfl
  go_upto_region 7 with (go_at_call 64; (with_reducible refine (CW.out _ _ (qec_0 _ (by assumption))).mono ?_); rintro e w6 ⟨rfl, b6⟩; have b6' := bstep (by assumption : Below w5.heap.size w5 _) b6; clear b6)
  clear h4 hand2 f1 f2 w8
  have s7 : Below w5.heap.size w5 w6.drew := Below.drew b6'
  clear bb
  focus
    refine wp_region_JG [16] (fun W => Below w5.heap.size w5 W) (by kernel_rfl) (by kernel_rfl) (s7) (fun hG hsel hS0 => ?_)
    refine wpAnyJ_takeG (i := 0) (oi := { dst := some 49, op := .move (.tmp 4), type := 73, pos := "embeds.go:66", after := #[], guard := none }) (v := ?v0_14) hG hsel (by kernel_rfl) (by kernel_rfl) (by kernel_rfl) (by kernel_rfl) (fun _ _ _ h => h) (Or.inl (And.intro (by kernel_rfl) ?q0_14)) hS0 ?r0_14
    case q0_14 => intro w hx; refine run_env [4] [?a0_14_4] (by kernel_rfl) (by kernel_rfl) (⟨?e0_14_4, trivial⟩) ?h0_14; (case e0_14_4 => ((conv => lhs; whnf); (try exact rfl))); (case h0_14 => ((try dsimp only); (try simp only [envL, lookV, if_true, if_false]); (try go_simp); (try with_reducible rfl)))
    (try simp only [Act.put, putS])
    refine wpAnyJ_takeG (i := 1) (oi := { dst := some 50, op := .move (.tmp 0), type := 9, pos := "embeds.go:66", after := #[], guard := none }) (v := ?v1_15) hG hsel (by kernel_rfl) (by kernel_rfl) (by kernel_rfl) (by kernel_rfl) (fun _ _ _ h => h) (Or.inl (And.intro (by kernel_rfl) ?q1_15)) hS0 ?r1_15
    case q1_15 => intro w hx; refine run_env [0] [?a1_15_0] (by kernel_rfl) (by kernel_rfl) (⟨?e1_15_0, trivial⟩) ?h1_15; (case e1_15_0 => ((conv => lhs; whnf); (try exact rfl))); (case h1_15 => ((try dsimp only); (try simp only [envL, lookV, if_true, if_false]); (try go_simp); (try with_reducible rfl)))
    (try simp only [Act.put, putS])
    refine wpAnyJ_takeG (i := 2) (oi := { dst := some 51, op := .index 9 (.tmp 50) (.const (Go.Value.int Go.IntKind.i64 9)), type := 5, pos := "embeds.go:66", after := #[{ on := 1, ground := .data }], guard := none }) (v := ?v2_16) hG hsel (by kernel_rfl) (by kernel_rfl) (by kernel_rfl) (by kernel_rfl) (fun _ _ _ h => h) (Or.inl (And.intro (by kernel_rfl) ?q2_16)) hS0 ?r2_16
    case q2_16 => intro w hx; refine run_env [50] [?a2_16_50] (by kernel_rfl) (by kernel_rfl) (⟨?e2_16_50, trivial⟩) ?h2_16; (case e2_16_50 => ((conv => lhs; whnf); (try exact rfl))); (case h2_16 => ((try dsimp only); (try simp only [envL, lookV, if_true, if_false]); (try go_simp); (try with_reducible rfl)))
    (try simp only [Act.put, putS])
    refine wpAnyJ_takeG (i := 3) (oi := { dst := some 52, op := .move (.tmp 4), type := 73, pos := "embeds.go:66", after := #[], guard := none }) (v := ?v3_17) hG hsel (by kernel_rfl) (by kernel_rfl) (by kernel_rfl) (by kernel_rfl) (fun _ _ _ h => h) (Or.inl (And.intro (by kernel_rfl) ?q3_17)) hS0 ?r3_17
    case q3_17 => intro w hx; refine run_env [4] [?a3_17_4] (by kernel_rfl) (by kernel_rfl) (⟨?e3_17_4, trivial⟩) ?h3_17; (case e3_17_4 => ((conv => lhs; whnf); (try exact rfl))); (case h3_17 => ((try dsimp only); (try simp only [envL, lookV, if_true, if_false]); (try go_simp); (try with_reducible rfl)))
    (try simp only [Act.put, putS])
    refine wpAnyJ_takeG (i := 4) (oi := { dst := some 53, op := .nilCheck (.tmp 52), type := 0, pos := "embeds.go:66", after := #[{ on := 3, ground := .data }], guard := none }) (v := ?v4_18) hG hsel (by kernel_rfl) (by kernel_rfl) (by kernel_rfl) (by kernel_rfl) (fun _ _ _ h => h) (Or.inl (And.intro (by kernel_rfl) ?q4_18)) hS0 ?r4_18
    case q4_18 => intro w hx; refine run_env [52] [?a4_18_52] (by kernel_rfl) (by kernel_rfl) (⟨?e4_18_52, trivial⟩) ?h4_18; (case e4_18_52 => ((conv => lhs; whnf); (try exact rfl))); (case h4_18 => ((try dsimp only); (try simp only [envL, lookV, if_true, if_false]); (try go_simp); (try with_reducible rfl)))
    (try simp only [Act.put, putS])
    refine wpAnyJ_takeG (i := 5) (oi := { dst := some 54, op := .fieldAddr 79 (.tmp 53) 0, type := 0, pos := "embeds.go:66", after := #[{ on := 4, ground := .data }], guard := none }) (v := ?v5_19) hG hsel (by kernel_rfl) (by kernel_rfl) (by kernel_rfl) (by kernel_rfl) (fun _ _ _ h => h) (Or.inl (And.intro (by kernel_rfl) ?q5_19)) hS0 ?r5_19
    case q5_19 => intro w hx; refine run_env [53] [?a5_19_53] (by kernel_rfl) (by kernel_rfl) (⟨?e5_19_53, trivial⟩) ?h5_19; (case e5_19_53 => ((conv => lhs; whnf); (try exact rfl))); (case h5_19 => ((try dsimp only); (try simp only [envL, lookV, if_true, if_false]); (try go_simp); (try with_reducible rfl)))
    (try simp only [Act.put, putS])
    refine wpAnyJ_takeG (i := 8) (oi := { dst := some 57, op := .move (.tmp 4), type := 73, pos := "embeds.go:66", after := #[], guard := none }) (v := ?v8_20) hG hsel (by kernel_rfl) (by kernel_rfl) (by kernel_rfl) (by kernel_rfl) (fun _ _ _ h => h) (Or.inl (And.intro (by kernel_rfl) ?q8_20)) hS0 ?r8_20
    case q8_20 => intro w hx; refine run_env [4] [?a8_20_4] (by kernel_rfl) (by kernel_rfl) (⟨?e8_20_4, trivial⟩) ?h8_20; (case e8_20_4 => ((conv => lhs; whnf); (try exact rfl))); (case h8_20 => ((try dsimp only); (try simp only [envL, lookV, if_true, if_false]); (try go_simp); (try with_reducible rfl)))
    (try simp only [Act.put, putS])
    refine wpAnyJ_takeG (i := 9) (oi := { dst := some 58, op := .nilCheck (.tmp 57), type := 0, pos := "embeds.go:66", after := #[{ on := 8, ground := .data }], guard := none }) (v := ?v9_21) hG hsel (by kernel_rfl) (by kernel_rfl) (by kernel_rfl) (by kernel_rfl) (fun _ _ _ h => h) (Or.inl (And.intro (by kernel_rfl) ?q9_21)) hS0 ?r9_21
    case q9_21 => intro w hx; refine run_env [57] [?a9_21_57] (by kernel_rfl) (by kernel_rfl) (⟨?e9_21_57, trivial⟩) ?h9_21; (case e9_21_57 => ((conv => lhs; whnf); (try exact rfl))); (case h9_21 => ((try dsimp only); (try simp only [envL, lookV, if_true, if_false]); (try go_simp); (try with_reducible rfl)))
    (try simp only [Act.put, putS])
    refine wpAnyJ_takeG (i := 10) (oi := { dst := some 59, op := .fieldAddr 79 (.tmp 58) 0, type := 0, pos := "embeds.go:66", after := #[{ on := 9, ground := .data }], guard := none }) (v := ?v10_22) hG hsel (by kernel_rfl) (by kernel_rfl) (by kernel_rfl) (by kernel_rfl) (fun _ _ _ h => h) (Or.inl (And.intro (by kernel_rfl) ?q10_22)) hS0 ?r10_22
    case q10_22 => intro w hx; refine run_env [58] [?a10_22_58] (by kernel_rfl) (by kernel_rfl) (⟨?e10_22_58, trivial⟩) ?h10_22; (case e10_22_58 => ((conv => lhs; whnf); (try exact rfl))); (case h10_22 => ((try dsimp only); (try simp only [envL, lookV, if_true, if_false]); (try go_simp); (try with_reducible rfl)))
    (try simp only [Act.put, putS])
    refine rJ [6] ?_
    refine (AllReadyJ.cons rfl (fun K hK => ?_) AllReadyJ.nil)
    rw [if_pos (by kernel_rfl)]
    (try simp only [putG])
    (focus go_simp)
    (focus ((with_reducible refine (CA.out _ _ (qec_0 _ hS0)).mono ?_); rintro e wa ⟨rfl, ba⟩; have sq := bstep hS0 ba))
    (focus (try go_wp2_with fail))
    refine hK.out _ _ ?hs (fun hS0 => ?_)
    case hs => (first | with_reducible exact hS0 | with_reducible exact sq)
    clear hK K
    (try simp only [Act.put, putS])
    refine wpAnyJ_takeG (i := 7) (oi := { dst := some 56, op := .build 26 #[(0, .tmp 55)], type := 26, pos := "embeds.go:66", after := #[{ on := 6, ground := .data }], guard := none }) (v := ?v7_23) hG hsel (by kernel_rfl) (by kernel_rfl) (by kernel_rfl) (by kernel_rfl) (fun _ _ _ h => h) (Or.inl (And.intro (by kernel_rfl) ?q7_23)) hS0 ?r7_23
    case q7_23 => intro w hx; refine run_env [55] [?a7_23_55] (by kernel_rfl) (by kernel_rfl) (⟨?e7_23_55, trivial⟩) ?h7_23; (case e7_23_55 => ((conv => lhs; whnf); (try exact rfl))); (case h7_23 => ((try dsimp only); (try simp only [envL, lookV, if_true, if_false]); (try go_simp); (try with_reducible rfl)))
    (try simp only [Act.put, putS])
    refine rJ [11] ?_
    refine (AllReadyJ.cons rfl (fun K hK => ?_) AllReadyJ.nil)
    rw [if_pos (by kernel_rfl)]
    (try simp only [putG])
    (focus go_simp)
    (focus ((with_reducible refine (CB.out _ _ (qec_0 _ hS0)).mono ?_); rintro e wb ⟨rfl, bb2⟩; have sq := bstep hS0 bb2))
    (focus (try go_wp2_with fail))
    refine hK.out _ _ ?hs (fun hS0 => ?_)
    case hs => (first | with_reducible exact hS0 | with_reducible exact sq)
    clear hK K
    (try simp only [Act.put, putS])
    refine wpAnyJ_takeG (i := 12) (oi := { dst := some 61, op := .build 26 #[(0, .tmp 60)], type := 26, pos := "embeds.go:66", after := #[{ on := 11, ground := .data }], guard := none }) (v := ?v12_24) hG hsel (by kernel_rfl) (by kernel_rfl) (by kernel_rfl) (by kernel_rfl) (fun _ _ _ h => h) (Or.inl (And.intro (by kernel_rfl) ?q12_24)) hS0 ?r12_24
    case q12_24 => intro w hx; refine run_env [60] [?a12_24_60] (by kernel_rfl) (by kernel_rfl) (⟨?e12_24_60, trivial⟩) ?h12_24; (case e12_24_60 => ((conv => lhs; whnf); (try exact rfl))); (case h12_24 => ((try dsimp only); (try simp only [envL, lookV, if_true, if_false]); (try go_simp); (try with_reducible rfl)))
    (try simp only [Act.put, putS])
    refine wpAnyJ_takeG (i := 13) (oi := { dst := some 62, op := .build 33 #[(0, .tmp 51), (1, .tmp 56), (2, .tmp 61)], type := 33, pos := "embeds.go:66", after := #[{ on := 2, ground := .data }, { on := 7, ground := .data }, { on := 12, ground := .data }], guard := none }) (v := ?v13_25) hG hsel (by kernel_rfl) (by kernel_rfl) (by kernel_rfl) (by kernel_rfl) (fun _ _ _ h => h) (Or.inl (And.intro (by kernel_rfl) ?q13_25)) hS0 ?r13_25
    case q13_25 => intro w hx; refine run_env [51, 56, 61] [?a13_25_51, ?a13_25_56, ?a13_25_61] (by kernel_rfl) (by kernel_rfl) (⟨?e13_25_51, ?e13_25_56, ?e13_25_61, trivial⟩) ?h13_25; (case e13_25_51 => ((conv => lhs; whnf); (try exact rfl))); (case e13_25_56 => ((conv => lhs; whnf); (try exact rfl))); (case e13_25_61 => ((conv => lhs; whnf); (try exact rfl))); (case h13_25 => ((try dsimp only); (try simp only [envL, lookV, if_true, if_false]); (try go_simp); (try with_reducible rfl)))
    (try simp only [Act.put, putS])
    refine rJ [14] ?_
    refine (AllReadyJ.cons rfl (fun K hK => ?_) AllReadyJ.nil)
    rw [if_pos (by kernel_rfl)]
    (try simp only [putG])
    (focus go_simp)
    refine hK.out _ _ ?hs (fun hS0 => ?_)
    case hs => (first | with_reducible exact hS0 | with_reducible exact sq)
    clear hK K
    (try simp only [Act.put, putS])
    refine wpAnyJ_takeG (i := 15) (oi := { dst := some 64, op := .fieldAddr 79 (.tmp 63) 2, type := 0, pos := "embeds.go:66", after := #[{ on := 14, ground := .data }, { on := 0, ground := .phase }, { on := 1, ground := .phase }, { on := 2, ground := .phase }, { on := 3, ground := .phase }, { on := 4, ground := .phase }, { on := 5, ground := .phase }, { on := 6, ground := .phase }, { on := 7, ground := .phase }, { on := 8, ground := .phase }, { on := 9, ground := .phase }, { on := 10, ground := .phase }, { on := 11, ground := .phase }, { on := 12, ground := .phase }, { on := 13, ground := .phase }], guard := none }) (v := ?v15_26) hG hsel (by kernel_rfl) (by kernel_rfl) (by kernel_rfl) (by kernel_rfl) (fun _ _ _ h => h) (Or.inl (And.intro (by kernel_rfl) ?q15_26)) hS0 ?r15_26
    case q15_26 => intro w hx; refine run_env [63] [?a15_26_63] (by kernel_rfl) (by kernel_rfl) (⟨?e15_26_63, trivial⟩) ?h15_26; (case e15_26_63 => ((conv => lhs; whnf); (try exact rfl))); (case h15_26 => ((try dsimp only); (try simp only [envL, lookV, if_true, if_false]); (try go_simp); (try with_reducible rfl)))
    (try simp only [Act.put, putS])
    refine rJ [16] ?_
    refine (AllReadyJ.last rfl (by kernel_rfl) (fun K hK => ?_) AllReadyJ.nil)
    (focus (rw [if_pos (by kernel_rfl)]; have kc := Cells.below hS0 EC.out; have y2 := kc.at_ 2; have y3 := kc.at_ 3; have y4 := kc.at_ 4; have y5 := kc.at_ 5; have y6 := kc.at_ 6; have f2 := kc.free 2; have f3 := kc.free 3; have f4 := kc.free 4; have f5 := kc.free 5; have f6 := kc.free 6; clear kc; go_simp))
    (focus (try go_wp2_with fail))
    refine hK.out _ _ ?_
    clear hK K
    (try simp only [Act.put, putS])
    refine wpAnyJ_done (by kernel_rfl) ?_ _
  have em : Em (((((wb.setCell ⟨w.heap.size, 2, none⟩ (.int .u8 p)).setCell ⟨w.heap.size, 3, none⟩ (.int .u32 va)).setCell ⟨w.heap.size, 4, none⟩ (.int .u16 0)).setCell ⟨w.heap.size, 5, none⟩ (.int .u32 vb)).setCell ⟨w.heap.size, 6, none⟩ (.int .u16 0)) w.heap.size s k ⟨p, va, 0, vb, 0⟩ false := Cells.like (Cells.set_ (Cells.set_ (Cells.set_ (Cells.set_ (Cells.set_ (Cells.below hS0 EC.out) 2 (.int .u8 p)) 3 (.int .u32 va)) 4 (.int .u16 0)) 5 (.int .u32 vb)) 6 (.int .u16 0)) (by simp [emCells])
  have lw : Below w.heap.size w (((((wb.setCell ⟨w.heap.size, 2, none⟩ (.int .u8 p)).setCell ⟨w.heap.size, 3, none⟩ (.int .u32 va)).setCell ⟨w.heap.size, 4, none⟩ (.int .u16 0)).setCell ⟨w.heap.size, 5, none⟩ (.int .u32 vb)).setCell ⟨w.heap.size, 6, none⟩ (.int .u16 0)) := Below.setCell (Below.setCell (Below.setCell (Below.setCell (Below.setCell (bstep EB.out hS0) (Nat.le_refl _) _) (Nat.le_refl _) _) (Nat.le_refl _) _) (Nat.le_refl _) _) (Nat.le_refl _) _
  have EM := hide em; have LW := hide lw
  clear em lw s7 sq ba bb2 b6' hS0 qec_0 qec_1 qec_2 qec_3 qec_4 qec_5 qec_6 qec_7 EC EB CA CB CW
  generalize (((((wb.setCell ⟨w.heap.size, 2, none⟩ (.int .u8 p)).setCell ⟨w.heap.size, 3, none⟩ (.int .u32 va)).setCell ⟨w.heap.size, 4, none⟩ (.int .u16 0)).setCell ⟨w.heap.size, 5, none⟩ (.int .u32 vb)).setCell ⟨w.heap.size, 6, none⟩ (.int .u16 0)) = w8 at *
  have hk := HK.out
  obtain ⟨k2, hk2⟩ : ∃ k2 : Nat, k2 = k + 2 := ⟨_, rfl⟩
  have cS := fun W B (hc : W.cell? ⟨B, 0, none⟩ = some (.string s)) => e_two W B s (k : Int) hc hs ⟨by omega, by omega⟩
  have cD := fun W B (hc : W.cell? ⟨B, 0, none⟩ = some (.string s)) => e_two W B s (k2 : Int) hc hs ⟨by omega, by omega⟩
  rw [get16_nat (by rw [L_length]; have := F2.out; omega), hk, ← hvs, ← hk] at cS
  rw [get16_nat (by rw [L_length]; have := F2.out; omega), hk2, hk, ← hvd, ← hk, ← hk2] at cD
  have CS := hide cS; have CD := hide cD
  have hw2 : IntKind.i64.wrap ((k : Int) + 2) = (k2 : Int) := by rw [IntWalk.i64_in _ (by omega), hk2]; omega
  clear cS cD hvs hvd hs hk2 hkb
  clear hk
  have kc := EM.out
  have y2 : w8.cell? ⟨w.heap.size, 2, none⟩ = some (.int .u8 p) := kc.at_ 2
  clear kc
  have hp := HP.out
  subst hp
  go_upto_region 12 with fail
  clear y2
  have s12 : Below w8.heap.size w8 w8.drew := Below.drew (Below.refl _ _)
  have EMS := hide (fun W (h : ∃ b d, Em W w.heap.size s k ⟨6, va, b, vb, d⟩ false) => (show W.cell? ⟨w.heap.size, 0, none⟩ = some (.string s) by obtain ⟨b, d, k⟩ := h; exact k.at_ 0))
  have t12 : ∃ b d, Em w8.drew w.heap.size s k ⟨6, va, b, vb, d⟩ false := ⟨0, 0, Cells.drew EM.out⟩
  focus
    refine wp_region_JG [28] (fun W => ∃ b d, Em W w.heap.size s k ⟨6, va, b, vb, d⟩ false) (by kernel_rfl) (by kernel_rfl) (t12) (fun hG hsel hS0 => ?_)
    refine wpAnyJ_takeG (i := 0) (oi := { dst := some 73, op := .move (.tmp 4), type := 73, pos := "embeds.go:69", after := #[], guard := none }) (v := ?v0_27) hG hsel (by kernel_rfl) (by kernel_rfl) (by kernel_rfl) (by kernel_rfl) (fun _ _ _ h => h) (Or.inl (And.intro (by kernel_rfl) ?q0_27)) hS0 ?r0_27
    case q0_27 => intro wx hx; obtain ⟨b, d, kx⟩ := hx; have y1 : wx.cell? ⟨w.heap.size, 1, none⟩ = some (.int .i64 (k : Int)) := kx.at_ 1; refine run_env [4] [?a0_27_4] (by kernel_rfl) (by kernel_rfl) (⟨?e0_27_4, trivial⟩) ?h0_27; (case e0_27_4 => ((conv => lhs; whnf); (try exact rfl))); (case h0_27 => ((try dsimp only); (try simp only [envL, lookV, if_true, if_false]); (try go_simp); (try with_reducible rfl)))
    (try simp only [Act.put, putS])
    refine wpAnyJ_takeG (i := 1) (oi := { dst := some 74, op := .move (.tmp 4), type := 73, pos := "embeds.go:69", after := #[{ on := 23, ground := .gcOnly Go.Departure.lateStores }], guard := none }) (v := ?v1_28) hG hsel (by kernel_rfl) (by kernel_rfl) (by kernel_rfl) (by kernel_rfl) (fun _ _ _ h => h) (Or.inl (And.intro (by kernel_rfl) ?q1_28)) hS0 ?r1_28
    case q1_28 => intro wx hx; obtain ⟨b, d, kx⟩ := hx; have y1 : wx.cell? ⟨w.heap.size, 1, none⟩ = some (.int .i64 (k : Int)) := kx.at_ 1; refine run_env [4] [?a1_28_4] (by kernel_rfl) (by kernel_rfl) (⟨?e1_28_4, trivial⟩) ?h1_28; (case e1_28_4 => ((conv => lhs; whnf); (try exact rfl))); (case h1_28 => ((try dsimp only); (try simp only [envL, lookV, if_true, if_false]); (try go_simp); (try with_reducible rfl)))
    (try simp only [Act.put, putS])
    refine wpAnyJ_takeG (i := 2) (oi := { dst := some 75, op := .move (.tmp 4), type := 73, pos := "embeds.go:69", after := #[], guard := none }) (v := ?v2_29) hG hsel (by kernel_rfl) (by kernel_rfl) (by kernel_rfl) (by kernel_rfl) (fun _ _ _ h => h) (Or.inl (And.intro (by kernel_rfl) ?q2_29)) hS0 ?r2_29
    case q2_29 => intro wx hx; obtain ⟨b, d, kx⟩ := hx; have y1 : wx.cell? ⟨w.heap.size, 1, none⟩ = some (.int .i64 (k : Int)) := kx.at_ 1; refine run_env [4] [?a2_29_4] (by kernel_rfl) (by kernel_rfl) (⟨?e2_29_4, trivial⟩) ?h2_29; (case e2_29_4 => ((conv => lhs; whnf); (try exact rfl))); (case h2_29 => ((try dsimp only); (try simp only [envL, lookV, if_true, if_false]); (try go_simp); (try with_reducible rfl)))
    (try simp only [Act.put, putS])
    refine wpAnyJ_takeG (i := 3) (oi := { dst := some 76, op := .nilCheck (.tmp 75), type := 0, pos := "embeds.go:69", after := #[{ on := 2, ground := .data }], guard := none }) (v := ?v3_30) hG hsel (by kernel_rfl) (by kernel_rfl) (by kernel_rfl) (by kernel_rfl) (fun _ _ _ h => h) (Or.inl (And.intro (by kernel_rfl) ?q3_30)) hS0 ?r3_30
    case q3_30 => intro wx hx; obtain ⟨b, d, kx⟩ := hx; have y1 : wx.cell? ⟨w.heap.size, 1, none⟩ = some (.int .i64 (k : Int)) := kx.at_ 1; refine run_env [75] [?a3_30_75] (by kernel_rfl) (by kernel_rfl) (⟨?e3_30_75, trivial⟩) ?h3_30; (case e3_30_75 => ((conv => lhs; whnf); (try exact rfl))); (case h3_30 => ((try dsimp only); (try simp only [envL, lookV, if_true, if_false]); (try go_simp); (try with_reducible rfl)))
    (try simp only [Act.put, putS])
    refine wpAnyJ_takeG (i := 4) (oi := { dst := some 77, op := .fieldAddr 79 (.tmp 76) 0, type := 0, pos := "embeds.go:69", after := #[{ on := 3, ground := .data }], guard := none }) (v := ?v4_31) hG hsel (by kernel_rfl) (by kernel_rfl) (by kernel_rfl) (by kernel_rfl) (fun _ _ _ h => h) (Or.inl (And.intro (by kernel_rfl) ?q4_31)) hS0 ?r4_31
    case q4_31 => intro wx hx; obtain ⟨b, d, kx⟩ := hx; have y1 : wx.cell? ⟨w.heap.size, 1, none⟩ = some (.int .i64 (k : Int)) := kx.at_ 1; refine run_env [76] [?a4_31_76] (by kernel_rfl) (by kernel_rfl) (⟨?e4_31_76, trivial⟩) ?h4_31; (case e4_31_76 => ((conv => lhs; whnf); (try exact rfl))); (case h4_31 => ((try dsimp only); (try simp only [envL, lookV, if_true, if_false]); (try go_simp); (try with_reducible rfl)))
    (try simp only [Act.put, putS])
    refine wpAnyJ_takeG (i := 5) (oi := { dst := some 78, op := .move (.tmp 4), type := 73, pos := "embeds.go:69", after := #[], guard := none }) (v := ?v5_32) hG hsel (by kernel_rfl) (by kernel_rfl) (by kernel_rfl) (by kernel_rfl) (fun _ _ _ h => h) (Or.inl (And.intro (by kernel_rfl) ?q5_32)) hS0 ?r5_32
    case q5_32 => intro wx hx; obtain ⟨b, d, kx⟩ := hx; have y1 : wx.cell? ⟨w.heap.size, 1, none⟩ = some (.int .i64 (k : Int)) := kx.at_ 1; refine run_env [4] [?a5_32_4] (by kernel_rfl) (by kernel_rfl) (⟨?e5_32_4, trivial⟩) ?h5_32; (case e5_32_4 => ((conv => lhs; whnf); (try exact rfl))); (case h5_32 => ((try dsimp only); (try simp only [envL, lookV, if_true, if_false]); (try go_simp); (try with_reducible rfl)))
    (try simp only [Act.put, putS])
    refine wpAnyJ_takeG (i := 6) (oi := { dst := some 79, op := .nilCheck (.tmp 78), type := 0, pos := "embeds.go:69", after := #[{ on := 5, ground := .data }], guard := none }) (v := ?v6_33) hG hsel (by kernel_rfl) (by kernel_rfl) (by kernel_rfl) (by kernel_rfl) (fun _ _ _ h => h) (Or.inl (And.intro (by kernel_rfl) ?q6_33)) hS0 ?r6_33
    case q6_33 => intro wx hx; obtain ⟨b, d, kx⟩ := hx; have y1 : wx.cell? ⟨w.heap.size, 1, none⟩ = some (.int .i64 (k : Int)) := kx.at_ 1; refine run_env [78] [?a6_33_78] (by kernel_rfl) (by kernel_rfl) (⟨?e6_33_78, trivial⟩) ?h6_33; (case e6_33_78 => ((conv => lhs; whnf); (try exact rfl))); (case h6_33 => ((try dsimp only); (try simp only [envL, lookV, if_true, if_false]); (try go_simp); (try with_reducible rfl)))
    (try simp only [Act.put, putS])
    refine wpAnyJ_takeG (i := 7) (oi := { dst := some 80, op := .fieldAddr 79 (.tmp 79) 1, type := 0, pos := "embeds.go:69", after := #[{ on := 6, ground := .data }], guard := none }) (v := ?v7_34) hG hsel (by kernel_rfl) (by kernel_rfl) (by kernel_rfl) (by kernel_rfl) (fun _ _ _ h => h) (Or.inl (And.intro (by kernel_rfl) ?q7_34)) hS0 ?r7_34
    case q7_34 => intro wx hx; obtain ⟨b, d, kx⟩ := hx; have y1 : wx.cell? ⟨w.heap.size, 1, none⟩ = some (.int .i64 (k : Int)) := kx.at_ 1; refine run_env [79] [?a7_34_79] (by kernel_rfl) (by kernel_rfl) (⟨?e7_34_79, trivial⟩) ?h7_34; (case e7_34_79 => ((conv => lhs; whnf); (try exact rfl))); (case h7_34 => ((try dsimp only); (try simp only [envL, lookV, if_true, if_false]); (try go_simp); (try with_reducible rfl)))
    (try simp only [Act.put, putS])
    refine wpAnyJ_takeG (i := 8) (oi := { dst := some 81, op := .load 3 (.tmp 80), type := 3, pos := "embeds.go:69", after := #[{ on := 7, ground := .data }], guard := none }) (v := ?v8_35) hG hsel (by kernel_rfl) (by kernel_rfl) (by kernel_rfl) (by kernel_rfl) (fun _ _ _ h => h) (Or.inl (And.intro (by kernel_rfl) ?q8_35)) hS0 ?r8_35
    case q8_35 => intro wx hx; obtain ⟨b, d, kx⟩ := hx; have y1 : wx.cell? ⟨w.heap.size, 1, none⟩ = some (.int .i64 (k : Int)) := kx.at_ 1; refine run_env [80] [?a8_35_80] (by kernel_rfl) (by kernel_rfl) (⟨?e8_35_80, trivial⟩) ?h8_35; (case e8_35_80 => ((conv => lhs; whnf); (try exact rfl))); (case h8_35 => ((try dsimp only); (try simp only [envL, lookV, if_true, if_false]); (try go_simp); (try with_reducible rfl)))
    (try simp only [Act.put, putS])
    refine wpAnyJ_takeG (i := 10) (oi := { dst := some 83, op := .move (.tmp 4), type := 73, pos := "embeds.go:69", after := #[], guard := none }) (v := ?v10_36) hG hsel (by kernel_rfl) (by kernel_rfl) (by kernel_rfl) (by kernel_rfl) (fun _ _ _ h => h) (Or.inl (And.intro (by kernel_rfl) ?q10_36)) hS0 ?r10_36
    case q10_36 => intro wx hx; obtain ⟨b, d, kx⟩ := hx; have y1 : wx.cell? ⟨w.heap.size, 1, none⟩ = some (.int .i64 (k : Int)) := kx.at_ 1; refine run_env [4] [?a10_36_4] (by kernel_rfl) (by kernel_rfl) (⟨?e10_36_4, trivial⟩) ?h10_36; (case e10_36_4 => ((conv => lhs; whnf); (try exact rfl))); (case h10_36 => ((try dsimp only); (try simp only [envL, lookV, if_true, if_false]); (try go_simp); (try with_reducible rfl)))
    (try simp only [Act.put, putS])
    refine wpAnyJ_takeG (i := 11) (oi := { dst := some 84, op := .nilCheck (.tmp 83), type := 0, pos := "embeds.go:69", after := #[{ on := 10, ground := .data }], guard := none }) (v := ?v11_37) hG hsel (by kernel_rfl) (by kernel_rfl) (by kernel_rfl) (by kernel_rfl) (fun _ _ _ h => h) (Or.inl (And.intro (by kernel_rfl) ?q11_37)) hS0 ?r11_37
    case q11_37 => intro wx hx; obtain ⟨b, d, kx⟩ := hx; have y1 : wx.cell? ⟨w.heap.size, 1, none⟩ = some (.int .i64 (k : Int)) := kx.at_ 1; refine run_env [83] [?a11_37_83] (by kernel_rfl) (by kernel_rfl) (⟨?e11_37_83, trivial⟩) ?h11_37; (case e11_37_83 => ((conv => lhs; whnf); (try exact rfl))); (case h11_37 => ((try dsimp only); (try simp only [envL, lookV, if_true, if_false]); (try go_simp); (try with_reducible rfl)))
    (try simp only [Act.put, putS])
    refine wpAnyJ_takeG (i := 12) (oi := { dst := some 85, op := .fieldAddr 79 (.tmp 84) 0, type := 0, pos := "embeds.go:69", after := #[{ on := 11, ground := .data }], guard := none }) (v := ?v12_38) hG hsel (by kernel_rfl) (by kernel_rfl) (by kernel_rfl) (by kernel_rfl) (fun _ _ _ h => h) (Or.inl (And.intro (by kernel_rfl) ?q12_38)) hS0 ?r12_38
    case q12_38 => intro wx hx; obtain ⟨b, d, kx⟩ := hx; have y1 : wx.cell? ⟨w.heap.size, 1, none⟩ = some (.int .i64 (k : Int)) := kx.at_ 1; refine run_env [84] [?a12_38_84] (by kernel_rfl) (by kernel_rfl) (⟨?e12_38_84, trivial⟩) ?h12_38; (case e12_38_84 => ((conv => lhs; whnf); (try exact rfl))); (case h12_38 => ((try dsimp only); (try simp only [envL, lookV, if_true, if_false]); (try go_simp); (try with_reducible rfl)))
    (try simp only [Act.put, putS])
    refine wpAnyJ_takeG (i := 13) (oi := { dst := some 86, op := .move (.tmp 4), type := 73, pos := "embeds.go:69", after := #[], guard := none }) (v := ?v13_39) hG hsel (by kernel_rfl) (by kernel_rfl) (by kernel_rfl) (by kernel_rfl) (fun _ _ _ h => h) (Or.inl (And.intro (by kernel_rfl) ?q13_39)) hS0 ?r13_39
    case q13_39 => intro wx hx; obtain ⟨b, d, kx⟩ := hx; have y1 : wx.cell? ⟨w.heap.size, 1, none⟩ = some (.int .i64 (k : Int)) := kx.at_ 1; refine run_env [4] [?a13_39_4] (by kernel_rfl) (by kernel_rfl) (⟨?e13_39_4, trivial⟩) ?h13_39; (case e13_39_4 => ((conv => lhs; whnf); (try exact rfl))); (case h13_39 => ((try dsimp only); (try simp only [envL, lookV, if_true, if_false]); (try go_simp); (try with_reducible rfl)))
    (try simp only [Act.put, putS])
    refine wpAnyJ_takeG (i := 14) (oi := { dst := some 87, op := .nilCheck (.tmp 86), type := 0, pos := "embeds.go:69", after := #[{ on := 13, ground := .data }], guard := none }) (v := ?v14_40) hG hsel (by kernel_rfl) (by kernel_rfl) (by kernel_rfl) (by kernel_rfl) (fun _ _ _ h => h) (Or.inl (And.intro (by kernel_rfl) ?q14_40)) hS0 ?r14_40
    case q14_40 => intro wx hx; obtain ⟨b, d, kx⟩ := hx; have y1 : wx.cell? ⟨w.heap.size, 1, none⟩ = some (.int .i64 (k : Int)) := kx.at_ 1; refine run_env [86] [?a14_40_86] (by kernel_rfl) (by kernel_rfl) (⟨?e14_40_86, trivial⟩) ?h14_40; (case e14_40_86 => ((conv => lhs; whnf); (try exact rfl))); (case h14_40 => ((try dsimp only); (try simp only [envL, lookV, if_true, if_false]); (try go_simp); (try with_reducible rfl)))
    (try simp only [Act.put, putS])
    refine wpAnyJ_takeG (i := 15) (oi := { dst := some 88, op := .fieldAddr 79 (.tmp 87) 1, type := 0, pos := "embeds.go:69", after := #[{ on := 14, ground := .data }], guard := none }) (v := ?v15_41) hG hsel (by kernel_rfl) (by kernel_rfl) (by kernel_rfl) (by kernel_rfl) (fun _ _ _ h => h) (Or.inl (And.intro (by kernel_rfl) ?q15_41)) hS0 ?r15_41
    case q15_41 => intro wx hx; obtain ⟨b, d, kx⟩ := hx; have y1 : wx.cell? ⟨w.heap.size, 1, none⟩ = some (.int .i64 (k : Int)) := kx.at_ 1; refine run_env [87] [?a15_41_87] (by kernel_rfl) (by kernel_rfl) (⟨?e15_41_87, trivial⟩) ?h15_41; (case e15_41_87 => ((conv => lhs; whnf); (try exact rfl))); (case h15_41 => ((try dsimp only); (try simp only [envL, lookV, if_true, if_false]); (try go_simp); (try with_reducible rfl)))
    (try simp only [Act.put, putS])
    refine wpAnyJ_takeG (i := 16) (oi := { dst := some 89, op := .load 3 (.tmp 88), type := 3, pos := "embeds.go:69", after := #[{ on := 15, ground := .data }], guard := none }) (v := ?v16_42) hG hsel (by kernel_rfl) (by kernel_rfl) (by kernel_rfl) (by kernel_rfl) (fun _ _ _ h => h) (Or.inl (And.intro (by kernel_rfl) ?q16_42)) hS0 ?r16_42
    case q16_42 => intro wx hx; obtain ⟨b, d, kx⟩ := hx; have y1 : wx.cell? ⟨w.heap.size, 1, none⟩ = some (.int .i64 (k : Int)) := kx.at_ 1; refine run_env [88] [?a16_42_88] (by kernel_rfl) (by kernel_rfl) (⟨?e16_42_88, trivial⟩) ?h16_42; (case e16_42_88 => ((conv => lhs; whnf); (try exact rfl))); (case h16_42 => ((try dsimp only); (try simp only [envL, lookV, if_true, if_false]); (try go_simp); (try with_reducible rfl)))
    (try simp only [Act.put, putS])
    refine wpAnyJ_takeG (i := 17) (oi := { dst := some 90, op := .binOp Go.BinOp.add 3 (.tmp 89) (.const (Go.Value.int Go.IntKind.i64 2)) 3, type := 3, pos := "embeds.go:69", after := #[{ on := 16, ground := .data }], guard := none }) (v := ?v17_43) hG hsel (by kernel_rfl) (by kernel_rfl) (by kernel_rfl) (by kernel_rfl) (fun _ _ _ h => h) (Or.inl (And.intro (by kernel_rfl) ?q17_43)) hS0 ?r17_43
    case q17_43 => intro wx hx; obtain ⟨b, d, kx⟩ := hx; have y1 : wx.cell? ⟨w.heap.size, 1, none⟩ = some (.int .i64 (k : Int)) := kx.at_ 1; refine run_env [89] [?a17_43_89] (by kernel_rfl) (by kernel_rfl) (⟨?e17_43_89, trivial⟩) ?h17_43; (case e17_43_89 => ((conv => lhs; whnf); (try exact rfl))); (case h17_43 => ((try dsimp only); (try simp only [envL, lookV, if_true, if_false]); (try go_simp); (try with_reducible rfl)))
    (try simp only [Act.put, putS])
    refine rJ [9] ?_
    refine (AllReadyJ.cons rfl (fun K hK => ?_) AllReadyJ.nil)
    rw [if_pos (by kernel_rfl)]
    (try simp only [putG])
    (focus go_simp)
    (focus ((with_reducible refine (CS.out _ _ (EMS.out _ hS0)).mono ?_); rintro e wa ⟨rfl, ba⟩; have sq : ∃ b d, Em wa w.heap.size s k ⟨6, va, b, vb, d⟩ false := by obtain ⟨b, d, kc⟩ := hS0; exact ⟨b, d, Cells.below ba kc⟩))
    (focus (try go_wp2_with fail))
    refine hK.out _ _ ?hs (fun hS0 => ?_)
    case hs => (first | with_reducible exact hS0 | with_reducible exact sq | (obtain ⟨b, d, kc⟩ := hS0; exact ⟨vs, d, Cells.like (Cells.set_ kc 4 (.int .u16 vs)) (by simp [emCells])⟩))
    clear hK K
    (try simp only [Act.put, putS])
    refine rJ [18] ?_
    refine (AllReadyJ.cons rfl (fun K hK => ?_) AllReadyJ.nil)
    rw [if_pos (by kernel_rfl)]
    (try simp only [putG])
    (focus go_simp)
    (focus ((with_reducible refine (CD.out _ _ (EMS.out _ hS0)).mono ?_); rintro e wb ⟨rfl, bb⟩; have sq : ∃ b d, Em wb w.heap.size s k ⟨6, va, b, vb, d⟩ false := by obtain ⟨b, d, kc⟩ := hS0; exact ⟨b, d, Cells.below bb kc⟩))
    (focus (try go_wp2_with fail))
    refine hK.out _ _ ?hs (fun hS0 => ?_)
    case hs => (first | with_reducible exact hS0 | with_reducible exact sq | (obtain ⟨b, d, kc⟩ := hS0; exact ⟨vs, d, Cells.like (Cells.set_ kc 4 (.int .u16 vs)) (by simp [emCells])⟩))
    clear hK K
    (try simp only [Act.put, putS])
    refine wpAnyJ_takeG (i := 19) (oi := { dst := some 92, op := .nilCheck (.tmp 73), type := 0, pos := "embeds.go:69", after := #[{ on := 0, ground := .data }, { on := 0, ground := .phase }, { on := 1, ground := .textOnly Go.Departure.lateStores }, { on := 2, ground := .phase }, { on := 3, ground := .phase }, { on := 4, ground := .phase }, { on := 5, ground := .phase }, { on := 6, ground := .phase }, { on := 7, ground := .phase }, { on := 8, ground := .phase }, { on := 9, ground := .phase }, { on := 10, ground := .textOnly Go.Departure.lateStores }, { on := 11, ground := .textOnly Go.Departure.lateStoresUnsure }, { on := 12, ground := .textOnly Go.Departure.lateStoresUnsure }, { on := 13, ground := .textOnly Go.Departure.lateStores }, { on := 14, ground := .textOnly Go.Departure.lateStoresUnsure }, { on := 15, ground := .textOnly Go.Departure.lateStoresUnsure }, { on := 16, ground := .phase }, { on := 17, ground := .textOnly Go.Departure.lateStoresUnsure }, { on := 18, ground := .phase }], guard := none }) (v := ?v19_44) hG hsel (by kernel_rfl) (by kernel_rfl) (by kernel_rfl) (by kernel_rfl) (fun _ _ _ h => h) (Or.inl (And.intro (by kernel_rfl) ?q19_44)) hS0 ?r19_44
    case q19_44 => intro wx hx; obtain ⟨b, d, kx⟩ := hx; have y1 : wx.cell? ⟨w.heap.size, 1, none⟩ = some (.int .i64 (k : Int)) := kx.at_ 1; refine run_env [73] [?a19_44_73] (by kernel_rfl) (by kernel_rfl) (⟨?e19_44_73, trivial⟩) ?h19_44; (case e19_44_73 => ((conv => lhs; whnf); (try exact rfl))); (case h19_44 => ((try dsimp only); (try simp only [envL, lookV, if_true, if_false]); (try go_simp); (try with_reducible rfl)))
    (try simp only [Act.put, putS])
    refine wpAnyJ_takeG (i := 20) (oi := { dst := some 93, op := .fieldAddr 79 (.tmp 92) 2, type := 0, pos := "embeds.go:69", after := #[{ on := 19, ground := .data }, { on := 0, ground := .phase }, { on := 1, ground := .textOnly Go.Departure.lateStores }, { on := 2, ground := .phase }, { on := 3, ground := .phase }, { on := 4, ground := .phase }, { on := 5, ground := .phase }, { on := 6, ground := .phase }, { on := 7, ground := .phase }, { on := 8, ground := .phase }, { on := 9, ground := .phase }, { on := 10, ground := .textOnly Go.Departure.lateStores }, { on := 11, ground := .textOnly Go.Departure.lateStoresUnsure }, { on := 12, ground := .textOnly Go.Departure.lateStoresUnsure }, { on := 13, ground := .textOnly Go.Departure.lateStores }, { on := 14, ground := .textOnly Go.Departure.lateStoresUnsure }, { on := 15, ground := .textOnly Go.Departure.lateStoresUnsure }, { on := 16, ground := .phase }, { on := 17, ground := .textOnly Go.Departure.lateStoresUnsure }, { on := 18, ground := .phase }], guard := none }) (v := ?v20_45) hG hsel (by kernel_rfl) (by kernel_rfl) (by kernel_rfl) (by kernel_rfl) (fun _ _ _ h => h) (Or.inl (And.intro (by kernel_rfl) ?q20_45)) hS0 ?r20_45
    case q20_45 => intro wx hx; obtain ⟨b, d, kx⟩ := hx; have y1 : wx.cell? ⟨w.heap.size, 1, none⟩ = some (.int .i64 (k : Int)) := kx.at_ 1; refine run_env [92] [?a20_45_92] (by kernel_rfl) (by kernel_rfl) (⟨?e20_45_92, trivial⟩) ?h20_45; (case e20_45_92 => ((conv => lhs; whnf); (try exact rfl))); (case h20_45 => ((try dsimp only); (try simp only [envL, lookV, if_true, if_false]); (try go_simp); (try with_reducible rfl)))
    (try simp only [Act.put, putS])
    refine wpAnyJ_takeG (i := 21) (oi := { dst := some 94, op := .fieldAddr 33 (.tmp 93) 1, type := 0, pos := "embeds.go:69", after := #[{ on := 20, ground := .data }, { on := 0, ground := .phase }, { on := 1, ground := .textOnly Go.Departure.lateStores }, { on := 2, ground := .phase }, { on := 3, ground := .phase }, { on := 4, ground := .phase }, { on := 5, ground := .phase }, { on := 6, ground := .phase }, { on := 7, ground := .phase }, { on := 8, ground := .phase }, { on := 9, ground := .phase }, { on := 10, ground := .textOnly Go.Departure.lateStores }, { on := 11, ground := .textOnly Go.Departure.lateStoresUnsure }, { on := 12, ground := .textOnly Go.Departure.lateStoresUnsure }, { on := 13, ground := .textOnly Go.Departure.lateStores }, { on := 14, ground := .textOnly Go.Departure.lateStoresUnsure }, { on := 15, ground := .textOnly Go.Departure.lateStoresUnsure }, { on := 16, ground := .phase }, { on := 17, ground := .textOnly Go.Departure.lateStoresUnsure }, { on := 18, ground := .phase }], guard := none }) (v := ?v21_46) hG hsel (by kernel_rfl) (by kernel_rfl) (by kernel_rfl) (by kernel_rfl) (fun _ _ _ h => h) (Or.inl (And.intro (by kernel_rfl) ?q21_46)) hS0 ?r21_46
    case q21_46 => intro wx hx; obtain ⟨b, d, kx⟩ := hx; have y1 : wx.cell? ⟨w.heap.size, 1, none⟩ = some (.int .i64 (k : Int)) := kx.at_ 1; refine run_env [93] [?a21_46_93] (by kernel_rfl) (by kernel_rfl) (⟨?e21_46_93, trivial⟩) ?h21_46; (case e21_46_93 => ((conv => lhs; whnf); (try exact rfl))); (case h21_46 => ((try dsimp only); (try simp only [envL, lookV, if_true, if_false]); (try go_simp); (try with_reducible rfl)))
    (try simp only [Act.put, putS])
    refine wpAnyJ_takeG (i := 22) (oi := { dst := some 95, op := .fieldAddr 26 (.tmp 94) 1, type := 0, pos := "embeds.go:69", after := #[{ on := 21, ground := .data }, { on := 0, ground := .phase }, { on := 1, ground := .textOnly Go.Departure.lateStores }, { on := 2, ground := .phase }, { on := 3, ground := .phase }, { on := 4, ground := .phase }, { on := 5, ground := .phase }, { on := 6, ground := .phase }, { on := 7, ground := .phase }, { on := 8, ground := .phase }, { on := 9, ground := .phase }, { on := 10, ground := .textOnly Go.Departure.lateStores }, { on := 11, ground := .textOnly Go.Departure.lateStoresUnsure }, { on := 12, ground := .textOnly Go.Departure.lateStoresUnsure }, { on := 13, ground := .textOnly Go.Departure.lateStores }, { on := 14, ground := .textOnly Go.Departure.lateStoresUnsure }, { on := 15, ground := .textOnly Go.Departure.lateStoresUnsure }, { on := 16, ground := .phase }, { on := 17, ground := .textOnly Go.Departure.lateStoresUnsure }, { on := 18, ground := .phase }], guard := none }) (v := ?v22_47) hG hsel (by kernel_rfl) (by kernel_rfl) (by kernel_rfl) (by kernel_rfl) (fun _ _ _ h => h) (Or.inl (And.intro (by kernel_rfl) ?q22_47)) hS0 ?r22_47
    case q22_47 => intro wx hx; obtain ⟨b, d, kx⟩ := hx; have y1 : wx.cell? ⟨w.heap.size, 1, none⟩ = some (.int .i64 (k : Int)) := kx.at_ 1; refine run_env [94] [?a22_47_94] (by kernel_rfl) (by kernel_rfl) (⟨?e22_47_94, trivial⟩) ?h22_47; (case e22_47_94 => ((conv => lhs; whnf); (try exact rfl))); (case h22_47 => ((try dsimp only); (try simp only [envL, lookV, if_true, if_false]); (try go_simp); (try with_reducible rfl)))
    (try simp only [Act.put, putS])
    refine rJ [23] ?_
    refine (AllReadyJ.cons rfl (fun K hK => ?_) AllReadyJ.nil)
    (focus (rw [if_pos (by kernel_rfl)]; obtain ⟨b, d, kc⟩ := hS0; have y4 : World.cell? _ ⟨w.heap.size, 4, none⟩ = some (.int .u16 b) := kc.at_ 4; have f4 := kc.free 4; go_simp; have hS0 : ∃ b d, Em wb w.heap.size s k ⟨6, va, b, vb, d⟩ false := ⟨b, d, kc⟩; clear kc y4 f4))
    (focus (try go_wp2_with fail))
    refine hK.out _ _ ?hs (fun hS0 => ?_)
    case hs => (first | with_reducible exact hS0 | with_reducible exact sq | (obtain ⟨b, d, kc⟩ := hS0; exact ⟨vs, d, Cells.like (Cells.set_ kc 4 (.int .u16 vs)) (by simp [emCells])⟩))
    clear hK K
    (try simp only [Act.put, putS])
    refine rJ [24] ?_
    refine (AllReadyJ.cons rfl (fun K hK => ?_) AllReadyJ.nil)
    rw [if_pos (by kernel_rfl)]
    (try simp only [putG])
    (focus go_simp)
    refine hK.out _ _ ?hs (fun hS0 => ?_)
    case hs => (first | with_reducible exact hS0 | with_reducible exact sq | (obtain ⟨b, d, kc⟩ := hS0; exact ⟨vs, d, Cells.like (Cells.set_ kc 4 (.int .u16 vs)) (by simp [emCells])⟩))
    clear hK K
    (try simp only [Act.put, putS])
    refine rJ [25] ?_
    refine (AllReadyJ.cons rfl (fun K hK => ?_) AllReadyJ.nil)
    rw [if_pos (by kernel_rfl)]
    (try simp only [putG])
    (focus go_simp)
    refine hK.out _ _ ?hs (fun hS0 => ?_)
    case hs => (first | with_reducible exact hS0 | with_reducible exact sq | (obtain ⟨b, d, kc⟩ := hS0; exact ⟨vs, d, Cells.like (Cells.set_ kc 4 (.int .u16 vs)) (by simp [emCells])⟩))
    clear hK K
    (try simp only [Act.put, putS])
    refine rJ [26] ?_
    refine (AllReadyJ.cons rfl (fun K hK => ?_) AllReadyJ.nil)
    rw [if_pos (by kernel_rfl)]
    (try simp only [putG])
    (focus go_simp)
    refine hK.out _ _ ?hs (fun hS0 => ?_)
    case hs => (first | with_reducible exact hS0 | with_reducible exact sq | (obtain ⟨b, d, kc⟩ := hS0; exact ⟨vs, d, Cells.like (Cells.set_ kc 4 (.int .u16 vs)) (by simp [emCells])⟩))
    clear hK K
    (try simp only [Act.put, putS])
    refine wpAnyJ_takeG (i := 27) (oi := { dst := some 99, op := .fieldAddr 26 (.tmp 98) 1, type := 0, pos := "embeds.go:69", after := #[{ on := 26, ground := .data }, { on := 0, ground := .phase }, { on := 1, ground := .phase }, { on := 2, ground := .phase }, { on := 3, ground := .phase }, { on := 4, ground := .phase }, { on := 5, ground := .phase }, { on := 6, ground := .phase }, { on := 7, ground := .phase }, { on := 8, ground := .phase }, { on := 9, ground := .phase }, { on := 10, ground := .phase }, { on := 11, ground := .phase }, { on := 12, ground := .phase }, { on := 13, ground := .phase }, { on := 14, ground := .phase }, { on := 15, ground := .phase }, { on := 16, ground := .phase }, { on := 17, ground := .phase }, { on := 18, ground := .phase }, { on := 19, ground := .phase }, { on := 20, ground := .phase }, { on := 21, ground := .phase }, { on := 22, ground := .phase }, { on := 23, ground := .phase }], guard := none }) (v := ?v27_48) hG hsel (by kernel_rfl) (by kernel_rfl) (by kernel_rfl) (by kernel_rfl) (fun _ _ _ h => h) (Or.inl (And.intro (by kernel_rfl) ?q27_48)) hS0 ?r27_48
    case q27_48 => intro wx hx; obtain ⟨b, d, kx⟩ := hx; have y1 : wx.cell? ⟨w.heap.size, 1, none⟩ = some (.int .i64 (k : Int)) := kx.at_ 1; refine run_env [98] [?a27_48_98] (by kernel_rfl) (by kernel_rfl) (⟨?e27_48_98, trivial⟩) ?h27_48; (case e27_48_98 => ((conv => lhs; whnf); (try exact rfl))); (case h27_48 => ((try dsimp only); (try simp only [envL, lookV, if_true, if_false]); (try go_simp); (try with_reducible rfl)))
    (try simp only [Act.put, putS])
    refine rJ [28] ?_
    refine (AllReadyJ.last rfl (by kernel_rfl) (fun K hK => ?_) AllReadyJ.nil)
    (focus (rw [if_pos (by kernel_rfl)]; obtain ⟨b, d, kc⟩ := hS0; have y6 : World.cell? _ ⟨w.heap.size, 6, none⟩ = some (.int .u16 d) := kc.at_ 6; have f6 := kc.free 6; go_simp))
    (focus (try go_wp2_with fail))
    refine hK.out _ _ ?_
    clear hK K
    (try simp only [Act.put, putS])
    refine wpAnyJ_done (by kernel_rfl) ?_ _
  have bx : Below w8.heap.size w8 wb := bstep (bstep s12 ba) bb
  have ef : Em ((wb.setCell ⟨w.heap.size, 4, none⟩ (.int .u16 vs)).setCell ⟨w.heap.size, 6, none⟩ (.int .u16 vd)) w.heap.size s k ⟨6, va, vs, vb, vd⟩ false := Cells.like (Cells.set_ (Cells.set_ (Cells.below bx EM.out) 4 (.int .u16 vs)) 6 (.int .u16 vd)) (by simp [emCells])
  have lf : Below w.heap.size w ((wb.setCell ⟨w.heap.size, 4, none⟩ (.int .u16 vs)).setCell ⟨w.heap.size, 6, none⟩ (.int .u16 vd)) := Below.setCell (Below.setCell (bstep LW.out bx) (Nat.le_refl _) _) (Nat.le_refl _) _
  have EF := hide ef; have LF := hide lf
  clear ef lf bx sq hS0 s12 t12 EMS EM LW ba bb CS CD
  generalize ((wb.setCell ⟨w.heap.size, 4, none⟩ (.int .u16 vs)).setCell ⟨w.heap.size, 6, none⟩ (.int .u16 vd)) = wf at *
  go_wp2_with fail
  go_ret2
  exact ⟨_, rfl, Nat.le_refl _, by rw [← HK.out]; exact EF.out, LF.out⟩
set_option maxRecDepth 100000 in
set_option maxHeartbeats 8000000 in
theorem e_open_flow17 (w : World) (s : ByteArray) (hs : s.size ≤ 140737488351232) (h20 : 20 ≤ s.size) (hv : at_ (L s) 0 / 16 = 4) (g1 : ¬ emEnd (L s) < 20) (g2 : ¬ (s.size : Int) - 8 < emEnd (L s)) (g3 : be16 (L s) 6 % 8192 = 0) (hp : at_ (L s) 9 = 17) :
    Calls Tryz.prog 56 #[.string s] w (fun en w' => ∃ B, en = .returned (.tuple #[.pointer (some ⟨B, 0, none⟩), .int .i64 0]) ∧ w.heap.size ≤ B ∧ Em w' B s (emAt (L s)) ⟨17, be32 (L s) 12, be16 (L s) (emAt (L s)), be32 (L s) 16, be16 (L s) (emAt (L s) + 2)⟩ false ∧ Below w.heap.size w w') := by
  obtain ⟨vs, hvs⟩ : ∃ vs, vs = be16 (L s) (emAt (L s)) := ⟨_, rfl⟩
  obtain ⟨vd, hvd⟩ : ∃ vd, vd = be16 (L s) (emAt (L s) + 2) := ⟨_, rfl⟩
  rw [← hvs, ← hvd]
  have hgg : ¬ ((emAt (L s) : Nat) : Int) < 20 ∧ ¬ (s.size : Int) - 8 < ((emAt (L s) : Nat) : Int) := by
    rw [show ((emAt (L s) : Nat) : Int) = emEnd (L s) from by unfold emAt; have := at_bd (L s) 0; unfold emEnd; omega]
    exact ⟨g1, g2⟩
  obtain ⟨f1, f2⟩ := hgg
  clear g1 g2
  have cA := fun W B (hc : W.cell? ⟨B, 0, none⟩ = some (.string s)) => e_addr W B s 12 hc hs ⟨by omega, by omega⟩
  have cB := fun W B (hc : W.cell? ⟨B, 0, none⟩ = some (.string s)) => e_addr W B s 16 hc hs ⟨by omega, by omega⟩
  rw [show get32 (L s) 12 = be32 (L s) 12 from get32_nat (k := 12) (by rw [L_length]; omega)] at cA
  rw [show get32 (L s) 16 = be32 (L s) 16 from get32_nat (k := 16) (by rw [L_length]; omega)] at cB
  have k9 : 9 < s.size := by omega
  have e9 : (((s[9]'k9).toNat : Nat) : Int) = at_ (L s) 9 := by rw [getElem_L s 9 (by omega)]; rfl
  have j9 : (9 : Int) < (s.size : Int) := by omega
  generalize be32 (L s) 12 = va at *
  generalize be32 (L s) 16 = vb at *
  generalize at_ (L s) 9 = p at *
  have HP := hide hp
  clear hp
  have CA := hide cA; have CB := hide cB
  clear cA cB
  have hsz : (s.size : Int) ≤ 140737488351232 := by omega
  have q2 : ¬ (s.size : Int) < 20 := by omega
  have i5 : 0 < s.size := by omega
  have e0 : (((s[0]'i5).toNat : Nat) : Int) = at_ (L s) 0 := by rw [getElem_L s 0 (by omega)]; rfl
  have hb := at_bd (L s) 0
  have i4 : (0 : Int) < (s.size : Int) := by omega
  have hkz : ((emAt (L s) : Nat) : Int) = at_ (L s) 0 % 16 * 4 := by unfold emAt emEnd; omega
  have cw := fun W B (hc : W.cell? ⟨B, 0, none⟩ = some (.string s)) => e_two W B s 6 hc hs ⟨by omega, by omega⟩
  rw [show get16 (L s) 6 = be16 (L s) 6 from get16_nat (k := 6) (by rw [L_length]; omega)] at cw
  have hv16 := be16_bd (L s) 6
  generalize be16 (L s) 6 = v at *
  obtain ⟨k, hk⟩ : ∃ k, k = emAt (L s) := ⟨_, rfl⟩
  rw [← hk] at hkz f1 f2 
  obtain ⟨x, hx⟩ : ∃ x, x = at_ (L s) 0 := ⟨_, rfl⟩
  rw [← hx] at e0 hb hv hkz
  have m1 : (x / 16 != 4) = false := by simpa using hv
  have m2 : (x / 16 == 4) = true := by simpa using hv
  obtain ⟨y, hy⟩ : ∃ y, y = x % 16 := ⟨_, rfl⟩
  have hand : bits .and .u8 x 15 = y := by rw [u8_and15 x hb.1 (by omega), hy]
  rw [← hy] at hkz
  have hyb : 0 ≤ y ∧ y ≤ 15 := by omega
  have wy : IntKind.i64.wrap y = y := IntWalk.i64_in _ (by omega)
  have wz : IntKind.i64.wrap (y * 4) = (k : Int) := by rw [IntWalk.i64_in _ (by omega), hkz]
  obtain ⟨l8, hl8⟩ : ∃ l8 : Int, l8 = (s.size : Int) - 8 := ⟨_, rfl⟩
  have w8 : IntKind.i64.wrap ((s.size : Int) - 8) = l8 := by rw [IntWalk.i64_in _ (by omega), hl8]
  obtain ⟨r, hr⟩ : ∃ r, r = v % 8192 := ⟨_, rfl⟩
  have hand2 : bits .and .u16 v 8191 = r := by rw [em_and13 hv16.1 (by omega), hr]
  have hkb : k ≤ 60 := by omega
  have CW := hide cw
  clear cw
  have F2 := hide f2
  rw [← hl8] at f2
  rw [← hr] at g3
  have HK := hide hk
  clear hx hy hkz hk hb hv hyb hl8 hr hv16 h20
  go_enter Tryz.func56, Tryz.ntmps56
  have d0 := Cells.new w #[.string s, .int .i64 0, .int .u8 0, .int .u32 0, .int .u16 0, .int .u32 0, .int .u16 0, .bool false] 79
  have bn := fresh_below w (.cells #[.string s, .int .i64 0, .int .u8 0, .int .u32 0, .int .u16 0, .int .u32 0, .int .u16 0, .bool false] 79)
  have z0 := d0.at_ 1; have zf := d0.free 1
  have D0 := hide d0; have BN := hide bn
  clear d0 bn
  go_upto_region 5 with fail
  have ec := Cells.new w #[.string s, .int .i64 (k : Int), .int .u8 0, .int .u32 0, .int .u16 0, .int .u32 0, .int .u16 0, .bool false] 79
  have eb := fresh_below w (.cells #[.string s, .int .i64 (k : Int), .int .u8 0, .int .u32 0, .int .u16 0, .int .u32 0, .int .u16 0, .bool false] 79)
  clear z0 zf D0 BN q2 m1 m2 hand wy wz
  generalize (w.alloc (.cells #[.string s, .int .i64 (k : Int), .int .u8 0, .int .u32 0, .int .u16 0, .int .u32 0, .int .u16 0, .bool false] 79)) = w5 at *
  have EC := hide ec; have EB := hide eb
  clear eb
  obtain ⟨qec_0, qec_1, qec_2, qec_3, qec_4, qec_5, qec_6, qec_7⟩ := ec.q8
  have bb : Below w5.heap.size w5 w5 := Below.refl _ _
  clear ec
  have h4 : (r != 0) = false := by rw [g3]; rfl
  go_upto_region 7 with (go_at_call 64; (with_reducible refine (CW.out _ _ (qec_0 _ (by assumption))).mono ?_); rintro e w6 ⟨rfl, b6⟩; have b6' := bstep (by assumption : Below w5.heap.size w5 _) b6; clear b6)
  clear h4 hand2 f1 f2 w8
  have s7 : Below w5.heap.size w5 w6.drew := Below.drew b6'
  clear bb
  focus
    refine wp_region_JG [16] (fun W => Below w5.heap.size w5 W) (by kernel_rfl) (by kernel_rfl) (s7) (fun hG hsel hS0 => ?_)
    refine wpAnyJ_takeG (i := 0) (oi := { dst := some 49, op := .move (.tmp 4), type := 73, pos := "embeds.go:66", after := #[], guard := none }) (v := ?v0_49) hG hsel (by kernel_rfl) (by kernel_rfl) (by kernel_rfl) (by kernel_rfl) (fun _ _ _ h => h) (Or.inl (And.intro (by kernel_rfl) ?q0_49)) hS0 ?r0_49
    case q0_49 => intro w hx; refine run_env [4] [?a0_49_4] (by kernel_rfl) (by kernel_rfl) (⟨?e0_49_4, trivial⟩) ?h0_49; (case e0_49_4 => ((conv => lhs; whnf); (try exact rfl))); (case h0_49 => ((try dsimp only); (try simp only [envL, lookV, if_true, if_false]); (try go_simp); (try with_reducible rfl)))
    (try simp only [Act.put, putS])
    refine wpAnyJ_takeG (i := 1) (oi := { dst := some 50, op := .move (.tmp 0), type := 9, pos := "embeds.go:66", after := #[], guard := none }) (v := ?v1_50) hG hsel (by kernel_rfl) (by kernel_rfl) (by kernel_rfl) (by kernel_rfl) (fun _ _ _ h => h) (Or.inl (And.intro (by kernel_rfl) ?q1_50)) hS0 ?r1_50
    case q1_50 => intro w hx; refine run_env [0] [?a1_50_0] (by kernel_rfl) (by kernel_rfl) (⟨?e1_50_0, trivial⟩) ?h1_50; (case e1_50_0 => ((conv => lhs; whnf); (try exact rfl))); (case h1_50 => ((try dsimp only); (try simp only [envL, lookV, if_true, if_false]); (try go_simp); (try with_reducible rfl)))
    (try simp only [Act.put, putS])
    refine wpAnyJ_takeG (i := 2) (oi := { dst := some 51, op := .index 9 (.tmp 50) (.const (Go.Value.int Go.IntKind.i64 9)), type := 5, pos := "embeds.go:66", after := #[{ on := 1, ground := .data }], guard := none }) (v := ?v2_51) hG hsel (by kernel_rfl) (by kernel_rfl) (by kernel_rfl) (by kernel_rfl) (fun _ _ _ h => h) (Or.inl (And.intro (by kernel_rfl) ?q2_51)) hS0 ?r2_51
    case q2_51 => intro w hx; refine run_env [50] [?a2_51_50] (by kernel_rfl) (by kernel_rfl) (⟨?e2_51_50, trivial⟩) ?h2_51; (case e2_51_50 => ((conv => lhs; whnf); (try exact rfl))); (case h2_51 => ((try dsimp only); (try simp only [envL, lookV, if_true, if_false]); (try go_simp); (try with_reducible rfl)))
    (try simp only [Act.put, putS])
    refine wpAnyJ_takeG (i := 3) (oi := { dst := some 52, op := .move (.tmp 4), type := 73, pos := "embeds.go:66", after := #[], guard := none }) (v := ?v3_52) hG hsel (by kernel_rfl) (by kernel_rfl) (by kernel_rfl) (by kernel_rfl) (fun _ _ _ h => h) (Or.inl (And.intro (by kernel_rfl) ?q3_52)) hS0 ?r3_52
    case q3_52 => intro w hx; refine run_env [4] [?a3_52_4] (by kernel_rfl) (by kernel_rfl) (⟨?e3_52_4, trivial⟩) ?h3_52; (case e3_52_4 => ((conv => lhs; whnf); (try exact rfl))); (case h3_52 => ((try dsimp only); (try simp only [envL, lookV, if_true, if_false]); (try go_simp); (try with_reducible rfl)))
    (try simp only [Act.put, putS])
    refine wpAnyJ_takeG (i := 4) (oi := { dst := some 53, op := .nilCheck (.tmp 52), type := 0, pos := "embeds.go:66", after := #[{ on := 3, ground := .data }], guard := none }) (v := ?v4_53) hG hsel (by kernel_rfl) (by kernel_rfl) (by kernel_rfl) (by kernel_rfl) (fun _ _ _ h => h) (Or.inl (And.intro (by kernel_rfl) ?q4_53)) hS0 ?r4_53
    case q4_53 => intro w hx; refine run_env [52] [?a4_53_52] (by kernel_rfl) (by kernel_rfl) (⟨?e4_53_52, trivial⟩) ?h4_53; (case e4_53_52 => ((conv => lhs; whnf); (try exact rfl))); (case h4_53 => ((try dsimp only); (try simp only [envL, lookV, if_true, if_false]); (try go_simp); (try with_reducible rfl)))
    (try simp only [Act.put, putS])
    refine wpAnyJ_takeG (i := 5) (oi := { dst := some 54, op := .fieldAddr 79 (.tmp 53) 0, type := 0, pos := "embeds.go:66", after := #[{ on := 4, ground := .data }], guard := none }) (v := ?v5_54) hG hsel (by kernel_rfl) (by kernel_rfl) (by kernel_rfl) (by kernel_rfl) (fun _ _ _ h => h) (Or.inl (And.intro (by kernel_rfl) ?q5_54)) hS0 ?r5_54
    case q5_54 => intro w hx; refine run_env [53] [?a5_54_53] (by kernel_rfl) (by kernel_rfl) (⟨?e5_54_53, trivial⟩) ?h5_54; (case e5_54_53 => ((conv => lhs; whnf); (try exact rfl))); (case h5_54 => ((try dsimp only); (try simp only [envL, lookV, if_true, if_false]); (try go_simp); (try with_reducible rfl)))
    (try simp only [Act.put, putS])
    refine wpAnyJ_takeG (i := 8) (oi := { dst := some 57, op := .move (.tmp 4), type := 73, pos := "embeds.go:66", after := #[], guard := none }) (v := ?v8_55) hG hsel (by kernel_rfl) (by kernel_rfl) (by kernel_rfl) (by kernel_rfl) (fun _ _ _ h => h) (Or.inl (And.intro (by kernel_rfl) ?q8_55)) hS0 ?r8_55
    case q8_55 => intro w hx; refine run_env [4] [?a8_55_4] (by kernel_rfl) (by kernel_rfl) (⟨?e8_55_4, trivial⟩) ?h8_55; (case e8_55_4 => ((conv => lhs; whnf); (try exact rfl))); (case h8_55 => ((try dsimp only); (try simp only [envL, lookV, if_true, if_false]); (try go_simp); (try with_reducible rfl)))
    (try simp only [Act.put, putS])
    refine wpAnyJ_takeG (i := 9) (oi := { dst := some 58, op := .nilCheck (.tmp 57), type := 0, pos := "embeds.go:66", after := #[{ on := 8, ground := .data }], guard := none }) (v := ?v9_56) hG hsel (by kernel_rfl) (by kernel_rfl) (by kernel_rfl) (by kernel_rfl) (fun _ _ _ h => h) (Or.inl (And.intro (by kernel_rfl) ?q9_56)) hS0 ?r9_56
    case q9_56 => intro w hx; refine run_env [57] [?a9_56_57] (by kernel_rfl) (by kernel_rfl) (⟨?e9_56_57, trivial⟩) ?h9_56; (case e9_56_57 => ((conv => lhs; whnf); (try exact rfl))); (case h9_56 => ((try dsimp only); (try simp only [envL, lookV, if_true, if_false]); (try go_simp); (try with_reducible rfl)))
    (try simp only [Act.put, putS])
    refine wpAnyJ_takeG (i := 10) (oi := { dst := some 59, op := .fieldAddr 79 (.tmp 58) 0, type := 0, pos := "embeds.go:66", after := #[{ on := 9, ground := .data }], guard := none }) (v := ?v10_57) hG hsel (by kernel_rfl) (by kernel_rfl) (by kernel_rfl) (by kernel_rfl) (fun _ _ _ h => h) (Or.inl (And.intro (by kernel_rfl) ?q10_57)) hS0 ?r10_57
    case q10_57 => intro w hx; refine run_env [58] [?a10_57_58] (by kernel_rfl) (by kernel_rfl) (⟨?e10_57_58, trivial⟩) ?h10_57; (case e10_57_58 => ((conv => lhs; whnf); (try exact rfl))); (case h10_57 => ((try dsimp only); (try simp only [envL, lookV, if_true, if_false]); (try go_simp); (try with_reducible rfl)))
    (try simp only [Act.put, putS])
    refine rJ [6] ?_
    refine (AllReadyJ.cons rfl (fun K hK => ?_) AllReadyJ.nil)
    rw [if_pos (by kernel_rfl)]
    (try simp only [putG])
    (focus go_simp)
    (focus ((with_reducible refine (CA.out _ _ (qec_0 _ hS0)).mono ?_); rintro e wa ⟨rfl, ba⟩; have sq := bstep hS0 ba))
    (focus (try go_wp2_with fail))
    refine hK.out _ _ ?hs (fun hS0 => ?_)
    case hs => (first | with_reducible exact hS0 | with_reducible exact sq)
    clear hK K
    (try simp only [Act.put, putS])
    refine wpAnyJ_takeG (i := 7) (oi := { dst := some 56, op := .build 26 #[(0, .tmp 55)], type := 26, pos := "embeds.go:66", after := #[{ on := 6, ground := .data }], guard := none }) (v := ?v7_58) hG hsel (by kernel_rfl) (by kernel_rfl) (by kernel_rfl) (by kernel_rfl) (fun _ _ _ h => h) (Or.inl (And.intro (by kernel_rfl) ?q7_58)) hS0 ?r7_58
    case q7_58 => intro w hx; refine run_env [55] [?a7_58_55] (by kernel_rfl) (by kernel_rfl) (⟨?e7_58_55, trivial⟩) ?h7_58; (case e7_58_55 => ((conv => lhs; whnf); (try exact rfl))); (case h7_58 => ((try dsimp only); (try simp only [envL, lookV, if_true, if_false]); (try go_simp); (try with_reducible rfl)))
    (try simp only [Act.put, putS])
    refine rJ [11] ?_
    refine (AllReadyJ.cons rfl (fun K hK => ?_) AllReadyJ.nil)
    rw [if_pos (by kernel_rfl)]
    (try simp only [putG])
    (focus go_simp)
    (focus ((with_reducible refine (CB.out _ _ (qec_0 _ hS0)).mono ?_); rintro e wb ⟨rfl, bb2⟩; have sq := bstep hS0 bb2))
    (focus (try go_wp2_with fail))
    refine hK.out _ _ ?hs (fun hS0 => ?_)
    case hs => (first | with_reducible exact hS0 | with_reducible exact sq)
    clear hK K
    (try simp only [Act.put, putS])
    refine wpAnyJ_takeG (i := 12) (oi := { dst := some 61, op := .build 26 #[(0, .tmp 60)], type := 26, pos := "embeds.go:66", after := #[{ on := 11, ground := .data }], guard := none }) (v := ?v12_59) hG hsel (by kernel_rfl) (by kernel_rfl) (by kernel_rfl) (by kernel_rfl) (fun _ _ _ h => h) (Or.inl (And.intro (by kernel_rfl) ?q12_59)) hS0 ?r12_59
    case q12_59 => intro w hx; refine run_env [60] [?a12_59_60] (by kernel_rfl) (by kernel_rfl) (⟨?e12_59_60, trivial⟩) ?h12_59; (case e12_59_60 => ((conv => lhs; whnf); (try exact rfl))); (case h12_59 => ((try dsimp only); (try simp only [envL, lookV, if_true, if_false]); (try go_simp); (try with_reducible rfl)))
    (try simp only [Act.put, putS])
    refine wpAnyJ_takeG (i := 13) (oi := { dst := some 62, op := .build 33 #[(0, .tmp 51), (1, .tmp 56), (2, .tmp 61)], type := 33, pos := "embeds.go:66", after := #[{ on := 2, ground := .data }, { on := 7, ground := .data }, { on := 12, ground := .data }], guard := none }) (v := ?v13_60) hG hsel (by kernel_rfl) (by kernel_rfl) (by kernel_rfl) (by kernel_rfl) (fun _ _ _ h => h) (Or.inl (And.intro (by kernel_rfl) ?q13_60)) hS0 ?r13_60
    case q13_60 => intro w hx; refine run_env [51, 56, 61] [?a13_60_51, ?a13_60_56, ?a13_60_61] (by kernel_rfl) (by kernel_rfl) (⟨?e13_60_51, ?e13_60_56, ?e13_60_61, trivial⟩) ?h13_60; (case e13_60_51 => ((conv => lhs; whnf); (try exact rfl))); (case e13_60_56 => ((conv => lhs; whnf); (try exact rfl))); (case e13_60_61 => ((conv => lhs; whnf); (try exact rfl))); (case h13_60 => ((try dsimp only); (try simp only [envL, lookV, if_true, if_false]); (try go_simp); (try with_reducible rfl)))
    (try simp only [Act.put, putS])
    refine rJ [14] ?_
    refine (AllReadyJ.cons rfl (fun K hK => ?_) AllReadyJ.nil)
    rw [if_pos (by kernel_rfl)]
    (try simp only [putG])
    (focus go_simp)
    refine hK.out _ _ ?hs (fun hS0 => ?_)
    case hs => (first | with_reducible exact hS0 | with_reducible exact sq)
    clear hK K
    (try simp only [Act.put, putS])
    refine wpAnyJ_takeG (i := 15) (oi := { dst := some 64, op := .fieldAddr 79 (.tmp 63) 2, type := 0, pos := "embeds.go:66", after := #[{ on := 14, ground := .data }, { on := 0, ground := .phase }, { on := 1, ground := .phase }, { on := 2, ground := .phase }, { on := 3, ground := .phase }, { on := 4, ground := .phase }, { on := 5, ground := .phase }, { on := 6, ground := .phase }, { on := 7, ground := .phase }, { on := 8, ground := .phase }, { on := 9, ground := .phase }, { on := 10, ground := .phase }, { on := 11, ground := .phase }, { on := 12, ground := .phase }, { on := 13, ground := .phase }], guard := none }) (v := ?v15_61) hG hsel (by kernel_rfl) (by kernel_rfl) (by kernel_rfl) (by kernel_rfl) (fun _ _ _ h => h) (Or.inl (And.intro (by kernel_rfl) ?q15_61)) hS0 ?r15_61
    case q15_61 => intro w hx; refine run_env [63] [?a15_61_63] (by kernel_rfl) (by kernel_rfl) (⟨?e15_61_63, trivial⟩) ?h15_61; (case e15_61_63 => ((conv => lhs; whnf); (try exact rfl))); (case h15_61 => ((try dsimp only); (try simp only [envL, lookV, if_true, if_false]); (try go_simp); (try with_reducible rfl)))
    (try simp only [Act.put, putS])
    refine rJ [16] ?_
    refine (AllReadyJ.last rfl (by kernel_rfl) (fun K hK => ?_) AllReadyJ.nil)
    (focus (rw [if_pos (by kernel_rfl)]; have kc := Cells.below hS0 EC.out; have y2 := kc.at_ 2; have y3 := kc.at_ 3; have y4 := kc.at_ 4; have y5 := kc.at_ 5; have y6 := kc.at_ 6; have f2 := kc.free 2; have f3 := kc.free 3; have f4 := kc.free 4; have f5 := kc.free 5; have f6 := kc.free 6; clear kc; go_simp))
    (focus (try go_wp2_with fail))
    refine hK.out _ _ ?_
    clear hK K
    (try simp only [Act.put, putS])
    refine wpAnyJ_done (by kernel_rfl) ?_ _
  have em : Em (((((wb.setCell ⟨w.heap.size, 2, none⟩ (.int .u8 p)).setCell ⟨w.heap.size, 3, none⟩ (.int .u32 va)).setCell ⟨w.heap.size, 4, none⟩ (.int .u16 0)).setCell ⟨w.heap.size, 5, none⟩ (.int .u32 vb)).setCell ⟨w.heap.size, 6, none⟩ (.int .u16 0)) w.heap.size s k ⟨p, va, 0, vb, 0⟩ false := Cells.like (Cells.set_ (Cells.set_ (Cells.set_ (Cells.set_ (Cells.set_ (Cells.below hS0 EC.out) 2 (.int .u8 p)) 3 (.int .u32 va)) 4 (.int .u16 0)) 5 (.int .u32 vb)) 6 (.int .u16 0)) (by simp [emCells])
  have lw : Below w.heap.size w (((((wb.setCell ⟨w.heap.size, 2, none⟩ (.int .u8 p)).setCell ⟨w.heap.size, 3, none⟩ (.int .u32 va)).setCell ⟨w.heap.size, 4, none⟩ (.int .u16 0)).setCell ⟨w.heap.size, 5, none⟩ (.int .u32 vb)).setCell ⟨w.heap.size, 6, none⟩ (.int .u16 0)) := Below.setCell (Below.setCell (Below.setCell (Below.setCell (Below.setCell (bstep EB.out hS0) (Nat.le_refl _) _) (Nat.le_refl _) _) (Nat.le_refl _) _) (Nat.le_refl _) _) (Nat.le_refl _) _
  have EM := hide em; have LW := hide lw
  clear em lw s7 sq ba bb2 b6' hS0 qec_0 qec_1 qec_2 qec_3 qec_4 qec_5 qec_6 qec_7 EC EB CA CB CW
  generalize (((((wb.setCell ⟨w.heap.size, 2, none⟩ (.int .u8 p)).setCell ⟨w.heap.size, 3, none⟩ (.int .u32 va)).setCell ⟨w.heap.size, 4, none⟩ (.int .u16 0)).setCell ⟨w.heap.size, 5, none⟩ (.int .u32 vb)).setCell ⟨w.heap.size, 6, none⟩ (.int .u16 0)) = w8 at *
  have hk := HK.out
  obtain ⟨k2, hk2⟩ : ∃ k2 : Nat, k2 = k + 2 := ⟨_, rfl⟩
  have cS := fun W B (hc : W.cell? ⟨B, 0, none⟩ = some (.string s)) => e_two W B s (k : Int) hc hs ⟨by omega, by omega⟩
  have cD := fun W B (hc : W.cell? ⟨B, 0, none⟩ = some (.string s)) => e_two W B s (k2 : Int) hc hs ⟨by omega, by omega⟩
  rw [get16_nat (by rw [L_length]; have := F2.out; omega), hk, ← hvs, ← hk] at cS
  rw [get16_nat (by rw [L_length]; have := F2.out; omega), hk2, hk, ← hvd, ← hk, ← hk2] at cD
  have CS := hide cS; have CD := hide cD
  have hw2 : IntKind.i64.wrap ((k : Int) + 2) = (k2 : Int) := by rw [IntWalk.i64_in _ (by omega), hk2]; omega
  clear cS cD hvs hvd hs hk2 hkb
  clear hk
  have kc := EM.out
  have y2 : w8.cell? ⟨w.heap.size, 2, none⟩ = some (.int .u8 p) := kc.at_ 2
  clear kc
  have hp := HP.out
  subst hp
  go_upto_region 12 with fail
  clear y2
  have s12 : Below w8.heap.size w8 w8.drew := Below.drew (Below.refl _ _)
  have EMS := hide (fun W (h : ∃ b d, Em W w.heap.size s k ⟨17, va, b, vb, d⟩ false) => (show W.cell? ⟨w.heap.size, 0, none⟩ = some (.string s) by obtain ⟨b, d, k⟩ := h; exact k.at_ 0))
  have t12 : ∃ b d, Em w8.drew w.heap.size s k ⟨17, va, b, vb, d⟩ false := ⟨0, 0, Cells.drew EM.out⟩
  focus
    refine wp_region_JG [28] (fun W => ∃ b d, Em W w.heap.size s k ⟨17, va, b, vb, d⟩ false) (by kernel_rfl) (by kernel_rfl) (t12) (fun hG hsel hS0 => ?_)
    refine wpAnyJ_takeG (i := 0) (oi := { dst := some 73, op := .move (.tmp 4), type := 73, pos := "embeds.go:69", after := #[], guard := none }) (v := ?v0_62) hG hsel (by kernel_rfl) (by kernel_rfl) (by kernel_rfl) (by kernel_rfl) (fun _ _ _ h => h) (Or.inl (And.intro (by kernel_rfl) ?q0_62)) hS0 ?r0_62
    case q0_62 => intro wx hx; obtain ⟨b, d, kx⟩ := hx; have y1 : wx.cell? ⟨w.heap.size, 1, none⟩ = some (.int .i64 (k : Int)) := kx.at_ 1; refine run_env [4] [?a0_62_4] (by kernel_rfl) (by kernel_rfl) (⟨?e0_62_4, trivial⟩) ?h0_62; (case e0_62_4 => ((conv => lhs; whnf); (try exact rfl))); (case h0_62 => ((try dsimp only); (try simp only [envL, lookV, if_true, if_false]); (try go_simp); (try with_reducible rfl)))
    (try simp only [Act.put, putS])
    refine wpAnyJ_takeG (i := 1) (oi := { dst := some 74, op := .move (.tmp 4), type := 73, pos := "embeds.go:69", after := #[{ on := 23, ground := .gcOnly Go.Departure.lateStores }], guard := none }) (v := ?v1_63) hG hsel (by kernel_rfl) (by kernel_rfl) (by kernel_rfl) (by kernel_rfl) (fun _ _ _ h => h) (Or.inl (And.intro (by kernel_rfl) ?q1_63)) hS0 ?r1_63
    case q1_63 => intro wx hx; obtain ⟨b, d, kx⟩ := hx; have y1 : wx.cell? ⟨w.heap.size, 1, none⟩ = some (.int .i64 (k : Int)) := kx.at_ 1; refine run_env [4] [?a1_63_4] (by kernel_rfl) (by kernel_rfl) (⟨?e1_63_4, trivial⟩) ?h1_63; (case e1_63_4 => ((conv => lhs; whnf); (try exact rfl))); (case h1_63 => ((try dsimp only); (try simp only [envL, lookV, if_true, if_false]); (try go_simp); (try with_reducible rfl)))
    (try simp only [Act.put, putS])
    refine wpAnyJ_takeG (i := 2) (oi := { dst := some 75, op := .move (.tmp 4), type := 73, pos := "embeds.go:69", after := #[], guard := none }) (v := ?v2_64) hG hsel (by kernel_rfl) (by kernel_rfl) (by kernel_rfl) (by kernel_rfl) (fun _ _ _ h => h) (Or.inl (And.intro (by kernel_rfl) ?q2_64)) hS0 ?r2_64
    case q2_64 => intro wx hx; obtain ⟨b, d, kx⟩ := hx; have y1 : wx.cell? ⟨w.heap.size, 1, none⟩ = some (.int .i64 (k : Int)) := kx.at_ 1; refine run_env [4] [?a2_64_4] (by kernel_rfl) (by kernel_rfl) (⟨?e2_64_4, trivial⟩) ?h2_64; (case e2_64_4 => ((conv => lhs; whnf); (try exact rfl))); (case h2_64 => ((try dsimp only); (try simp only [envL, lookV, if_true, if_false]); (try go_simp); (try with_reducible rfl)))
    (try simp only [Act.put, putS])
    refine wpAnyJ_takeG (i := 3) (oi := { dst := some 76, op := .nilCheck (.tmp 75), type := 0, pos := "embeds.go:69", after := #[{ on := 2, ground := .data }], guard := none }) (v := ?v3_65) hG hsel (by kernel_rfl) (by kernel_rfl) (by kernel_rfl) (by kernel_rfl) (fun _ _ _ h => h) (Or.inl (And.intro (by kernel_rfl) ?q3_65)) hS0 ?r3_65
    case q3_65 => intro wx hx; obtain ⟨b, d, kx⟩ := hx; have y1 : wx.cell? ⟨w.heap.size, 1, none⟩ = some (.int .i64 (k : Int)) := kx.at_ 1; refine run_env [75] [?a3_65_75] (by kernel_rfl) (by kernel_rfl) (⟨?e3_65_75, trivial⟩) ?h3_65; (case e3_65_75 => ((conv => lhs; whnf); (try exact rfl))); (case h3_65 => ((try dsimp only); (try simp only [envL, lookV, if_true, if_false]); (try go_simp); (try with_reducible rfl)))
    (try simp only [Act.put, putS])
    refine wpAnyJ_takeG (i := 4) (oi := { dst := some 77, op := .fieldAddr 79 (.tmp 76) 0, type := 0, pos := "embeds.go:69", after := #[{ on := 3, ground := .data }], guard := none }) (v := ?v4_66) hG hsel (by kernel_rfl) (by kernel_rfl) (by kernel_rfl) (by kernel_rfl) (fun _ _ _ h => h) (Or.inl (And.intro (by kernel_rfl) ?q4_66)) hS0 ?r4_66
    case q4_66 => intro wx hx; obtain ⟨b, d, kx⟩ := hx; have y1 : wx.cell? ⟨w.heap.size, 1, none⟩ = some (.int .i64 (k : Int)) := kx.at_ 1; refine run_env [76] [?a4_66_76] (by kernel_rfl) (by kernel_rfl) (⟨?e4_66_76, trivial⟩) ?h4_66; (case e4_66_76 => ((conv => lhs; whnf); (try exact rfl))); (case h4_66 => ((try dsimp only); (try simp only [envL, lookV, if_true, if_false]); (try go_simp); (try with_reducible rfl)))
    (try simp only [Act.put, putS])
    refine wpAnyJ_takeG (i := 5) (oi := { dst := some 78, op := .move (.tmp 4), type := 73, pos := "embeds.go:69", after := #[], guard := none }) (v := ?v5_67) hG hsel (by kernel_rfl) (by kernel_rfl) (by kernel_rfl) (by kernel_rfl) (fun _ _ _ h => h) (Or.inl (And.intro (by kernel_rfl) ?q5_67)) hS0 ?r5_67
    case q5_67 => intro wx hx; obtain ⟨b, d, kx⟩ := hx; have y1 : wx.cell? ⟨w.heap.size, 1, none⟩ = some (.int .i64 (k : Int)) := kx.at_ 1; refine run_env [4] [?a5_67_4] (by kernel_rfl) (by kernel_rfl) (⟨?e5_67_4, trivial⟩) ?h5_67; (case e5_67_4 => ((conv => lhs; whnf); (try exact rfl))); (case h5_67 => ((try dsimp only); (try simp only [envL, lookV, if_true, if_false]); (try go_simp); (try with_reducible rfl)))
    (try simp only [Act.put, putS])
    refine wpAnyJ_takeG (i := 6) (oi := { dst := some 79, op := .nilCheck (.tmp 78), type := 0, pos := "embeds.go:69", after := #[{ on := 5, ground := .data }], guard := none }) (v := ?v6_68) hG hsel (by kernel_rfl) (by kernel_rfl) (by kernel_rfl) (by kernel_rfl) (fun _ _ _ h => h) (Or.inl (And.intro (by kernel_rfl) ?q6_68)) hS0 ?r6_68
    case q6_68 => intro wx hx; obtain ⟨b, d, kx⟩ := hx; have y1 : wx.cell? ⟨w.heap.size, 1, none⟩ = some (.int .i64 (k : Int)) := kx.at_ 1; refine run_env [78] [?a6_68_78] (by kernel_rfl) (by kernel_rfl) (⟨?e6_68_78, trivial⟩) ?h6_68; (case e6_68_78 => ((conv => lhs; whnf); (try exact rfl))); (case h6_68 => ((try dsimp only); (try simp only [envL, lookV, if_true, if_false]); (try go_simp); (try with_reducible rfl)))
    (try simp only [Act.put, putS])
    refine wpAnyJ_takeG (i := 7) (oi := { dst := some 80, op := .fieldAddr 79 (.tmp 79) 1, type := 0, pos := "embeds.go:69", after := #[{ on := 6, ground := .data }], guard := none }) (v := ?v7_69) hG hsel (by kernel_rfl) (by kernel_rfl) (by kernel_rfl) (by kernel_rfl) (fun _ _ _ h => h) (Or.inl (And.intro (by kernel_rfl) ?q7_69)) hS0 ?r7_69
    case q7_69 => intro wx hx; obtain ⟨b, d, kx⟩ := hx; have y1 : wx.cell? ⟨w.heap.size, 1, none⟩ = some (.int .i64 (k : Int)) := kx.at_ 1; refine run_env [79] [?a7_69_79] (by kernel_rfl) (by kernel_rfl) (⟨?e7_69_79, trivial⟩) ?h7_69; (case e7_69_79 => ((conv => lhs; whnf); (try exact rfl))); (case h7_69 => ((try dsimp only); (try simp only [envL, lookV, if_true, if_false]); (try go_simp); (try with_reducible rfl)))
    (try simp only [Act.put, putS])
    refine wpAnyJ_takeG (i := 8) (oi := { dst := some 81, op := .load 3 (.tmp 80), type := 3, pos := "embeds.go:69", after := #[{ on := 7, ground := .data }], guard := none }) (v := ?v8_70) hG hsel (by kernel_rfl) (by kernel_rfl) (by kernel_rfl) (by kernel_rfl) (fun _ _ _ h => h) (Or.inl (And.intro (by kernel_rfl) ?q8_70)) hS0 ?r8_70
    case q8_70 => intro wx hx; obtain ⟨b, d, kx⟩ := hx; have y1 : wx.cell? ⟨w.heap.size, 1, none⟩ = some (.int .i64 (k : Int)) := kx.at_ 1; refine run_env [80] [?a8_70_80] (by kernel_rfl) (by kernel_rfl) (⟨?e8_70_80, trivial⟩) ?h8_70; (case e8_70_80 => ((conv => lhs; whnf); (try exact rfl))); (case h8_70 => ((try dsimp only); (try simp only [envL, lookV, if_true, if_false]); (try go_simp); (try with_reducible rfl)))
    (try simp only [Act.put, putS])
    refine wpAnyJ_takeG (i := 10) (oi := { dst := some 83, op := .move (.tmp 4), type := 73, pos := "embeds.go:69", after := #[], guard := none }) (v := ?v10_71) hG hsel (by kernel_rfl) (by kernel_rfl) (by kernel_rfl) (by kernel_rfl) (fun _ _ _ h => h) (Or.inl (And.intro (by kernel_rfl) ?q10_71)) hS0 ?r10_71
    case q10_71 => intro wx hx; obtain ⟨b, d, kx⟩ := hx; have y1 : wx.cell? ⟨w.heap.size, 1, none⟩ = some (.int .i64 (k : Int)) := kx.at_ 1; refine run_env [4] [?a10_71_4] (by kernel_rfl) (by kernel_rfl) (⟨?e10_71_4, trivial⟩) ?h10_71; (case e10_71_4 => ((conv => lhs; whnf); (try exact rfl))); (case h10_71 => ((try dsimp only); (try simp only [envL, lookV, if_true, if_false]); (try go_simp); (try with_reducible rfl)))
    (try simp only [Act.put, putS])
    refine wpAnyJ_takeG (i := 11) (oi := { dst := some 84, op := .nilCheck (.tmp 83), type := 0, pos := "embeds.go:69", after := #[{ on := 10, ground := .data }], guard := none }) (v := ?v11_72) hG hsel (by kernel_rfl) (by kernel_rfl) (by kernel_rfl) (by kernel_rfl) (fun _ _ _ h => h) (Or.inl (And.intro (by kernel_rfl) ?q11_72)) hS0 ?r11_72
    case q11_72 => intro wx hx; obtain ⟨b, d, kx⟩ := hx; have y1 : wx.cell? ⟨w.heap.size, 1, none⟩ = some (.int .i64 (k : Int)) := kx.at_ 1; refine run_env [83] [?a11_72_83] (by kernel_rfl) (by kernel_rfl) (⟨?e11_72_83, trivial⟩) ?h11_72; (case e11_72_83 => ((conv => lhs; whnf); (try exact rfl))); (case h11_72 => ((try dsimp only); (try simp only [envL, lookV, if_true, if_false]); (try go_simp); (try with_reducible rfl)))
    (try simp only [Act.put, putS])
    refine wpAnyJ_takeG (i := 12) (oi := { dst := some 85, op := .fieldAddr 79 (.tmp 84) 0, type := 0, pos := "embeds.go:69", after := #[{ on := 11, ground := .data }], guard := none }) (v := ?v12_73) hG hsel (by kernel_rfl) (by kernel_rfl) (by kernel_rfl) (by kernel_rfl) (fun _ _ _ h => h) (Or.inl (And.intro (by kernel_rfl) ?q12_73)) hS0 ?r12_73
    case q12_73 => intro wx hx; obtain ⟨b, d, kx⟩ := hx; have y1 : wx.cell? ⟨w.heap.size, 1, none⟩ = some (.int .i64 (k : Int)) := kx.at_ 1; refine run_env [84] [?a12_73_84] (by kernel_rfl) (by kernel_rfl) (⟨?e12_73_84, trivial⟩) ?h12_73; (case e12_73_84 => ((conv => lhs; whnf); (try exact rfl))); (case h12_73 => ((try dsimp only); (try simp only [envL, lookV, if_true, if_false]); (try go_simp); (try with_reducible rfl)))
    (try simp only [Act.put, putS])
    refine wpAnyJ_takeG (i := 13) (oi := { dst := some 86, op := .move (.tmp 4), type := 73, pos := "embeds.go:69", after := #[], guard := none }) (v := ?v13_74) hG hsel (by kernel_rfl) (by kernel_rfl) (by kernel_rfl) (by kernel_rfl) (fun _ _ _ h => h) (Or.inl (And.intro (by kernel_rfl) ?q13_74)) hS0 ?r13_74
    case q13_74 => intro wx hx; obtain ⟨b, d, kx⟩ := hx; have y1 : wx.cell? ⟨w.heap.size, 1, none⟩ = some (.int .i64 (k : Int)) := kx.at_ 1; refine run_env [4] [?a13_74_4] (by kernel_rfl) (by kernel_rfl) (⟨?e13_74_4, trivial⟩) ?h13_74; (case e13_74_4 => ((conv => lhs; whnf); (try exact rfl))); (case h13_74 => ((try dsimp only); (try simp only [envL, lookV, if_true, if_false]); (try go_simp); (try with_reducible rfl)))
    (try simp only [Act.put, putS])
    refine wpAnyJ_takeG (i := 14) (oi := { dst := some 87, op := .nilCheck (.tmp 86), type := 0, pos := "embeds.go:69", after := #[{ on := 13, ground := .data }], guard := none }) (v := ?v14_75) hG hsel (by kernel_rfl) (by kernel_rfl) (by kernel_rfl) (by kernel_rfl) (fun _ _ _ h => h) (Or.inl (And.intro (by kernel_rfl) ?q14_75)) hS0 ?r14_75
    case q14_75 => intro wx hx; obtain ⟨b, d, kx⟩ := hx; have y1 : wx.cell? ⟨w.heap.size, 1, none⟩ = some (.int .i64 (k : Int)) := kx.at_ 1; refine run_env [86] [?a14_75_86] (by kernel_rfl) (by kernel_rfl) (⟨?e14_75_86, trivial⟩) ?h14_75; (case e14_75_86 => ((conv => lhs; whnf); (try exact rfl))); (case h14_75 => ((try dsimp only); (try simp only [envL, lookV, if_true, if_false]); (try go_simp); (try with_reducible rfl)))
    (try simp only [Act.put, putS])
    refine wpAnyJ_takeG (i := 15) (oi := { dst := some 88, op := .fieldAddr 79 (.tmp 87) 1, type := 0, pos := "embeds.go:69", after := #[{ on := 14, ground := .data }], guard := none }) (v := ?v15_76) hG hsel (by kernel_rfl) (by kernel_rfl) (by kernel_rfl) (by kernel_rfl) (fun _ _ _ h => h) (Or.inl (And.intro (by kernel_rfl) ?q15_76)) hS0 ?r15_76
    case q15_76 => intro wx hx; obtain ⟨b, d, kx⟩ := hx; have y1 : wx.cell? ⟨w.heap.size, 1, none⟩ = some (.int .i64 (k : Int)) := kx.at_ 1; refine run_env [87] [?a15_76_87] (by kernel_rfl) (by kernel_rfl) (⟨?e15_76_87, trivial⟩) ?h15_76; (case e15_76_87 => ((conv => lhs; whnf); (try exact rfl))); (case h15_76 => ((try dsimp only); (try simp only [envL, lookV, if_true, if_false]); (try go_simp); (try with_reducible rfl)))
    (try simp only [Act.put, putS])
    refine wpAnyJ_takeG (i := 16) (oi := { dst := some 89, op := .load 3 (.tmp 88), type := 3, pos := "embeds.go:69", after := #[{ on := 15, ground := .data }], guard := none }) (v := ?v16_77) hG hsel (by kernel_rfl) (by kernel_rfl) (by kernel_rfl) (by kernel_rfl) (fun _ _ _ h => h) (Or.inl (And.intro (by kernel_rfl) ?q16_77)) hS0 ?r16_77
    case q16_77 => intro wx hx; obtain ⟨b, d, kx⟩ := hx; have y1 : wx.cell? ⟨w.heap.size, 1, none⟩ = some (.int .i64 (k : Int)) := kx.at_ 1; refine run_env [88] [?a16_77_88] (by kernel_rfl) (by kernel_rfl) (⟨?e16_77_88, trivial⟩) ?h16_77; (case e16_77_88 => ((conv => lhs; whnf); (try exact rfl))); (case h16_77 => ((try dsimp only); (try simp only [envL, lookV, if_true, if_false]); (try go_simp); (try with_reducible rfl)))
    (try simp only [Act.put, putS])
    refine wpAnyJ_takeG (i := 17) (oi := { dst := some 90, op := .binOp Go.BinOp.add 3 (.tmp 89) (.const (Go.Value.int Go.IntKind.i64 2)) 3, type := 3, pos := "embeds.go:69", after := #[{ on := 16, ground := .data }], guard := none }) (v := ?v17_78) hG hsel (by kernel_rfl) (by kernel_rfl) (by kernel_rfl) (by kernel_rfl) (fun _ _ _ h => h) (Or.inl (And.intro (by kernel_rfl) ?q17_78)) hS0 ?r17_78
    case q17_78 => intro wx hx; obtain ⟨b, d, kx⟩ := hx; have y1 : wx.cell? ⟨w.heap.size, 1, none⟩ = some (.int .i64 (k : Int)) := kx.at_ 1; refine run_env [89] [?a17_78_89] (by kernel_rfl) (by kernel_rfl) (⟨?e17_78_89, trivial⟩) ?h17_78; (case e17_78_89 => ((conv => lhs; whnf); (try exact rfl))); (case h17_78 => ((try dsimp only); (try simp only [envL, lookV, if_true, if_false]); (try go_simp); (try with_reducible rfl)))
    (try simp only [Act.put, putS])
    refine rJ [9] ?_
    refine (AllReadyJ.cons rfl (fun K hK => ?_) AllReadyJ.nil)
    rw [if_pos (by kernel_rfl)]
    (try simp only [putG])
    (focus go_simp)
    (focus ((with_reducible refine (CS.out _ _ (EMS.out _ hS0)).mono ?_); rintro e wa ⟨rfl, ba⟩; have sq : ∃ b d, Em wa w.heap.size s k ⟨17, va, b, vb, d⟩ false := by obtain ⟨b, d, kc⟩ := hS0; exact ⟨b, d, Cells.below ba kc⟩))
    (focus (try go_wp2_with fail))
    refine hK.out _ _ ?hs (fun hS0 => ?_)
    case hs => (first | with_reducible exact hS0 | with_reducible exact sq | (obtain ⟨b, d, kc⟩ := hS0; exact ⟨vs, d, Cells.like (Cells.set_ kc 4 (.int .u16 vs)) (by simp [emCells])⟩))
    clear hK K
    (try simp only [Act.put, putS])
    refine rJ [18] ?_
    refine (AllReadyJ.cons rfl (fun K hK => ?_) AllReadyJ.nil)
    rw [if_pos (by kernel_rfl)]
    (try simp only [putG])
    (focus go_simp)
    (focus ((with_reducible refine (CD.out _ _ (EMS.out _ hS0)).mono ?_); rintro e wb ⟨rfl, bb⟩; have sq : ∃ b d, Em wb w.heap.size s k ⟨17, va, b, vb, d⟩ false := by obtain ⟨b, d, kc⟩ := hS0; exact ⟨b, d, Cells.below bb kc⟩))
    (focus (try go_wp2_with fail))
    refine hK.out _ _ ?hs (fun hS0 => ?_)
    case hs => (first | with_reducible exact hS0 | with_reducible exact sq | (obtain ⟨b, d, kc⟩ := hS0; exact ⟨vs, d, Cells.like (Cells.set_ kc 4 (.int .u16 vs)) (by simp [emCells])⟩))
    clear hK K
    (try simp only [Act.put, putS])
    refine wpAnyJ_takeG (i := 19) (oi := { dst := some 92, op := .nilCheck (.tmp 73), type := 0, pos := "embeds.go:69", after := #[{ on := 0, ground := .data }, { on := 0, ground := .phase }, { on := 1, ground := .textOnly Go.Departure.lateStores }, { on := 2, ground := .phase }, { on := 3, ground := .phase }, { on := 4, ground := .phase }, { on := 5, ground := .phase }, { on := 6, ground := .phase }, { on := 7, ground := .phase }, { on := 8, ground := .phase }, { on := 9, ground := .phase }, { on := 10, ground := .textOnly Go.Departure.lateStores }, { on := 11, ground := .textOnly Go.Departure.lateStoresUnsure }, { on := 12, ground := .textOnly Go.Departure.lateStoresUnsure }, { on := 13, ground := .textOnly Go.Departure.lateStores }, { on := 14, ground := .textOnly Go.Departure.lateStoresUnsure }, { on := 15, ground := .textOnly Go.Departure.lateStoresUnsure }, { on := 16, ground := .phase }, { on := 17, ground := .textOnly Go.Departure.lateStoresUnsure }, { on := 18, ground := .phase }], guard := none }) (v := ?v19_79) hG hsel (by kernel_rfl) (by kernel_rfl) (by kernel_rfl) (by kernel_rfl) (fun _ _ _ h => h) (Or.inl (And.intro (by kernel_rfl) ?q19_79)) hS0 ?r19_79
    case q19_79 => intro wx hx; obtain ⟨b, d, kx⟩ := hx; have y1 : wx.cell? ⟨w.heap.size, 1, none⟩ = some (.int .i64 (k : Int)) := kx.at_ 1; refine run_env [73] [?a19_79_73] (by kernel_rfl) (by kernel_rfl) (⟨?e19_79_73, trivial⟩) ?h19_79; (case e19_79_73 => ((conv => lhs; whnf); (try exact rfl))); (case h19_79 => ((try dsimp only); (try simp only [envL, lookV, if_true, if_false]); (try go_simp); (try with_reducible rfl)))
    (try simp only [Act.put, putS])
    refine wpAnyJ_takeG (i := 20) (oi := { dst := some 93, op := .fieldAddr 79 (.tmp 92) 2, type := 0, pos := "embeds.go:69", after := #[{ on := 19, ground := .data }, { on := 0, ground := .phase }, { on := 1, ground := .textOnly Go.Departure.lateStores }, { on := 2, ground := .phase }, { on := 3, ground := .phase }, { on := 4, ground := .phase }, { on := 5, ground := .phase }, { on := 6, ground := .phase }, { on := 7, ground := .phase }, { on := 8, ground := .phase }, { on := 9, ground := .phase }, { on := 10, ground := .textOnly Go.Departure.lateStores }, { on := 11, ground := .textOnly Go.Departure.lateStoresUnsure }, { on := 12, ground := .textOnly Go.Departure.lateStoresUnsure }, { on := 13, ground := .textOnly Go.Departure.lateStores }, { on := 14, ground := .textOnly Go.Departure.lateStoresUnsure }, { on := 15, ground := .textOnly Go.Departure.lateStoresUnsure }, { on := 16, ground := .phase }, { on := 17, ground := .textOnly Go.Departure.lateStoresUnsure }, { on := 18, ground := .phase }], guard := none }) (v := ?v20_80) hG hsel (by kernel_rfl) (by kernel_rfl) (by kernel_rfl) (by kernel_rfl) (fun _ _ _ h => h) (Or.inl (And.intro (by kernel_rfl) ?q20_80)) hS0 ?r20_80
    case q20_80 => intro wx hx; obtain ⟨b, d, kx⟩ := hx; have y1 : wx.cell? ⟨w.heap.size, 1, none⟩ = some (.int .i64 (k : Int)) := kx.at_ 1; refine run_env [92] [?a20_80_92] (by kernel_rfl) (by kernel_rfl) (⟨?e20_80_92, trivial⟩) ?h20_80; (case e20_80_92 => ((conv => lhs; whnf); (try exact rfl))); (case h20_80 => ((try dsimp only); (try simp only [envL, lookV, if_true, if_false]); (try go_simp); (try with_reducible rfl)))
    (try simp only [Act.put, putS])
    refine wpAnyJ_takeG (i := 21) (oi := { dst := some 94, op := .fieldAddr 33 (.tmp 93) 1, type := 0, pos := "embeds.go:69", after := #[{ on := 20, ground := .data }, { on := 0, ground := .phase }, { on := 1, ground := .textOnly Go.Departure.lateStores }, { on := 2, ground := .phase }, { on := 3, ground := .phase }, { on := 4, ground := .phase }, { on := 5, ground := .phase }, { on := 6, ground := .phase }, { on := 7, ground := .phase }, { on := 8, ground := .phase }, { on := 9, ground := .phase }, { on := 10, ground := .textOnly Go.Departure.lateStores }, { on := 11, ground := .textOnly Go.Departure.lateStoresUnsure }, { on := 12, ground := .textOnly Go.Departure.lateStoresUnsure }, { on := 13, ground := .textOnly Go.Departure.lateStores }, { on := 14, ground := .textOnly Go.Departure.lateStoresUnsure }, { on := 15, ground := .textOnly Go.Departure.lateStoresUnsure }, { on := 16, ground := .phase }, { on := 17, ground := .textOnly Go.Departure.lateStoresUnsure }, { on := 18, ground := .phase }], guard := none }) (v := ?v21_81) hG hsel (by kernel_rfl) (by kernel_rfl) (by kernel_rfl) (by kernel_rfl) (fun _ _ _ h => h) (Or.inl (And.intro (by kernel_rfl) ?q21_81)) hS0 ?r21_81
    case q21_81 => intro wx hx; obtain ⟨b, d, kx⟩ := hx; have y1 : wx.cell? ⟨w.heap.size, 1, none⟩ = some (.int .i64 (k : Int)) := kx.at_ 1; refine run_env [93] [?a21_81_93] (by kernel_rfl) (by kernel_rfl) (⟨?e21_81_93, trivial⟩) ?h21_81; (case e21_81_93 => ((conv => lhs; whnf); (try exact rfl))); (case h21_81 => ((try dsimp only); (try simp only [envL, lookV, if_true, if_false]); (try go_simp); (try with_reducible rfl)))
    (try simp only [Act.put, putS])
    refine wpAnyJ_takeG (i := 22) (oi := { dst := some 95, op := .fieldAddr 26 (.tmp 94) 1, type := 0, pos := "embeds.go:69", after := #[{ on := 21, ground := .data }, { on := 0, ground := .phase }, { on := 1, ground := .textOnly Go.Departure.lateStores }, { on := 2, ground := .phase }, { on := 3, ground := .phase }, { on := 4, ground := .phase }, { on := 5, ground := .phase }, { on := 6, ground := .phase }, { on := 7, ground := .phase }, { on := 8, ground := .phase }, { on := 9, ground := .phase }, { on := 10, ground := .textOnly Go.Departure.lateStores }, { on := 11, ground := .textOnly Go.Departure.lateStoresUnsure }, { on := 12, ground := .textOnly Go.Departure.lateStoresUnsure }, { on := 13, ground := .textOnly Go.Departure.lateStores }, { on := 14, ground := .textOnly Go.Departure.lateStoresUnsure }, { on := 15, ground := .textOnly Go.Departure.lateStoresUnsure }, { on := 16, ground := .phase }, { on := 17, ground := .textOnly Go.Departure.lateStoresUnsure }, { on := 18, ground := .phase }], guard := none }) (v := ?v22_82) hG hsel (by kernel_rfl) (by kernel_rfl) (by kernel_rfl) (by kernel_rfl) (fun _ _ _ h => h) (Or.inl (And.intro (by kernel_rfl) ?q22_82)) hS0 ?r22_82
    case q22_82 => intro wx hx; obtain ⟨b, d, kx⟩ := hx; have y1 : wx.cell? ⟨w.heap.size, 1, none⟩ = some (.int .i64 (k : Int)) := kx.at_ 1; refine run_env [94] [?a22_82_94] (by kernel_rfl) (by kernel_rfl) (⟨?e22_82_94, trivial⟩) ?h22_82; (case e22_82_94 => ((conv => lhs; whnf); (try exact rfl))); (case h22_82 => ((try dsimp only); (try simp only [envL, lookV, if_true, if_false]); (try go_simp); (try with_reducible rfl)))
    (try simp only [Act.put, putS])
    refine rJ [23] ?_
    refine (AllReadyJ.cons rfl (fun K hK => ?_) AllReadyJ.nil)
    (focus (rw [if_pos (by kernel_rfl)]; obtain ⟨b, d, kc⟩ := hS0; have y4 : World.cell? _ ⟨w.heap.size, 4, none⟩ = some (.int .u16 b) := kc.at_ 4; have f4 := kc.free 4; go_simp; have hS0 : ∃ b d, Em wb w.heap.size s k ⟨17, va, b, vb, d⟩ false := ⟨b, d, kc⟩; clear kc y4 f4))
    (focus (try go_wp2_with fail))
    refine hK.out _ _ ?hs (fun hS0 => ?_)
    case hs => (first | with_reducible exact hS0 | with_reducible exact sq | (obtain ⟨b, d, kc⟩ := hS0; exact ⟨vs, d, Cells.like (Cells.set_ kc 4 (.int .u16 vs)) (by simp [emCells])⟩))
    clear hK K
    (try simp only [Act.put, putS])
    refine rJ [24] ?_
    refine (AllReadyJ.cons rfl (fun K hK => ?_) AllReadyJ.nil)
    rw [if_pos (by kernel_rfl)]
    (try simp only [putG])
    (focus go_simp)
    refine hK.out _ _ ?hs (fun hS0 => ?_)
    case hs => (first | with_reducible exact hS0 | with_reducible exact sq | (obtain ⟨b, d, kc⟩ := hS0; exact ⟨vs, d, Cells.like (Cells.set_ kc 4 (.int .u16 vs)) (by simp [emCells])⟩))
    clear hK K
    (try simp only [Act.put, putS])
    refine rJ [25] ?_
    refine (AllReadyJ.cons rfl (fun K hK => ?_) AllReadyJ.nil)
    rw [if_pos (by kernel_rfl)]
    (try simp only [putG])
    (focus go_simp)
    refine hK.out _ _ ?hs (fun hS0 => ?_)
    case hs => (first | with_reducible exact hS0 | with_reducible exact sq | (obtain ⟨b, d, kc⟩ := hS0; exact ⟨vs, d, Cells.like (Cells.set_ kc 4 (.int .u16 vs)) (by simp [emCells])⟩))
    clear hK K
    (try simp only [Act.put, putS])
    refine rJ [26] ?_
    refine (AllReadyJ.cons rfl (fun K hK => ?_) AllReadyJ.nil)
    rw [if_pos (by kernel_rfl)]
    (try simp only [putG])
    (focus go_simp)
    refine hK.out _ _ ?hs (fun hS0 => ?_)
    case hs => (first | with_reducible exact hS0 | with_reducible exact sq | (obtain ⟨b, d, kc⟩ := hS0; exact ⟨vs, d, Cells.like (Cells.set_ kc 4 (.int .u16 vs)) (by simp [emCells])⟩))
    clear hK K
    (try simp only [Act.put, putS])
    refine wpAnyJ_takeG (i := 27) (oi := { dst := some 99, op := .fieldAddr 26 (.tmp 98) 1, type := 0, pos := "embeds.go:69", after := #[{ on := 26, ground := .data }, { on := 0, ground := .phase }, { on := 1, ground := .phase }, { on := 2, ground := .phase }, { on := 3, ground := .phase }, { on := 4, ground := .phase }, { on := 5, ground := .phase }, { on := 6, ground := .phase }, { on := 7, ground := .phase }, { on := 8, ground := .phase }, { on := 9, ground := .phase }, { on := 10, ground := .phase }, { on := 11, ground := .phase }, { on := 12, ground := .phase }, { on := 13, ground := .phase }, { on := 14, ground := .phase }, { on := 15, ground := .phase }, { on := 16, ground := .phase }, { on := 17, ground := .phase }, { on := 18, ground := .phase }, { on := 19, ground := .phase }, { on := 20, ground := .phase }, { on := 21, ground := .phase }, { on := 22, ground := .phase }, { on := 23, ground := .phase }], guard := none }) (v := ?v27_83) hG hsel (by kernel_rfl) (by kernel_rfl) (by kernel_rfl) (by kernel_rfl) (fun _ _ _ h => h) (Or.inl (And.intro (by kernel_rfl) ?q27_83)) hS0 ?r27_83
    case q27_83 => intro wx hx; obtain ⟨b, d, kx⟩ := hx; have y1 : wx.cell? ⟨w.heap.size, 1, none⟩ = some (.int .i64 (k : Int)) := kx.at_ 1; refine run_env [98] [?a27_83_98] (by kernel_rfl) (by kernel_rfl) (⟨?e27_83_98, trivial⟩) ?h27_83; (case e27_83_98 => ((conv => lhs; whnf); (try exact rfl))); (case h27_83 => ((try dsimp only); (try simp only [envL, lookV, if_true, if_false]); (try go_simp); (try with_reducible rfl)))
    (try simp only [Act.put, putS])
    refine rJ [28] ?_
    refine (AllReadyJ.last rfl (by kernel_rfl) (fun K hK => ?_) AllReadyJ.nil)
    (focus (rw [if_pos (by kernel_rfl)]; obtain ⟨b, d, kc⟩ := hS0; have y6 : World.cell? _ ⟨w.heap.size, 6, none⟩ = some (.int .u16 d) := kc.at_ 6; have f6 := kc.free 6; go_simp))
    (focus (try go_wp2_with fail))
    refine hK.out _ _ ?_
    clear hK K
    (try simp only [Act.put, putS])
    refine wpAnyJ_done (by kernel_rfl) ?_ _
  have bx : Below w8.heap.size w8 wb := bstep (bstep s12 ba) bb
  have ef : Em ((wb.setCell ⟨w.heap.size, 4, none⟩ (.int .u16 vs)).setCell ⟨w.heap.size, 6, none⟩ (.int .u16 vd)) w.heap.size s k ⟨17, va, vs, vb, vd⟩ false := Cells.like (Cells.set_ (Cells.set_ (Cells.below bx EM.out) 4 (.int .u16 vs)) 6 (.int .u16 vd)) (by simp [emCells])
  have lf : Below w.heap.size w ((wb.setCell ⟨w.heap.size, 4, none⟩ (.int .u16 vs)).setCell ⟨w.heap.size, 6, none⟩ (.int .u16 vd)) := Below.setCell (Below.setCell (bstep LW.out bx) (Nat.le_refl _) _) (Nat.le_refl _) _
  have EF := hide ef; have LF := hide lf
  clear ef lf bx sq hS0 s12 t12 EMS EM LW ba bb CS CD
  generalize ((wb.setCell ⟨w.heap.size, 4, none⟩ (.int .u16 vs)).setCell ⟨w.heap.size, 6, none⟩ (.int .u16 vd)) = wf at *
  go_wp2_with fail
  go_ret2
  exact ⟨_, rfl, Nat.le_refl _, by rw [← HK.out]; exact EF.out, LF.out⟩
set_option maxRecDepth 100000 in
set_option maxHeartbeats 8000000 in
theorem e_open_msg (w : World) (s : ByteArray) (hs : s.size ≤ 140737488351232) (h20 : 20 ≤ s.size) (hv : at_ (L s) 0 / 16 = 4) (g1 : ¬ emEnd (L s) < 20) (g2 : ¬ (s.size : Int) - 8 < emEnd (L s)) (g3 : be16 (L s) 6 % 8192 = 0) (K0 : Kinds w) (hp : at_ (L s) 9 = 1) :
    Calls Tryz.prog 56 #[.string s] w (fun en w' => ∃ W, Below w.heap.size w W ∧ w.heap.size < W.heap.size ∧ Asked W w.heap.size s (emAt (L s)) 1 (be32 (L s) 12) (be32 (L s) 16) (be16 (L s) (emAt (L s) + 4)) (qAsk (emMsg (L s))) (qIs (emMsg (L s))) en w') := by
  obtain ⟨RR, hRR⟩ : ∃ RR : Ending → World → Prop, RR = (fun en w' => ∃ W, Below w.heap.size w W ∧ w.heap.size < W.heap.size ∧ Asked W w.heap.size s (emAt (L s)) 1 (be32 (L s) 12) (be32 (L s) 16) (be16 (L s) (emAt (L s) + 4)) (qAsk (emMsg (L s))) (qIs (emMsg (L s))) en w') := ⟨_, rfl⟩
  rw [← hRR]
  have HRR := hide hRR
  clear hRR
  have hgg : ¬ ((emAt (L s) : Nat) : Int) < 20 ∧ ¬ (s.size : Int) - 8 < ((emAt (L s) : Nat) : Int) := by
    rw [show ((emAt (L s) : Nat) : Int) = emEnd (L s) from by unfold emAt; have := at_bd (L s) 0; unfold emEnd; omega]
    exact ⟨g1, g2⟩
  obtain ⟨f1, f2⟩ := hgg
  clear g1 g2
  have cA := fun W B (hc : W.cell? ⟨B, 0, none⟩ = some (.string s)) => e_addr W B s 12 hc hs ⟨by omega, by omega⟩
  have cB := fun W B (hc : W.cell? ⟨B, 0, none⟩ = some (.string s)) => e_addr W B s 16 hc hs ⟨by omega, by omega⟩
  rw [show get32 (L s) 12 = be32 (L s) 12 from get32_nat (k := 12) (by rw [L_length]; omega)] at cA
  rw [show get32 (L s) 16 = be32 (L s) 16 from get32_nat (k := 16) (by rw [L_length]; omega)] at cB
  have k9 : 9 < s.size := by omega
  have e9 : (((s[9]'k9).toNat : Nat) : Int) = at_ (L s) 9 := by rw [getElem_L s 9 (by omega)]; rfl
  have j9 : (9 : Int) < (s.size : Int) := by omega
  generalize be32 (L s) 12 = va at *
  generalize be32 (L s) 16 = vb at *
  generalize at_ (L s) 9 = p at *
  have HP := hide hp
  clear hp
  have CA := hide cA; have CB := hide cB
  clear cA cB
  have hsz : (s.size : Int) ≤ 140737488351232 := by omega
  have q2 : ¬ (s.size : Int) < 20 := by omega
  have i5 : 0 < s.size := by omega
  have e0 : (((s[0]'i5).toNat : Nat) : Int) = at_ (L s) 0 := by rw [getElem_L s 0 (by omega)]; rfl
  have hb := at_bd (L s) 0
  have i4 : (0 : Int) < (s.size : Int) := by omega
  have hkz : ((emAt (L s) : Nat) : Int) = at_ (L s) 0 % 16 * 4 := by unfold emAt emEnd; omega
  have cw := fun W B (hc : W.cell? ⟨B, 0, none⟩ = some (.string s)) => e_two W B s 6 hc hs ⟨by omega, by omega⟩
  rw [show get16 (L s) 6 = be16 (L s) 6 from get16_nat (k := 6) (by rw [L_length]; omega)] at cw
  have hv16 := be16_bd (L s) 6
  generalize be16 (L s) 6 = v at *
  obtain ⟨k, hk⟩ : ∃ k, k = emAt (L s) := ⟨_, rfl⟩
  rw [← hk] at hkz f1 f2 
  obtain ⟨x, hx⟩ : ∃ x, x = at_ (L s) 0 := ⟨_, rfl⟩
  rw [← hx] at e0 hb hv hkz
  have m1 : (x / 16 != 4) = false := by simpa using hv
  have m2 : (x / 16 == 4) = true := by simpa using hv
  obtain ⟨y, hy⟩ : ∃ y, y = x % 16 := ⟨_, rfl⟩
  have hand : bits .and .u8 x 15 = y := by rw [u8_and15 x hb.1 (by omega), hy]
  rw [← hy] at hkz
  have hyb : 0 ≤ y ∧ y ≤ 15 := by omega
  have wy : IntKind.i64.wrap y = y := IntWalk.i64_in _ (by omega)
  have wz : IntKind.i64.wrap (y * 4) = (k : Int) := by rw [IntWalk.i64_in _ (by omega), hkz]
  obtain ⟨l8, hl8⟩ : ∃ l8 : Int, l8 = (s.size : Int) - 8 := ⟨_, rfl⟩
  have w8 : IntKind.i64.wrap ((s.size : Int) - 8) = l8 := by rw [IntWalk.i64_in _ (by omega), hl8]
  obtain ⟨r, hr⟩ : ∃ r, r = v % 8192 := ⟨_, rfl⟩
  have hand2 : bits .and .u16 v 8191 = r := by rw [em_and13 hv16.1 (by omega), hr]
  have hkb : k ≤ 60 := by omega
  have CW := hide cw
  clear cw
  have F2 := hide f2
  rw [← hl8] at f2
  rw [← hr] at g3
  have HK := hide hk
  clear hx hy hkz hk hb hv hyb hl8 hr hv16 h20
  go_enter Tryz.func56, Tryz.ntmps56
  have d0 := Cells.new w #[.string s, .int .i64 0, .int .u8 0, .int .u32 0, .int .u16 0, .int .u32 0, .int .u16 0, .bool false] 79
  have bn := fresh_below w (.cells #[.string s, .int .i64 0, .int .u8 0, .int .u32 0, .int .u16 0, .int .u32 0, .int .u16 0, .bool false] 79)
  have z0 := d0.at_ 1; have zf := d0.free 1
  have D0 := hide d0; have BN := hide bn
  clear d0 bn
  go_upto_region 5 with fail
  have ec := Cells.new w #[.string s, .int .i64 (k : Int), .int .u8 0, .int .u32 0, .int .u16 0, .int .u32 0, .int .u16 0, .bool false] 79
  have eb := fresh_below w (.cells #[.string s, .int .i64 (k : Int), .int .u8 0, .int .u32 0, .int .u16 0, .int .u32 0, .int .u16 0, .bool false] 79)
  clear z0 zf D0 BN q2 m1 m2 hand wy wz
  generalize (w.alloc (.cells #[.string s, .int .i64 (k : Int), .int .u8 0, .int .u32 0, .int .u16 0, .int .u32 0, .int .u16 0, .bool false] 79)) = w5 at *
  have EC := hide ec; have EB := hide eb
  clear eb
  obtain ⟨qec_0, qec_1, qec_2, qec_3, qec_4, qec_5, qec_6, qec_7⟩ := ec.q8
  have bb : Below w5.heap.size w5 w5 := Below.refl _ _
  clear ec
  have h4 : (r != 0) = false := by rw [g3]; rfl
  go_upto_region 7 with (go_at_call 64; (with_reducible refine (CW.out _ _ (qec_0 _ (by assumption))).mono ?_); rintro e w6 ⟨rfl, b6⟩; have b6' := bstep (by assumption : Below w5.heap.size w5 _) b6; clear b6)
  clear h4 hand2 f1 f2 w8
  have s7 : Below w5.heap.size w5 w6.drew := Below.drew b6'
  clear bb
  focus
    refine wp_region_JG [16] (fun W => Below w5.heap.size w5 W) (by kernel_rfl) (by kernel_rfl) (s7) (fun hG hsel hS0 => ?_)
    refine wpAnyJ_takeG (i := 0) (oi := { dst := some 49, op := .move (.tmp 4), type := 73, pos := "embeds.go:66", after := #[], guard := none }) (v := ?v0_84) hG hsel (by kernel_rfl) (by kernel_rfl) (by kernel_rfl) (by kernel_rfl) (fun _ _ _ h => h) (Or.inl (And.intro (by kernel_rfl) ?q0_84)) hS0 ?r0_84
    case q0_84 => intro w hx; refine run_env [4] [?a0_84_4] (by kernel_rfl) (by kernel_rfl) (⟨?e0_84_4, trivial⟩) ?h0_84; (case e0_84_4 => ((conv => lhs; whnf); (try exact rfl))); (case h0_84 => ((try dsimp only); (try simp only [envL, lookV, if_true, if_false]); (try go_simp); (try with_reducible rfl)))
    (try simp only [Act.put, putS])
    refine wpAnyJ_takeG (i := 1) (oi := { dst := some 50, op := .move (.tmp 0), type := 9, pos := "embeds.go:66", after := #[], guard := none }) (v := ?v1_85) hG hsel (by kernel_rfl) (by kernel_rfl) (by kernel_rfl) (by kernel_rfl) (fun _ _ _ h => h) (Or.inl (And.intro (by kernel_rfl) ?q1_85)) hS0 ?r1_85
    case q1_85 => intro w hx; refine run_env [0] [?a1_85_0] (by kernel_rfl) (by kernel_rfl) (⟨?e1_85_0, trivial⟩) ?h1_85; (case e1_85_0 => ((conv => lhs; whnf); (try exact rfl))); (case h1_85 => ((try dsimp only); (try simp only [envL, lookV, if_true, if_false]); (try go_simp); (try with_reducible rfl)))
    (try simp only [Act.put, putS])
    refine wpAnyJ_takeG (i := 2) (oi := { dst := some 51, op := .index 9 (.tmp 50) (.const (Go.Value.int Go.IntKind.i64 9)), type := 5, pos := "embeds.go:66", after := #[{ on := 1, ground := .data }], guard := none }) (v := ?v2_86) hG hsel (by kernel_rfl) (by kernel_rfl) (by kernel_rfl) (by kernel_rfl) (fun _ _ _ h => h) (Or.inl (And.intro (by kernel_rfl) ?q2_86)) hS0 ?r2_86
    case q2_86 => intro w hx; refine run_env [50] [?a2_86_50] (by kernel_rfl) (by kernel_rfl) (⟨?e2_86_50, trivial⟩) ?h2_86; (case e2_86_50 => ((conv => lhs; whnf); (try exact rfl))); (case h2_86 => ((try dsimp only); (try simp only [envL, lookV, if_true, if_false]); (try go_simp); (try with_reducible rfl)))
    (try simp only [Act.put, putS])
    refine wpAnyJ_takeG (i := 3) (oi := { dst := some 52, op := .move (.tmp 4), type := 73, pos := "embeds.go:66", after := #[], guard := none }) (v := ?v3_87) hG hsel (by kernel_rfl) (by kernel_rfl) (by kernel_rfl) (by kernel_rfl) (fun _ _ _ h => h) (Or.inl (And.intro (by kernel_rfl) ?q3_87)) hS0 ?r3_87
    case q3_87 => intro w hx; refine run_env [4] [?a3_87_4] (by kernel_rfl) (by kernel_rfl) (⟨?e3_87_4, trivial⟩) ?h3_87; (case e3_87_4 => ((conv => lhs; whnf); (try exact rfl))); (case h3_87 => ((try dsimp only); (try simp only [envL, lookV, if_true, if_false]); (try go_simp); (try with_reducible rfl)))
    (try simp only [Act.put, putS])
    refine wpAnyJ_takeG (i := 4) (oi := { dst := some 53, op := .nilCheck (.tmp 52), type := 0, pos := "embeds.go:66", after := #[{ on := 3, ground := .data }], guard := none }) (v := ?v4_88) hG hsel (by kernel_rfl) (by kernel_rfl) (by kernel_rfl) (by kernel_rfl) (fun _ _ _ h => h) (Or.inl (And.intro (by kernel_rfl) ?q4_88)) hS0 ?r4_88
    case q4_88 => intro w hx; refine run_env [52] [?a4_88_52] (by kernel_rfl) (by kernel_rfl) (⟨?e4_88_52, trivial⟩) ?h4_88; (case e4_88_52 => ((conv => lhs; whnf); (try exact rfl))); (case h4_88 => ((try dsimp only); (try simp only [envL, lookV, if_true, if_false]); (try go_simp); (try with_reducible rfl)))
    (try simp only [Act.put, putS])
    refine wpAnyJ_takeG (i := 5) (oi := { dst := some 54, op := .fieldAddr 79 (.tmp 53) 0, type := 0, pos := "embeds.go:66", after := #[{ on := 4, ground := .data }], guard := none }) (v := ?v5_89) hG hsel (by kernel_rfl) (by kernel_rfl) (by kernel_rfl) (by kernel_rfl) (fun _ _ _ h => h) (Or.inl (And.intro (by kernel_rfl) ?q5_89)) hS0 ?r5_89
    case q5_89 => intro w hx; refine run_env [53] [?a5_89_53] (by kernel_rfl) (by kernel_rfl) (⟨?e5_89_53, trivial⟩) ?h5_89; (case e5_89_53 => ((conv => lhs; whnf); (try exact rfl))); (case h5_89 => ((try dsimp only); (try simp only [envL, lookV, if_true, if_false]); (try go_simp); (try with_reducible rfl)))
    (try simp only [Act.put, putS])
    refine wpAnyJ_takeG (i := 8) (oi := { dst := some 57, op := .move (.tmp 4), type := 73, pos := "embeds.go:66", after := #[], guard := none }) (v := ?v8_90) hG hsel (by kernel_rfl) (by kernel_rfl) (by kernel_rfl) (by kernel_rfl) (fun _ _ _ h => h) (Or.inl (And.intro (by kernel_rfl) ?q8_90)) hS0 ?r8_90
    case q8_90 => intro w hx; refine run_env [4] [?a8_90_4] (by kernel_rfl) (by kernel_rfl) (⟨?e8_90_4, trivial⟩) ?h8_90; (case e8_90_4 => ((conv => lhs; whnf); (try exact rfl))); (case h8_90 => ((try dsimp only); (try simp only [envL, lookV, if_true, if_false]); (try go_simp); (try with_reducible rfl)))
    (try simp only [Act.put, putS])
    refine wpAnyJ_takeG (i := 9) (oi := { dst := some 58, op := .nilCheck (.tmp 57), type := 0, pos := "embeds.go:66", after := #[{ on := 8, ground := .data }], guard := none }) (v := ?v9_91) hG hsel (by kernel_rfl) (by kernel_rfl) (by kernel_rfl) (by kernel_rfl) (fun _ _ _ h => h) (Or.inl (And.intro (by kernel_rfl) ?q9_91)) hS0 ?r9_91
    case q9_91 => intro w hx; refine run_env [57] [?a9_91_57] (by kernel_rfl) (by kernel_rfl) (⟨?e9_91_57, trivial⟩) ?h9_91; (case e9_91_57 => ((conv => lhs; whnf); (try exact rfl))); (case h9_91 => ((try dsimp only); (try simp only [envL, lookV, if_true, if_false]); (try go_simp); (try with_reducible rfl)))
    (try simp only [Act.put, putS])
    refine wpAnyJ_takeG (i := 10) (oi := { dst := some 59, op := .fieldAddr 79 (.tmp 58) 0, type := 0, pos := "embeds.go:66", after := #[{ on := 9, ground := .data }], guard := none }) (v := ?v10_92) hG hsel (by kernel_rfl) (by kernel_rfl) (by kernel_rfl) (by kernel_rfl) (fun _ _ _ h => h) (Or.inl (And.intro (by kernel_rfl) ?q10_92)) hS0 ?r10_92
    case q10_92 => intro w hx; refine run_env [58] [?a10_92_58] (by kernel_rfl) (by kernel_rfl) (⟨?e10_92_58, trivial⟩) ?h10_92; (case e10_92_58 => ((conv => lhs; whnf); (try exact rfl))); (case h10_92 => ((try dsimp only); (try simp only [envL, lookV, if_true, if_false]); (try go_simp); (try with_reducible rfl)))
    (try simp only [Act.put, putS])
    refine rJ [6] ?_
    refine (AllReadyJ.cons rfl (fun K hK => ?_) AllReadyJ.nil)
    rw [if_pos (by kernel_rfl)]
    (try simp only [putG])
    (focus go_simp)
    (focus ((with_reducible refine (CA.out _ _ (qec_0 _ hS0)).mono ?_); rintro e wa ⟨rfl, ba⟩; have sq := bstep hS0 ba))
    (focus (try go_wp2_with fail))
    refine hK.out _ _ ?hs (fun hS0 => ?_)
    case hs => (first | with_reducible exact hS0 | with_reducible exact sq)
    clear hK K
    (try simp only [Act.put, putS])
    refine wpAnyJ_takeG (i := 7) (oi := { dst := some 56, op := .build 26 #[(0, .tmp 55)], type := 26, pos := "embeds.go:66", after := #[{ on := 6, ground := .data }], guard := none }) (v := ?v7_93) hG hsel (by kernel_rfl) (by kernel_rfl) (by kernel_rfl) (by kernel_rfl) (fun _ _ _ h => h) (Or.inl (And.intro (by kernel_rfl) ?q7_93)) hS0 ?r7_93
    case q7_93 => intro w hx; refine run_env [55] [?a7_93_55] (by kernel_rfl) (by kernel_rfl) (⟨?e7_93_55, trivial⟩) ?h7_93; (case e7_93_55 => ((conv => lhs; whnf); (try exact rfl))); (case h7_93 => ((try dsimp only); (try simp only [envL, lookV, if_true, if_false]); (try go_simp); (try with_reducible rfl)))
    (try simp only [Act.put, putS])
    refine rJ [11] ?_
    refine (AllReadyJ.cons rfl (fun K hK => ?_) AllReadyJ.nil)
    rw [if_pos (by kernel_rfl)]
    (try simp only [putG])
    (focus go_simp)
    (focus ((with_reducible refine (CB.out _ _ (qec_0 _ hS0)).mono ?_); rintro e wb ⟨rfl, bb2⟩; have sq := bstep hS0 bb2))
    (focus (try go_wp2_with fail))
    refine hK.out _ _ ?hs (fun hS0 => ?_)
    case hs => (first | with_reducible exact hS0 | with_reducible exact sq)
    clear hK K
    (try simp only [Act.put, putS])
    refine wpAnyJ_takeG (i := 12) (oi := { dst := some 61, op := .build 26 #[(0, .tmp 60)], type := 26, pos := "embeds.go:66", after := #[{ on := 11, ground := .data }], guard := none }) (v := ?v12_94) hG hsel (by kernel_rfl) (by kernel_rfl) (by kernel_rfl) (by kernel_rfl) (fun _ _ _ h => h) (Or.inl (And.intro (by kernel_rfl) ?q12_94)) hS0 ?r12_94
    case q12_94 => intro w hx; refine run_env [60] [?a12_94_60] (by kernel_rfl) (by kernel_rfl) (⟨?e12_94_60, trivial⟩) ?h12_94; (case e12_94_60 => ((conv => lhs; whnf); (try exact rfl))); (case h12_94 => ((try dsimp only); (try simp only [envL, lookV, if_true, if_false]); (try go_simp); (try with_reducible rfl)))
    (try simp only [Act.put, putS])
    refine wpAnyJ_takeG (i := 13) (oi := { dst := some 62, op := .build 33 #[(0, .tmp 51), (1, .tmp 56), (2, .tmp 61)], type := 33, pos := "embeds.go:66", after := #[{ on := 2, ground := .data }, { on := 7, ground := .data }, { on := 12, ground := .data }], guard := none }) (v := ?v13_95) hG hsel (by kernel_rfl) (by kernel_rfl) (by kernel_rfl) (by kernel_rfl) (fun _ _ _ h => h) (Or.inl (And.intro (by kernel_rfl) ?q13_95)) hS0 ?r13_95
    case q13_95 => intro w hx; refine run_env [51, 56, 61] [?a13_95_51, ?a13_95_56, ?a13_95_61] (by kernel_rfl) (by kernel_rfl) (⟨?e13_95_51, ?e13_95_56, ?e13_95_61, trivial⟩) ?h13_95; (case e13_95_51 => ((conv => lhs; whnf); (try exact rfl))); (case e13_95_56 => ((conv => lhs; whnf); (try exact rfl))); (case e13_95_61 => ((conv => lhs; whnf); (try exact rfl))); (case h13_95 => ((try dsimp only); (try simp only [envL, lookV, if_true, if_false]); (try go_simp); (try with_reducible rfl)))
    (try simp only [Act.put, putS])
    refine rJ [14] ?_
    refine (AllReadyJ.cons rfl (fun K hK => ?_) AllReadyJ.nil)
    rw [if_pos (by kernel_rfl)]
    (try simp only [putG])
    (focus go_simp)
    refine hK.out _ _ ?hs (fun hS0 => ?_)
    case hs => (first | with_reducible exact hS0 | with_reducible exact sq)
    clear hK K
    (try simp only [Act.put, putS])
    refine wpAnyJ_takeG (i := 15) (oi := { dst := some 64, op := .fieldAddr 79 (.tmp 63) 2, type := 0, pos := "embeds.go:66", after := #[{ on := 14, ground := .data }, { on := 0, ground := .phase }, { on := 1, ground := .phase }, { on := 2, ground := .phase }, { on := 3, ground := .phase }, { on := 4, ground := .phase }, { on := 5, ground := .phase }, { on := 6, ground := .phase }, { on := 7, ground := .phase }, { on := 8, ground := .phase }, { on := 9, ground := .phase }, { on := 10, ground := .phase }, { on := 11, ground := .phase }, { on := 12, ground := .phase }, { on := 13, ground := .phase }], guard := none }) (v := ?v15_96) hG hsel (by kernel_rfl) (by kernel_rfl) (by kernel_rfl) (by kernel_rfl) (fun _ _ _ h => h) (Or.inl (And.intro (by kernel_rfl) ?q15_96)) hS0 ?r15_96
    case q15_96 => intro w hx; refine run_env [63] [?a15_96_63] (by kernel_rfl) (by kernel_rfl) (⟨?e15_96_63, trivial⟩) ?h15_96; (case e15_96_63 => ((conv => lhs; whnf); (try exact rfl))); (case h15_96 => ((try dsimp only); (try simp only [envL, lookV, if_true, if_false]); (try go_simp); (try with_reducible rfl)))
    (try simp only [Act.put, putS])
    refine rJ [16] ?_
    refine (AllReadyJ.last rfl (by kernel_rfl) (fun K hK => ?_) AllReadyJ.nil)
    (focus (rw [if_pos (by kernel_rfl)]; have kc := Cells.below hS0 EC.out; have y2 := kc.at_ 2; have y3 := kc.at_ 3; have y4 := kc.at_ 4; have y5 := kc.at_ 5; have y6 := kc.at_ 6; have f2 := kc.free 2; have f3 := kc.free 3; have f4 := kc.free 4; have f5 := kc.free 5; have f6 := kc.free 6; clear kc; go_simp))
    (focus (try go_wp2_with fail))
    refine hK.out _ _ ?_
    clear hK K
    (try simp only [Act.put, putS])
    refine wpAnyJ_done (by kernel_rfl) ?_ _
  have em : Em (((((wb.setCell ⟨w.heap.size, 2, none⟩ (.int .u8 p)).setCell ⟨w.heap.size, 3, none⟩ (.int .u32 va)).setCell ⟨w.heap.size, 4, none⟩ (.int .u16 0)).setCell ⟨w.heap.size, 5, none⟩ (.int .u32 vb)).setCell ⟨w.heap.size, 6, none⟩ (.int .u16 0)) w.heap.size s k ⟨p, va, 0, vb, 0⟩ false := Cells.like (Cells.set_ (Cells.set_ (Cells.set_ (Cells.set_ (Cells.set_ (Cells.below hS0 EC.out) 2 (.int .u8 p)) 3 (.int .u32 va)) 4 (.int .u16 0)) 5 (.int .u32 vb)) 6 (.int .u16 0)) (by simp [emCells])
  have lw : Below w.heap.size w (((((wb.setCell ⟨w.heap.size, 2, none⟩ (.int .u8 p)).setCell ⟨w.heap.size, 3, none⟩ (.int .u32 va)).setCell ⟨w.heap.size, 4, none⟩ (.int .u16 0)).setCell ⟨w.heap.size, 5, none⟩ (.int .u32 vb)).setCell ⟨w.heap.size, 6, none⟩ (.int .u16 0)) := Below.setCell (Below.setCell (Below.setCell (Below.setCell (Below.setCell (bstep EB.out hS0) (Nat.le_refl _) _) (Nat.le_refl _) _) (Nat.le_refl _) _) (Nat.le_refl _) _) (Nat.le_refl _) _
  have EM := hide em; have LW := hide lw
  clear em lw s7 sq ba bb2 b6' hS0 qec_0 qec_1 qec_2 qec_3 qec_4 qec_5 qec_6 qec_7 EC EB CA CB CW
  generalize (((((wb.setCell ⟨w.heap.size, 2, none⟩ (.int .u8 p)).setCell ⟨w.heap.size, 3, none⟩ (.int .u32 va)).setCell ⟨w.heap.size, 4, none⟩ (.int .u16 0)).setCell ⟨w.heap.size, 5, none⟩ (.int .u32 vb)).setCell ⟨w.heap.size, 6, none⟩ (.int .u16 0)) = w8 at *
  have kc := EM.out
  have y2 : w8.cell? ⟨w.heap.size, 2, none⟩ = some (.int .u8 p) := kc.at_ 2
  clear kc
  have hp := HP.out
  subst hp
  have cq := e_query w8 w.heap.size s k 1 va vb EM.out (K0.below LW.out) hs (by have := F2.out; omega)
  have hB : w.heap.size < w8.heap.size := Cells.lt EM.out
  have hm0 : (⟨at_ (L s) k, at_ (L s) (k + 1), 0, { data := #[] }, { data := #[] }⟩ : Msg) = emMsg (L s) := by unfold emMsg; rw [← HK.out]
  rw [hm0] at cq
  have fin' : ∀ en wz, Asked w8 w.heap.size s k 1 va vb (be16 (L s) (k + 4)) (qAsk (emMsg (L s))) (qIs (emMsg (L s))) en wz → RR en wz := fun en wz hz => by rw [HRR.out]; exact ⟨w8, LW.out, hB, by rw [← HK.out]; exact hz⟩
  clear hm0 HRR
  generalize qAsk (emMsg (L s)) = ask at *
  generalize qIs (emMsg (L s)) = is at *
  generalize be16 (L s) (k + 4) = id at *
  unfold Asked at cq fin'
  cases is with
  | false =>
    simp only [Bool.false_eq_true, if_false] at cq fin'
    have CQ := hide cq; have FIN := hide fin'
    clear cq fin' hs hkb
    go_wp2_with (go_at_call 105; (refine (CQ.out).mono ?_); rintro e wz ⟨rfl, hz⟩)
    exact FIN.out _ _ ⟨rfl, hz⟩
  | true =>
    simp only [if_true] at cq fin'
    have CQ := hide cq; have FIN := hide fin'
    clear cq fin' hs hkb
    go_wp2_with (go_at_call 105; (refine (CQ.out).mono ?_); rintro e wz ⟨rfl, hz1, hz2⟩)
    exact FIN.out _ _ ⟨rfl, hz1, hz2⟩
theorem e_open (w : World) (s : ByteArray) (K0 : Kinds w) (hs : s.size ≤ 140737488351232) : Calls Tryz.prog 56 #[.string s] w (Opened w s) := by
  have hb := at_bd (L s) 0
  have hL : ((L s).length : Int) = (s.size : Int) := by rw [L_length]
  have hno : ∀ r, emWhy (L s) = r → r ≠ 0 → Calls Tryz.prog 56 #[.string s] w (Ret (.tuple #[.pointer none, .int .i64 r]) w) → Calls Tryz.prog 56 #[.string s] w (Opened w s) := fun r h1 h2 h3 => h3.mono (by
    rintro e w' ⟨rfl, hb⟩
    unfold Opened
    rw [h1, if_neg h2]
    exact ⟨rfl, hb⟩)
  have hyes : ∀ t q, emWhy (L s) = 0 → emTup (L s) = t → emAsk (L s) = q → Calls Tryz.prog 56 #[.string s] w (fun en w' => ∃ B, en = .returned (.tuple #[.pointer (some ⟨B, 0, none⟩), .int .i64 0]) ∧ w.heap.size ≤ B ∧ Em w' B s (emAt (L s)) t q ∧ Below w.heap.size w w') → Calls Tryz.prog 56 #[.string s] w (Opened w s) := fun t q h1 h2 h3 h4 => h4.mono (by
    intro e w' h
    unfold Opened
    rw [if_pos h1, h2, h3]
    exact h)
  by_cases c1 : ((L s).length : Int) < 20 ∨ at_ (L s) 0 / 16 ≠ 4
  · exact hno 15 (by unfold emWhy; rw [if_pos c1]) (by decide) (e_open_early w s hs (by omega))
  by_cases c2 : emEnd (L s) < 20 ∨ ((L s).length : Int) - 8 < emEnd (L s) ∨ be16 (L s) 6 % 8192 ≠ 0
  · exact hno 15 (by unfold emWhy; rw [if_neg c1, if_pos c2]) (by decide) (e_open_mid w s hs (by omega) (by omega) (by omega))
  have g20 : 20 ≤ s.size := by omega
  have gv : at_ (L s) 0 / 16 = 4 := by omega
  have g1 : ¬ emEnd (L s) < 20 := by omega
  have g2 : ¬ (s.size : Int) - 8 < emEnd (L s) := by omega
  have g3 : be16 (L s) 6 % 8192 = 0 := by omega
  by_cases p6 : at_ (L s) 9 = 6
  · exact hyes _ false (by unfold emWhy; rw [if_neg c1, if_neg c2, if_pos (Or.inl p6)]) (by unfold emTup; rw [if_pos (Or.inl p6), p6]) (by unfold emAsk; rw [p6]; rfl) (e_open_flow6 w s hs g20 gv g1 g2 g3 p6)
  by_cases p17 : at_ (L s) 9 = 17
  · exact hyes _ false (by unfold emWhy; rw [if_neg c1, if_neg c2, if_pos (Or.inr p17)]) (by unfold emTup; rw [if_pos (Or.inr p17), p17]) (by unfold emAsk; rw [p17]; rfl) (e_open_flow17 w s hs g20 gv g1 g2 g3 p17)
  by_cases p1 : at_ (L s) 9 = 1
  · have hw : emWhy (L s) = if qIs (emMsg (L s)) = true then 0 else 15 := by unfold emWhy; rw [if_neg c1, if_neg c2, if_neg (by omega), if_neg (by omega)]
    refine (e_open_msg w s hs g20 gv g1 g2 g3 K0 p1).mono ?_
    rintro e w' ⟨W, hb, hlt, hq⟩
    unfold Asked at hq
    unfold Opened
    rw [hw]
    cases his : qIs (emMsg (L s)) with
    | false =>
      rw [his] at hq
      simp only [Bool.false_eq_true, if_false] at hq ⊢
      rw [if_neg (by decide)]
      exact ⟨hq.1, bstep hb hq.2⟩
    | true =>
      rw [his] at hq
      simp only [if_true] at hq ⊢
      obtain ⟨h1, h2, h3⟩ := hq
      refine ⟨_, h1, Nat.le_refl _, ?_, hb.trans (h3.below (fun j e => by omega) hb.size)⟩
      have e1 : emAsk (L s) = qAsk (emMsg (L s)) := by unfold emAsk; rw [p1]; rfl
      have e2 : emTup (L s) = if qAsk (emMsg (L s)) = true then ⟨1, be32 (L s) 12, be16 (L s) (emAt (L s) + 4), be32 (L s) 16, 0⟩ else ⟨1, be32 (L s) 12, 0, be32 (L s) 16, be16 (L s) (emAt (L s) + 4)⟩ := by unfold emTup; rw [if_neg (by omega), p1]
      rw [e1, e2]
      exact h2
  · exact hno 6 (by unfold emWhy; rw [if_neg c1, if_neg c2, if_neg (by omega), if_pos p1]) (by decide) (e_open_other w s hs g20 gv g1 g2 g3 ⟨p6, p17, p1⟩)
end Go.Proofs.YtjeaknipmdfkdaaGreatDoor
end

section
/- embeds.about, embeds.Inner, over this program. -/
set_option linter.unusedVariables false
set_option linter.unusedSimpArgs false
namespace Go.Proofs.YtjeaknipmdfkdaaGreatDoor
open Go.RowKit
attribute [local go_sem] Oper.semAt_some envL lookV

variable {P : Program}
theorem res_cell_tmp2 {fn : Func} {tmps : Array Value} {w : World} {a b b2 : Nat} {t : TypeId} (hf : fn.results = #[.cell a t, .tmp b, .tmp b2]) {g : Nat} {c : Array Value} {T : TypeId} (hC : Cells w g c T) (hx : tmps.getD a undef = .pointer (some ⟨g, 0, none⟩)) {v v2 : Value} (hv : tmps.getD b undef = v) (hv2 : tmps.getD b2 undef = v2) (d : TypeDesc) (hu : P.underlying t = some d) (hd : d.isRow = true) (hi : (P.info? t).map (·.size) = some c.size) :
    (results fn tmps).run P w = .ok (.tuple #[.agg c, v, v2]) w := by
  have hl := run_load_all (P := P) t hC d hu hd hi
  have hx' : tmps[a]?.getD undef = .pointer (some ⟨g, 0, none⟩) := by simpa using hx
  subst hv hv2
  simp [results, hf, hx', asAddr, hl, Sem.run_bind, Sem.run_pure, Result.andThen_ok]
/-- what about leaves -/
def Abouts (w : World) (s : ByteArray) (en : Ending) (w' : World) : Prop :=
  if emsWhy s = 0 then ∃ B, en = .returned (.tuple #[.agg #[.int .u8 (msgOf (ipRest s)).t, .int .u8 (msgOf (ipRest s)).c, .int .u16 (msgOf (ipRest s)).n, .string (msgOf (ipRest s)).r, .string (msgOf (ipRest s)).d], .pointer (some ⟨B, 0, none⟩), .int .i64 0]) ∧ w.heap.size ≤ B ∧ Em w' B (emData s) (emAt (L (emData s))) (emTup (L (emData s))) (emAsk (L (emData s))) ∧ Below w.heap.size w w'
  else ∃ m : Msg, en = .returned (.tuple #[.agg #[.int .u8 m.t, .int .u8 m.c, .int .u16 m.n, .string m.r, .string m.d], .pointer none, .int .i64 (emsWhy s)]) ∧ Below w.heap.size w w'
set_option maxRecDepth 100000 in
set_option maxHeartbeats 8000000 in
theorem e_about (w : World) (s : ByteArray) (K0 : Kinds w) (hs : s.size ≤ 140737488351232) : Calls Tryz.prog 28 #[.string s] w (Abouts w s) := by
  obtain ⟨x, hx⟩ : ∃ x, x = seenOf s := ⟨_, rfl⟩
  have co := fun W (hW : Below w.heap.size w W) => tu_Of s W (K0.below hW) hs
  rw [← hx] at co
  unfold Seen.cells at co
  obtain ⟨RV, hRV⟩ : ∃ RV : Ending → World → Prop, RV = Abouts w s := ⟨_, rfl⟩
  rw [← hRV]
  have HRV := hide hRV
  by_cases h1 : seenWhy s = 0
  rotate_left 1
  · have hno : emsWhy s = seenWhy s := by unfold emsWhy; rw [if_pos h1]
    have fin : ∀ W (m : Msg), Below w.heap.size w W → RV (.returned (.tuple #[.agg #[.int .u8 m.t, .int .u8 m.c, .int .u16 m.n, .string m.r, .string m.d], .pointer none, .int .i64 (seenWhy s)])) W := fun W m hW => by
      rw [hRV]
      unfold Abouts
      rw [hno, if_neg h1]
      exact ⟨m, rfl, hW⟩
    have hr : (seenWhy s != 0) = true := by simpa using h1
    have FIN := hide fin
    generalize seenWhy s = r at *
    have CO := hide co
    clear co h1 hno fin hx hRV HRV K0 hs
    go_enter Tryz.func28, Tryz.ntmps28
    have d0 := Cells.new w #[.int .u8 0, .int .u8 0, .int .u16 0, .string { data := #[] }, .string { data := #[] }] 64
    have bn := fresh_below w (.cells #[.int .u8 0, .int .u8 0, .int .u16 0, .string { data := #[] }, .string { data := #[] }] 64)
    have D0 := hide d0; have BN := hide bn
    clear d0 bn
    go_upto_region 1 with fail
    generalize (w.alloc (.cells #[.int .u8 0, .int .u8 0, .int .u16 0, .string { data := #[] }, .string { data := #[] }] 64)) = w1 at *
    go_upto_region 3 with (go_at_call 19; (with_reducible refine (CO.out _ BN.out).mono ?_); rintro e w2 ⟨rfl, b2⟩)
    have bz := bstep b2 (fresh_below w2 (.cells #[.int .u8 x.t.p, .int .u32 x.t.a, .int .u16 x.t.b, .int .u32 x.t.c, .int .u16 x.t.d, .int .i64 x.k, .int .u8 x.f, .bool x.q, .int .u8 x.l] 58))
    have HZ := hide (Cells.below bz D0.out); have LW := hide (bstep BN.out bz)
    clear bz b2 D0 BN hr
    refine wp_region_lit ?_
    refine wpList_plain rfl fun K hK => ?_; go_simp; refine hK _ _ ?_; clear hK K
    refine wpList_plain rfl fun K hK => ?_; go_simp; refine hK _ _ ?_; clear hK K
    refine wpList_store_all rfl 64 (.tmp 2) (.tmp 21) rfl (c' := #[.int .u8 0, .int .u8 0, .int .u16 0, .string { data := #[] }, .string { data := #[] }]) HZ.out (by rfl) (by rfl) (by kernel_rfl) rfl (by simp [Value.oneCell']) ?_
    intro W5 r5 o5 z5
    go_wp2_with fail
    (try simp only [Exit.inBlock, Exit.then])
    refine bodyPost_ret (res_cell_tmp2 Tryz.results28 r5 (by rfl) (by rfl) (by rfl) _ Tryz.underlying64 rfl (by kernel_rfl)) rfl ?_
    exact FIN.out _ ⟨0, 0, 0, { data := #[] }, { data := #[] }⟩ (LW.out.trans (o5.below (fun j e => by omega) LW.out.size))
  by_cases h2 : (seenOf s).k = 3
  rotate_left 1
  · have hno : emsWhy s = 15 := by unfold emsWhy; rw [if_neg (by omega), if_pos h2]
    have fin : ∀ W (m : Msg), Below w.heap.size w W → RV (.returned (.tuple #[.agg #[.int .u8 m.t, .int .u8 m.c, .int .u16 m.n, .string m.r, .string m.d], .pointer none, .int .i64 15])) W := fun W m hW => by
      rw [hRV]
      unfold Abouts
      rw [hno, if_neg (by decide)]
      exact ⟨m, rfl, hW⟩
    rw [← hx] at h2
    have hr : (x.k != 3) = true := by simpa using h2
    have FIN := hide fin
    rw [h1] at co
    have CO := hide co
    clear co h1 h2 hno fin hx hRV HRV K0 hs
    go_enter Tryz.func28, Tryz.ntmps28
    have d0 := Cells.new w #[.int .u8 0, .int .u8 0, .int .u16 0, .string { data := #[] }, .string { data := #[] }] 64
    have bn := fresh_below w (.cells #[.int .u8 0, .int .u8 0, .int .u16 0, .string { data := #[] }, .string { data := #[] }] 64)
    have D0 := hide d0; have BN := hide bn
    clear d0 bn
    go_upto_region 1 with fail
    generalize (w.alloc (.cells #[.int .u8 0, .int .u8 0, .int .u16 0, .string { data := #[] }, .string { data := #[] }] 64)) = w1 at *
    go_upto_region 2 with (go_at_call 19; (with_reducible refine (CO.out _ BN.out).mono ?_); rintro e w2 ⟨rfl, b2⟩)
    have bz := bstep b2 (fresh_below w2 (.cells #[.int .u8 x.t.p, .int .u32 x.t.a, .int .u16 x.t.b, .int .u32 x.t.c, .int .u16 x.t.d, .int .i64 x.k, .int .u8 x.f, .bool x.q, .int .u8 x.l] 58))
    have nn := Cells.new w2 #[.int .u8 x.t.p, .int .u32 x.t.a, .int .u16 x.t.b, .int .u32 x.t.c, .int .u16 x.t.d, .int .i64 x.k, .int .u8 x.f, .bool x.q, .int .u8 x.l] 58
    have HZ := hide (Cells.below bz D0.out); have LW := hide (bstep BN.out bz)
    have y5 := nn.at_ 5
    clear bz b2 D0 BN nn
    generalize (w2.alloc (.cells #[.int .u8 x.t.p, .int .u32 x.t.a, .int .u16 x.t.b, .int .u32 x.t.c, .int .u16 x.t.d, .int .i64 x.k, .int .u8 x.f, .bool x.q, .int .u8 x.l] 58)) = w3 at *
    go_upto_region 5 with fail
    clear y5 hr
    refine wp_region_lit ?_
    refine wpList_plain rfl fun K hK => ?_; go_simp; refine hK _ _ ?_; clear hK K
    refine wpList_store_all rfl 64 (.tmp 2) (.tmp 27) rfl (c' := #[.int .u8 0, .int .u8 0, .int .u16 0, .string { data := #[] }, .string { data := #[] }]) HZ.out (by rfl) (by rfl) (by kernel_rfl) rfl (by simp [Value.oneCell']) ?_
    intro W5 r5 o5 z5
    go_wp2_with fail
    (try simp only [Exit.inBlock, Exit.then])
    refine bodyPost_ret (res_cell_tmp2 Tryz.results28 r5 (by rfl) (by rfl) (by rfl) _ Tryz.underlying64 rfl (by kernel_rfl)) rfl ?_
    exact FIN.out _ ⟨0, 0, 0, { data := #[] }, { data := #[] }⟩ (LW.out.trans (o5.below (fun j e => by omega) LW.out.size))
  obtain ⟨H, P, R, hsw, hw, _, _, _, hrest, _, hp8, _, _⟩ := err_whole h1 h2
  have hsz : (ipRest s).size ≤ 2048 := by rw [hrest, S_size]; have := hw.big; omega
  have h8 : 8 ≤ (ipRest s).size := by rw [hrest, S_size]; exact hp8
  have hems : emsWhy s = emWhy (L (emData s)) := by unfold emsWhy; rw [if_neg (by omega), if_neg (by omega)]
  have hdz : (emData s).size ≤ 2048 := by rw [(emData_of hrest).1, S_size, List.length_drop]; rw [hrest, S_size] at hsz; omega
  have cp := fun W => ip_Parse s W hs
  have cm := fun W => i_Parse_yes (ipRest s) W (by omega) h8
  have cop := fun W (hW : Below w.heap.size w W) => e_open W (emData s) (K0.below hW) (by omega)
  rw [show (msgOf (ipRest s)).d = emData s from rfl] at cm
  have fin0 : ∀ W B, emWhy (L (emData s)) = 0 → w.heap.size ≤ B → Em W B (emData s) (emAt (L (emData s))) (emTup (L (emData s))) (emAsk (L (emData s))) → Below w.heap.size w W → RV (.returned (.tuple #[.agg #[.int .u8 (msgOf (ipRest s)).t, .int .u8 (msgOf (ipRest s)).c, .int .u16 (msgOf (ipRest s)).n, .string (msgOf (ipRest s)).r, .string (emData s)], .pointer (some ⟨B, 0, none⟩), .int .i64 0])) W := fun W B k1 k2 k3 k4 => by
    rw [hRV]
    unfold Abouts
    rw [hems, if_pos k1]
    exact ⟨B, rfl, k2, k3, k4⟩
  have fin1 : ∀ W (m : Msg) r, emWhy (L (emData s)) = r → r ≠ 0 → Below w.heap.size w W → RV (.returned (.tuple #[.agg #[.int .u8 m.t, .int .u8 m.c, .int .u16 m.n, .string m.r, .string m.d], .pointer none, .int .i64 r])) W := fun W m r k1 k2 k3 => by
    rw [hRV]
    unfold Abouts
    rw [hems, k1, if_neg k2]
    exact ⟨m, rfl, k3⟩
  rw [← hx] at h2
  have hr : (x.k != 3) = false := by rw [h2]; rfl
  rw [h1] at co
  obtain ⟨h, hh⟩ : ∃ h, h = hdRes s := ⟨_, rfl⟩
  rw [← hh] at cp
  unfold Hd.cells at cp
  generalize ipRest s = rest at *
  generalize emData s = dt at *
  obtain ⟨m, hm⟩ : ∃ m, m = msgOf rest := ⟨_, rfl⟩
  rw [← hm] at cm fin0
  generalize ipWhy s = iw at *
  have CO := hide co; have CP := hide cp; have CM := hide cm; have COP := hide cop; have FIN0 := hide fin0; have FIN1 := hide fin1
  clear co cp cm cop fin0 fin1 h1 h2 hx hh hm hRV HRV K0 hs hsw hw hrest hp8 hsz h8 hems hdz
  go_enter Tryz.func28, Tryz.ntmps28
  have d0 := Cells.new w #[.int .u8 0, .int .u8 0, .int .u16 0, .string { data := #[] }, .string { data := #[] }] 64
  have bn := fresh_below w (.cells #[.int .u8 0, .int .u8 0, .int .u16 0, .string { data := #[] }, .string { data := #[] }] 64)
  have D0 := hide d0; have BN := hide bn
  clear d0 bn
  go_upto_region 1 with fail
  generalize (w.alloc (.cells #[.int .u8 0, .int .u8 0, .int .u16 0, .string { data := #[] }, .string { data := #[] }] 64)) = w1 at *
  go_upto_region 2 with (go_at_call 19; (with_reducible refine (CO.out _ BN.out).mono ?_); rintro e w2 ⟨rfl, b2⟩)
  have bz := bstep b2 (fresh_below w2 (.cells #[.int .u8 x.t.p, .int .u32 x.t.a, .int .u16 x.t.b, .int .u32 x.t.c, .int .u16 x.t.d, .int .i64 x.k, .int .u8 x.f, .bool x.q, .int .u8 x.l] 58))
  have nn := Cells.new w2 #[.int .u8 x.t.p, .int .u32 x.t.a, .int .u16 x.t.b, .int .u32 x.t.c, .int .u16 x.t.d, .int .i64 x.k, .int .u8 x.f, .bool x.q, .int .u8 x.l] 58
  have HZ := hide (Cells.below bz D0.out); have LW := hide (bstep BN.out bz)
  have y5 := nn.at_ 5
  clear bz b2 D0 BN nn CO
  generalize (w2.alloc (.cells #[.int .u8 x.t.p, .int .u32 x.t.a, .int .u16 x.t.b, .int .u32 x.t.c, .int .u16 x.t.d, .int .i64 x.k, .int .u8 x.f, .bool x.q, .int .u8 x.l] 58)) = w3 at *
  go_upto_region 7 with (go_at_call 22; (with_reducible refine (CP.out _).mono ?_); rintro e w4 ⟨rfl, b4⟩)
  have bz := bstep b4 (fresh_below w4 (.cells #[.int .u8 h.t, .int .u16 h.i, .bool h.f, .int .u8 h.l, .int .u8 h.p, .int .u32 h.s, .int .u32 h.d, .string h.o] 65))
  replace HZ := hide (Cells.below bz HZ.out); replace LW := hide (bstep LW.out bz)
  clear bz b4 y5 hr CP
  generalize (w4.alloc (.cells #[.int .u8 h.t, .int .u16 h.i, .bool h.f, .int .u8 h.l, .int .u8 h.p, .int .u32 h.s, .int .u32 h.d, .string h.o] 65)) = w5 at *
  have HW5 := hide (Cells.lt HZ.out)
  go_upto_region 8 with (go_at_call 44; (with_reducible refine (CM.out _).mono ?_); rintro e w6 ⟨rfl, b6⟩)
  have bz := bstep b6 (fresh_below w6 (.cells #[.int .u8 m.t, .int .u8 m.c, .int .u16 m.n, .string m.r, .string dt] 64))
  have nn := Cells.new w6 #[.int .u8 m.t, .int .u8 m.c, .int .u16 m.n, .string m.r, .string dt] 64
  replace HZ := hide (Cells.below bz HZ.out); replace LW := hide (bstep LW.out bz)
  have hgt : w.heap.size < w6.heap.size := by
    have h1 := Cells.lt HZ.out; have h2 := LW.out.size
    have h3 : (w6.alloc (.cells #[.int .u8 m.t, .int .u8 m.c, .int .u16 m.n, .string m.r, .string dt] 64)).heap.size = w6.heap.size + 1 := by simp
    have h4 := b6.size
    have h5 : w.heap.size < w5.heap.size := HW5.out
    omega
  clear bz b6 CM
  generalize w6.heap.size = g10 at nn ⊢ hgt
  generalize (w6.alloc (.cells #[.int .u8 m.t, .int .u8 m.c, .int .u16 m.n, .string m.r, .string dt] 64)) = w7 at *
  have N10 := hide nn
  have y4 := nn.at_ 4
  clear nn
  have cop := COP.out w7 LW.out
  unfold Opened at cop
  clear COP
  by_cases hwy : emWhy (L dt) = 0
  · simp only [hwy, if_true] at cop
    have COP := hide cop; have HWY := hide hwy
    clear cop hwy
    go_upto_region 9 with (go_at_call 56; (refine (COP.out).mono ?_); rintro e w8 ⟨B, rfl, hB, hE, b8⟩)
    have KM := hide (Cells.below b8 N10.out); have HZ8 := hide (Cells.below b8 HZ.out); have L8 := hide (bstep LW.out b8); have HE := hide hE; have HB := hide hB; have HSZ := hide LW.out.size; have HGW := hide (Cells.lt HZ.out)
    clear y4 hE hB b8 COP N10 HZ
    have hZl := Cells.lt HZ8.out
    refine wp_region_lit ?_
    refine wpList_load_all rfl 64 (.tmp 10) rfl KM.out (by rfl) _ Tryz.underlying64 rfl (by kernel_rfl) ?_
    (try simp only [Act.put, List.setIfInBounds_toArray, List.set_cons_zero, List.set_cons_succ])
    refine wpList_plain rfl fun K hK => ?_; go_simp; refine hK _ _ ?_; clear hK K
    refine wpList_plain rfl fun K hK => ?_; go_simp; refine hK _ _ ?_; clear hK K
    refine wpList_store_all rfl 64 (.tmp 2) (.tmp 45) rfl (c' := #[.int .u8 m.t, .int .u8 m.c, .int .u16 m.n, .string m.r, .string dt]) HZ8.out (by rfl) (by rfl) (by kernel_rfl) rfl (by simp [Value.oneCell']) ?_
    intro W5 r5 o5 z5
    go_wp2_with fail
    (try simp only [Exit.inBlock, Exit.then])
    refine bodyPost_ret (res_cell_tmp2 Tryz.results28 r5 (by rfl) (by rfl) (by rfl) _ Tryz.underlying64 rfl (by kernel_rfl)) rfl ?_
    exact FIN0.out _ B HWY.out (Nat.le_trans HSZ.out HB.out) (Cells.only HE.out o5 (fun e => by have := HB.out; have := HGW.out; omega)) (L8.out.trans (o5.below (fun j e => by omega) L8.out.size))
  · simp only [hwy, if_false] at cop
    have COP := hide cop; have HWY := hide hwy
    clear cop hwy
    obtain ⟨r, hr⟩ : ∃ r, r = emWhy (L dt) := ⟨_, rfl⟩
    rw [← hr] at COP
    have HR := hide hr
    clear hr
    go_upto_region 9 with (go_at_call 56; (refine (COP.out).mono ?_); rintro e w8 ⟨rfl, b8⟩)
    have KM := hide (Cells.below b8 N10.out); have HZ8 := hide (Cells.below b8 HZ.out); have L8 := hide (bstep LW.out b8)
    clear y4 b8 COP N10 HZ
    refine wp_region_lit ?_
    refine wpList_load_all rfl 64 (.tmp 10) rfl KM.out (by rfl) _ Tryz.underlying64 rfl (by kernel_rfl) ?_
    (try simp only [Act.put, List.setIfInBounds_toArray, List.set_cons_zero, List.set_cons_succ])
    refine wpList_plain rfl fun K hK => ?_; go_simp; refine hK _ _ ?_; clear hK K
    refine wpList_plain rfl fun K hK => ?_; go_simp; refine hK _ _ ?_; clear hK K
    refine wpList_store_all rfl 64 (.tmp 2) (.tmp 45) rfl (c' := #[.int .u8 m.t, .int .u8 m.c, .int .u16 m.n, .string m.r, .string dt]) HZ8.out (by rfl) (by rfl) (by kernel_rfl) rfl (by simp [Value.oneCell']) ?_
    intro W5 r5 o5 z5
    go_wp2_with fail
    (try simp only [Exit.inBlock, Exit.then])
    refine bodyPost_ret (res_cell_tmp2 Tryz.results28 r5 (by rfl) (by rfl) (by rfl) _ Tryz.underlying64 rfl (by kernel_rfl)) rfl ?_
    exact FIN1.out _ ⟨m.t, m.c, m.n, m.r, dt⟩ r HR.out.symm (by rw [HR.out]; exact HWY.out) (L8.out.trans (o5.below (fun j e => by omega) L8.out.size))
/-- between whom the packet goes that an error is about; none: it is about none -/
def inTup (s : ByteArray) : Tup := if emsWhy s = 0 then emTup (L (emData s)) else ⟨0, 0, 0, 0, 0⟩
set_option maxRecDepth 100000 in
set_option maxHeartbeats 8000000 in
theorem e_Inner (w : World) (s : ByteArray) (K0 : Kinds w) (hs : s.size ≤ 140737488351232) :
    Calls Tryz.prog 9 #[.string s] w (Ret (.tuple #[.agg #[.int .u8 (inTup s).p, .int .u32 (inTup s).a, .int .u16 (inTup s).b, .int .u32 (inTup s).c, .int .u16 (inTup s).d], .int .i64 (emsWhy s)]) w) := by
  have ca := fun W (hW : Below w.heap.size w W) => e_about W s (K0.below hW) hs
  unfold Abouts at ca
  unfold inTup
  by_cases h : emsWhy s = 0
  · rw [if_pos h]
    simp only [h, if_true] at ca ⊢
    obtain ⟨t, ht⟩ : ∃ t, t = emTup (L (emData s)) := ⟨_, rfl⟩
    rw [← ht] at ca ⊢
    generalize emAsk (L (emData s)) = q at *
    generalize ((emAt (L (emData s)) : Nat) : Int) = ee at *
    generalize emData s = dt at *
    obtain ⟨m, hm⟩ : ∃ m, m = msgOf (ipRest s) := ⟨_, rfl⟩
    rw [← hm] at ca
    have CA := hide ca
    clear ca ht hm K0 hs h
    go_enter Tryz.func9, Tryz.ntmps9
    have d0 := Cells.new w #[.int .u8 0, .int .u32 0, .int .u16 0, .int .u32 0, .int .u16 0] 33
    have bn := fresh_below w (.cells #[.int .u8 0, .int .u32 0, .int .u16 0, .int .u32 0, .int .u16 0] 33)
    have D0 := hide d0; have BN := hide bn
    clear d0 bn
    go_upto_region 1 with fail
    generalize (w.alloc (.cells #[.int .u8 0, .int .u32 0, .int .u16 0, .int .u32 0, .int .u16 0] 33)) = w1 at *
    go_upto_region 2 with (go_at_call 28; (refine (CA.out _ BN.out).mono ?_); rintro e w2 ⟨B, rfl, hB, hE, b2⟩)
    have bz := bstep b2 (fresh_below w2 (.cells #[.int .u8 m.t, .int .u8 m.c, .int .u16 m.n, .string m.r, .string m.d] 64))
    have HZ := hide (Cells.below bz D0.out); have LW := hide (bstep BN.out bz)
    have he := Cells.below (fresh_below w2 (.cells #[.int .u8 m.t, .int .u8 m.c, .int .u16 m.n, .string m.r, .string m.d] 64)) hE
    clear bz b2 D0 BN CA hE hB
    generalize (w2.alloc (.cells #[.int .u8 m.t, .int .u8 m.c, .int .u16 m.n, .string m.r, .string m.d] 64)) = w3 at *
    unfold emCells at he
    have y2 := he.at_ 2; have y3 := he.at_ 3; have y4 := he.at_ 4; have y5 := he.at_ 5; have y6 := he.at_ 6
    clear he
    go_upto_region 4 with fail
    refine wp_region_lit ?_
    refine wpList_plain rfl fun K hK => ?_; go_simp; refine hK _ _ ?_; clear hK K
    refine wpList_plain rfl fun K hK => ?_; go_simp; refine hK _ _ ?_; clear hK K
    refine wpList_plain rfl fun K hK => ?_; go_simp; refine hK _ _ ?_; clear hK K
    refine wpList_plain rfl fun K hK => ?_; go_simp; refine hK _ _ ?_; clear hK K
    refine wpList_store_all rfl 33 (.tmp 2) (.tmp 20) rfl (c' := #[.int .u8 t.p, .int .u32 t.a, .int .u16 t.b, .int .u32 t.c, .int .u16 t.d]) HZ.out (by rfl) (by rfl) (by kernel_rfl) rfl (by simp [Value.oneCell']) ?_
    intro W5 r5 o5 z5
    go_wp2_with fail
    (try simp only [Exit.inBlock, Exit.then])
    refine bodyPost_ret (res_cell_tmp Tryz.results9 r5 (by rfl) (by rfl) _ Tryz.underlying33 rfl (by kernel_rfl)) rfl ?_
    exact ⟨rfl, LW.out.trans (o5.below (fun j e => by omega) LW.out.size)⟩
  · rw [if_neg h]
    simp only [h, if_false] at ca
    have hr : (emsWhy s != 0) = true := by simpa using h
    generalize emsWhy s = r at *
    have CA := hide ca
    clear ca K0 hs h
    go_enter Tryz.func9, Tryz.ntmps9
    have d0 := Cells.new w #[.int .u8 0, .int .u32 0, .int .u16 0, .int .u32 0, .int .u16 0] 33
    have bn := fresh_below w (.cells #[.int .u8 0, .int .u32 0, .int .u16 0, .int .u32 0, .int .u16 0] 33)
    have D0 := hide d0; have BN := hide bn
    clear d0 bn
    go_upto_region 1 with fail
    generalize (w.alloc (.cells #[.int .u8 0, .int .u32 0, .int .u16 0, .int .u32 0, .int .u16 0] 33)) = w1 at *
    go_upto_region 3 with (go_at_call 28; (refine (CA.out _ BN.out).mono ?_); rintro e w2 ⟨m, rfl, b2⟩)
    have bz := bstep b2 (fresh_below w2 (.cells #[.int .u8 m.t, .int .u8 m.c, .int .u16 m.n, .string m.r, .string m.d] 64))
    have HZ := hide (Cells.below bz D0.out); have LW := hide (bstep BN.out bz)
    clear bz b2 D0 BN CA hr
    generalize (w2.alloc (.cells #[.int .u8 m.t, .int .u8 m.c, .int .u16 m.n, .string m.r, .string m.d] 64)) = w3 at *
    refine wp_region_lit ?_
    refine wpList_plain rfl fun K hK => ?_; go_simp; refine hK _ _ ?_; clear hK K
    refine wpList_plain rfl fun K hK => ?_; go_simp; refine hK _ _ ?_; clear hK K
    refine wpList_store_all rfl 33 (.tmp 2) (.tmp 15) rfl (c' := #[.int .u8 0, .int .u32 0, .int .u16 0, .int .u32 0, .int .u16 0]) HZ.out (by rfl) (by rfl) (by kernel_rfl) rfl (by simp [Value.oneCell']) ?_
    intro W5 r5 o5 z5
    go_wp2_with fail
    (try simp only [Exit.inBlock, Exit.then])
    refine bodyPost_ret (res_cell_tmp Tryz.results9 r5 (by rfl) (by rfl) _ Tryz.underlying33 rfl (by kernel_rfl)) rfl ?_
    exact ⟨rfl, LW.out.trans (o5.below (fun j e => by omega) LW.out.size)⟩
end Go.Proofs.YtjeaknipmdfkdaaGreatDoor
end

section
/- embeds.flow: ports changed, and a sum, over this program. -/
set_option linter.unusedVariables false
set_option linter.unusedSimpArgs false
namespace Go.Proofs.YtjeaknipmdfkdaaGreatDoor
open Go.RowKit
attribute [local go_sem] Oper.semAt_some envL lookV

theorem e_layEm (W : World) (B : Nat) (s : ByteArray) (e : Int) (t : Tup) (q : Bool) (k : Nat) (p : ByteArray) (hC : Em W B s e t q) (hs : s.size ≤ 140737488351232) (h : k + p.size ≤ s.size) (n : ByteArray) (hn : S ((L s).take k ++ (L p ++ (L s).drop (k + p.size))) = n) :
    Calls Tryz.prog 33 #[.pointer (some ⟨B, 0, none⟩), .int .i64 k, .string p] W (fun en w' => en = .returned (.tuple #[]) ∧ Em w' B n e t q ∧ Only (fun i => i = B) W w') :=
  (e_lay W B _ _ s k p hC rfl hs h).mono (by
    rintro en w' ⟨h1, h2, h3⟩
    rw [hn] at h2
    exact ⟨h1, Cells.like h2 (by simp [emCells]), h3⟩)
theorem word_one (n : Int) (h : 0 ≤ n ∧ n ≤ 65535) (W : World) (A : Option Addr) (hR : Row W W.heap.size A 1 [.int .u16 n]) : Calls Tryz.prog 34 #[.slice A 1 1] W (Ret (.string (S (put16 n))) W) := by
  have c := Word A 1 1 [n] W hR (by intro x hx; simp only [List.mem_cons, List.not_mem_nil, or_false] at hx; rw [hx]; exact h) (by omega)
  rwa [putW_one] at c
set_option maxRecDepth 100000 in
set_option maxHeartbeats 16000000 in
theorem e_flow (w : World) (B : Nat) (s : ByteArray) (e : Nat) (t : Tup) (q : Bool) (a b c d : Int) (k : Nat) (hC : Em w B s e t q) (ht : t.Ok) (ha : 0 ≤ a ∧ a ≤ 4294967295) (hb : 0 ≤ b ∧ b ≤ 65535) (hc : 0 ≤ c ∧ c ≤ 4294967295) (hd : 0 ≤ d ∧ d ≤ 65535) (hs : s.size ≤ 140737488351232) (h : e + 8 ≤ s.size) (he : e ≤ 60) (hk : (t.p = 6 ∧ k = 16) ∨ (t.p = 17 ∧ k = 6)) :
    Calls Tryz.prog 65 #[.pointer (some ⟨B, 0, none⟩), .agg #[.int .u32 a, .int .u16 b, .int .u32 c, .int .u16 d], .int .i64 k] w (Turned w B (emCells (S (emFlow (L s) e t a b c d k)) e t q) 79) := by
  have hsL : (L s).length = s.size := L_length s
  obtain ⟨l1, hl1⟩ : ∃ l1, l1 = emFlowL (L s) e b d := ⟨_, rfl⟩
  have hl1n : l1.length = s.size := by rw [hl1, emFlowL_len (by omega), hsL]
  obtain ⟨zk, hzk⟩ : ∃ zk : Nat, zk = e + k := ⟨_, rfl⟩
  obtain ⟨was, hwas⟩ : ∃ was, was = get16 l1 ((e + k : Nat) : Int) := ⟨_, rfl⟩
  have hwb : 0 ≤ was ∧ was ≤ 65535 := by rw [hwas]; exact get16_bd _ _
  obtain ⟨n, hn⟩ : ∃ n, n = emFlowN (L s) e t a b c d k := ⟨_, rfl⟩
  have hnb : 0 ≤ n ∧ n ≤ 65535 := by rw [hn]; exact emFlowN_bd _ _ _ _ _ _ _ _
  obtain ⟨i1, hi1⟩ : ∃ i1, i1 = S (ipsOf t.a t.c) := ⟨_, rfl⟩
  obtain ⟨p1, hp1⟩ : ∃ p1, p1 = S (putW [t.b, t.d]) := ⟨_, rfl⟩
  obtain ⟨i2, hi2⟩ : ∃ i2, i2 = S (ipsOf a c) := ⟨_, rfl⟩
  obtain ⟨p2, hp2⟩ : ∃ p2, p2 = S (putW [b, d]) := ⟨_, rfl⟩
  have ce1 := fun W => e_ends t.a t.b t.c t.d W ht.2.1 ht.2.2.1 ht.2.2.2.1 ht.2.2.2.2
  have ce2 := fun W => e_ends a b c d W ha hb hc hd
  have cl := fun W (hC : Em W B s e t q) => e_layEm W B s e t q e p2 hC hs (by rw [hp2, S_size, putW2_len]; omega) (S l1) (by rw [hp2, L_S, S_size, putW2_len, hl1]; rfl)
  have ct := fun W (hC : W.cell? ⟨B, 0, none⟩ = some (.string (S l1))) => e_two W B (S l1) (zk : Int) hC (by rw [S_size, hl1n]; exact hs) ⟨by omega, by omega⟩
  rw [L_S, hzk, ← hwas, ← hzk] at ct
  have z1 : (i1 ++ p1).size = 12 := by rw [ByteArray.size_append, hi1, hp1, S_size, S_size]; rfl
  have z2 : (i2 ++ p2).size = 12 := by rw [ByteArray.size_append, hi2, hp2, S_size, S_size]; rfl
  have cu := fun W => Updates was (i1 ++ p1) (i2 ++ p2) W hwb (by omega) (by omega)
  rw [show updates was (L (i1 ++ p1)) (L (i2 ++ p2)) = n from by rw [hn, hi1, hp1, hi2, hp2, S_append, S_append, L_S, L_S, hwas, hl1]; rfl] at cu
  rw [← hi1, ← hp1] at ce1
  rw [← hi2, ← hp2] at ce2
  have RES : emFlow (L s) e t a b c d k = if t.p = 17 ∧ was = 0 then l1 else if e + k + 2 ≤ s.size then lay l1 (e + k) (if t.p = 17 ∧ n = 0 then 65535 else n) else l1 := by
    unfold emFlow
    rw [← hl1, ← hwas, ← hn, hsL]
  obtain ⟨RV, hRV⟩ : ∃ RV, emFlow (L s) e t a b c d k = RV := ⟨_, rfl⟩
  rw [hRV] at RES ⊢
  clear hRV
  have cw := fun m (hm : 0 ≤ m ∧ m ≤ 65535) W A hR => word_one m hm W A hR
  have cz := fun m (hf : zk + 2 ≤ s.size) W (hC : Em W B (S l1) e t q) => e_layEm W B (S l1) e t q zk (S (put16 m)) hC (by rw [S_size, hl1n]; exact hs) (by rw [S_size, S_size, put16_length, hl1n]; exact hf) (S (lay l1 zk m)) (by rw [L_S, L_S, S_size, put16_length, ← List.append_assoc]; rfl)
  have hsz1 : (S l1).size = s.size := by rw [S_size, hl1n]
  obtain ⟨s1, hs1⟩ : ∃ s1, s1 = S l1 := ⟨_, rfl⟩
  rw [← hs1] at cl ct cz hsz1
  have kw : IntKind.i64.wrap ((e : Int) + (k : Int)) = (zk : Int) := by rw [IntWalk.i64_in _ (by omega), hzk]; omega
  have kw2 : IntKind.i64.wrap ((zk : Int) + 2) = (zk : Int) + 2 := IntWalk.i64_in _ (by omega)
  have CE1 := hide ce1; have CE2 := hide ce2; have CL := hide cl; have CT := hide ct; have CU := hide cu; have CW := hide cw; have CZ := hide cz
  have RS := hide RES; have HZK := hide hzk; have HS1 := hide hs1; have HNB := hide hnb; have HSZ1 := hide hsz1; have HC := hide hC
  have hz1 : (i1 ++ p1).size ≤ 1000 := by omega
  have hz3 : ¬ 9223372036854775807 < i1.size + p1.size := by rw [← ByteArray.size_append]; omega
  have hz4 : ¬ 9223372036854775807 < i2.size + p2.size := by rw [← ByteArray.size_append]; omega
  have hz2 : (i2 ++ p2).size ≤ 1000 := by omega
  have hB : B < w.heap.size := Cells.lt hC
  have HKK := hide hk; have HH := hide h; have HS := hide hs; have HEE := hide he
  clear ce1 ce2 cl ct cu cw cz RES hwas hn hi1 hp1 hi2 hp2 hl1 hl1n hsL hzk hs1 hnb hwb z1 z2 hC ht ha hb hc hd hs h he hk hsz1
  go_enter Tryz.func65, Tryz.ntmps65
  have d0 := Cells.new w #[.int .u32 a, .int .u16 b, .int .u32 c, .int .u16 d] 28
  have bn := fresh_below w (.cells #[.int .u32 a, .int .u16 b, .int .u32 c, .int .u16 d] 28)
  have D0 := hide d0; have BN := hide bn
  clear d0 bn
  go_upto_region 1 with fail
  generalize (w.alloc (.cells #[.int .u32 a, .int .u16 b, .int .u32 c, .int .u16 d] 28)) = w1 at *
  have em1 := Cells.below BN.out HC.out
  have d0 := D0.out
  unfold emCells at em1
  obtain ⟨qem1_0, qem1_1, qem1_2, qem1_3, qem1_4, qem1_5, qem1_6, qem1_7⟩ := em1.q8
  obtain ⟨qd0_0, qd0_1, qd0_2, qd0_3⟩ := d0.q4
  have EM1 := hide em1
  clear em1 d0
  have s1' : Below w1.heap.size w1 w1.drew := Below.drew (Below.refl _ _)
  focus
    refine wp_region_J [] (fun W => Below w1.heap.size w1 W) (by kernel_rfl) (s1') (fun hS0 => ?_)
    refine tJ 0 rfl hS0 ?_
    (try simp only [Act.put, putS])
    refine tJ 1 rfl hS0 ?_
    (try simp only [Act.put, putS])
    refine tJ 2 rfl hS0 ?_
    (try simp only [Act.put, putS])
    refine tJ 3 rfl hS0 ?_
    (try simp only [Act.put, putS])
    refine tJ 4 rfl hS0 ?_
    (try simp only [Act.put, putS])
    refine tJ 5 rfl hS0 ?_
    (try simp only [Act.put, putS])
    refine tJ 6 rfl hS0 ?_
    (try simp only [Act.put, putS])
    refine tJ 7 rfl hS0 ?_
    (try simp only [Act.put, putS])
    refine tJ 8 rfl hS0 ?_
    (try simp only [Act.put, putS])
    refine tJ 9 rfl hS0 ?_
    (try simp only [Act.put, putS])
    refine tJ 10 rfl hS0 ?_
    (try simp only [Act.put, putS])
    refine rJ [11] ?_
    refine (AllReadyJ.cons rfl (fun K hK => ?_) AllReadyJ.nil)
    rw [if_pos (by kernel_rfl)]
    (try simp only [putG])
    (focus go_simp)
    (focus ((with_reducible refine (CE1.out _).mono ?_); rintro e wa ⟨rfl, ba⟩; have sq := bstep hS0 ba))
    (focus (try go_wp2_with fail))
    refine hK.out _ _ ?hs (fun hS0 => ?_)
    case hs => (first | with_reducible exact hS0 | with_reducible exact sq)
    clear hK K
    (try simp only [Act.put, putS])
    refine tJ 12 rfl hS0 ?_
    (try simp only [Act.put, putS])
    refine tJ 13 rfl hS0 ?_
    (try simp only [Act.put, putS])
    refine tJ 14 rfl hS0 ?_
    (try simp only [Act.put, putS])
    refine tJ 15 rfl hS0 ?_
    (try simp only [Act.put, putS])
    refine tJ 16 rfl hS0 ?_
    (try simp only [Act.put, putS])
    refine wpAnyJ_done (by kernel_rfl) ?_ _
  go_upto_region 3 with (go_at_call 63; (with_reducible refine (CE2.out _).mono ?_); rintro e wb ⟨rfl, bb⟩)
  have sb := bstep hS0 bb
  clear s1' sq hS0 ba bb qd0_0 qd0_1 qd0_2 qd0_3 CE1 CE2
  have s3 : Below w1.heap.size w1 wb.drew := Below.drew sb
  focus
    refine wp_region_J [8] (fun W => Below w1.heap.size w1 W) (by kernel_rfl) (s3) (fun hS0 => ?_)
    refine bJ 0 [0, 1, 2, 8] rfl hS0 ?_
    (try simp only [Act.put, putS])
    refine bJ 1 [1, 2, 8] rfl hS0 ?_
    (try simp only [Act.put, putS])
    refine tJ 2 rfl hS0 ?_
    (try simp only [Act.put, putS])
    refine bJ 3 [3, 4, 5, 6, 8] rfl hS0 ?_
    (try simp only [Act.put, putS])
    refine bJ 4 [4, 5, 6, 8] rfl hS0 ?_
    (try simp only [Act.put, putS])
    refine bJ 5 [5, 6, 8] rfl hS0 ?_
    (try simp only [Act.put, putS])
    refine tJ 6 rfl hS0 ?_
    (try simp only [Act.put, putS])
    refine tJ 7 rfl hS0 ?_
    (try simp only [Act.put, putS])
    refine rJ [8] ?_
    refine (AllReadyJ.last rfl (by kernel_rfl) (fun K hK => ?_) AllReadyJ.nil)
    rw [if_pos (by kernel_rfl)]
    (try simp only [putG])
    (focus go_simp)
    (focus ((refine (CL.out _ (Cells.below hS0 EM1.out)).mono ?_); rintro e w3 ⟨rfl, em3, on3⟩))
    (focus (try go_wp2_with fail))
    refine hK.out _ _ ?_
    clear hK K
    (try simp only [Act.put, putS])
    refine wpAnyJ_done (by kernel_rfl) ?_ _
  have on : Only (fun i => i = B) w w3 := Only.trans (Only.of_below (bstep BN.out hS0) (Nat.le_refl _)) on3
  have EM3 := hide em3; have ON := hide on
  clear s3 sb hS0 on on3 qem1_0 qem1_1 qem1_2 qem1_3 qem1_4 qem1_5 qem1_6 qem1_7 EM1 D0 BN CL HC
  unfold Em emCells at em3
  obtain ⟨qem3_0, qem3_1, qem3_2, qem3_3, qem3_4, qem3_5, qem3_6, qem3_7⟩ := em3.q8
  clear em3
  have bb : Below w3.heap.size w3 w3 := Below.refl _ _
  go_upto_region 6 with (go_at_call 64; (with_reducible refine (CT.out _ (qem3_0 _ (by assumption))).mono ?_); rintro e w4 ⟨rfl, b4⟩)
  clear bb CT kw
  have LAST := hide (fun W (hW : Below w3.heap.size w3 W) (hr : RV = l1) => (show Turned w B (emCells (S RV) e t q) 79 (.returned (.tuple #[])) W from ⟨rfl, by rw [hr, ← HS1.out]; exact Cells.below hW EM3.out, Only.then ON.out hW⟩))
  have LAY := hide (fun W W' m (hW : Below w3.heap.size w3 W) (hr : RV = lay l1 zk m) (h1 : Em W' B (S (lay l1 zk m)) e t q) (h2 : Only (fun i => i = B) W W') => (show Turned w B (emCells (S RV) e t q) 79 (.returned (.tuple #[])) W' from ⟨rfl, by rw [hr]; exact h1, Only.trans (Only.then ON.out hW) h2⟩))
  have EMB := hide (fun W (hW : Below w3.heap.size w3 W) => Cells.below hW EM3.out)
  rcases HKK.out with ⟨p6, k16⟩ | ⟨p17, k6⟩
  · have n17 : (t.p == 17) = false := by rw [p6]; rfl
    have hr : RV = if zk + 2 ≤ s.size then lay l1 zk n else l1 := by
      rw [RS.out, if_neg (fun h : t.p = 17 ∧ was = 0 => by omega), ← HZK.out, if_neg (fun h : t.p = 17 ∧ n = 0 => by omega)]
    have HR := hide hr; have HNP := hide p6
    clear hr p6 k16
    by_cases hf : zk + 2 ≤ s.size
    · have hfz : (zk : Int) + 2 ≤ (s1.size : Int) := by have := HSZ1.out; omega
      have hr2 : RV = lay l1 zk n := by rw [HR.out, if_pos hf]
      have HR2 := hide hr2; have HF := hide hf
      clear hr2 hf HR
      go_upto_region 11 with (go_at_call 32; (with_reducible refine (CU.out _).mono ?_); rintro e w5 ⟨rfl, b5⟩; have b5' := bstep b4 b5)
      have s11 : Below w3.heap.size w3 w5.drew := Below.drew b5'
      focus
        refine wp_region_J [7] (fun W => Below w3.heap.size w3 W) (by kernel_rfl) (s11) (fun hS0 => ?_)
        refine bJ 0 [0, 1, 2, 7] rfl hS0 ?_
        (try simp only [Act.put, putS])
        refine bJ 1 [1, 2, 7] rfl hS0 ?_
        (try simp only [Act.put, putS])
        refine tJ 2 rfl hS0 ?_
        (try simp only [Act.put, putS])
        refine tJ 3 rfl hS0 ?_
        (try simp only [Act.put, putS])
        refine bJ 4 [4, 5, 6, 7] rfl hS0 ?_
        (try simp only [Act.put, putS])
        refine rJ [5] ?_
        refine (AllReadyJ.cons rfl (fun K hK => ?_) AllReadyJ.nil)
        rw [if_pos (by kernel_rfl)]
        (try simp only [putG])
        (focus go_simp)
        refine hK.out _ _ ?hs (fun hS0 => ?_)
        case hs => (first | with_reducible exact hS0 | with_reducible exact sq | exact bstep hS0 (fresh_below _ _))
        clear hK K
        (try simp only [Act.put, putS])
        refine rJ [6] ?_
        refine (AllReadyJ.cons rfl (fun K hK => ?_) AllReadyJ.nil)
        rw [if_pos (by kernel_rfl)]
        (try simp only [putG])
        (focus go_simp)
        (focus ((refine (CW.out n HNB.out _ _ (by (repeat' (first | with_reducible refine Row.afterdraw ?_ | with_reducible exact Row.freshAt _ _ _ _ _ _ (by simp) rfl rfl | (with_reducible refine Row.rise ?_ (fresh_below _ _)))))).mono ?_); rintro e w6 ⟨rfl, b6⟩; have sq := bstep hS0 b6))
        (focus (try go_wp2_with fail))
        refine hK.out _ _ ?hs (fun hS0 => ?_)
        case hs => (first | with_reducible exact hS0 | with_reducible exact sq | exact bstep hS0 (fresh_below _ _))
        clear hK K
        (try simp only [Act.put, putS])
        refine rJ [7] ?_
        refine (AllReadyJ.last rfl (by kernel_rfl) (fun K hK => ?_) AllReadyJ.nil)
        rw [if_pos (by kernel_rfl)]
        (try simp only [putG])
        (focus go_simp)
        (focus ((refine (CZ.out n HF.out _ (EMB.out _ hS0)).mono ?_); rintro e w7 ⟨rfl, em7, on7⟩))
        (focus (try go_wp2_with fail))
        refine hK.out _ _ ?_
        clear hK K
        (try simp only [Act.put, putS])
        refine wpAnyJ_done (by kernel_rfl) ?_ _
      go_wp2_with fail
      first | go_end0 | ((try simp only [Exit.inBlock, Exit.then]); refine bodyPost_ret (v := .tuple #[]) (by simp [results, Tryz.results65, go_sem]; try rfl) rfl ?_)
      exact LAY.out _ _ n hS0 HR2.out em7 on7
    · have hfz : ¬ (zk : Int) + 2 ≤ (s1.size : Int) := by have := HSZ1.out; omega
      have hr2 : RV = l1 := by rw [HR.out, if_neg hf]
      have HR2 := hide hr2
      clear hr2 hf HR
      go_wp2_with (go_at_call 32; (with_reducible refine (CU.out _).mono ?_); rintro e w5 ⟨rfl, b5⟩; have b5' := bstep b4 b5)
      first | go_end0 | ((try simp only [Exit.inBlock, Exit.then]); refine bodyPost_ret (v := .tuple #[]) (by simp [results, Tryz.results65, go_sem]; try rfl) rfl ?_)
      exact LAST.out _ b5' HR2.out
  · have i17 : (t.p == 17) = true := by rw [p17]; rfl
    have hf : zk + 2 ≤ s.size := by have := HZK.out; have := HH.out; omega
    have hfz : (zk : Int) + 2 ≤ (s1.size : Int) := by have := HSZ1.out; omega
    have HP17 := hide p17; have HF := hide hf
    clear p17 k6 hf
    by_cases hz : was = 0
    · have hr2 : RV = l1 := by rw [RS.out, if_pos ⟨HP17.out, hz⟩]
      have HR2 := hide hr2
      subst hz
      clear hr2
      go_wp2_with fail
      first | go_end0 | ((try simp only [Exit.inBlock, Exit.then]); refine bodyPost_ret (v := .tuple #[]) (by simp [results, Tryz.results65, go_sem]; try rfl) rfl ?_)
      exact LAST.out _ b4 HR2.out
    · have hzb : (was == 0) = false := by simpa using hz
      by_cases hn0 : n = 0
      · have hr2 : RV = lay l1 zk 65535 := by rw [RS.out, if_neg (fun h => hz h.2), ← HZK.out, if_pos HF.out, if_pos ⟨HP17.out, hn0⟩]
        have HR2 := hide hr2
        clear hr2 hz RS
        subst hn0
        go_upto_region 11 with (go_at_call 32; (with_reducible refine (CU.out _).mono ?_); rintro e w5 ⟨rfl, b5⟩; have b5' := bstep b4 b5)
        have s11 : Below w3.heap.size w3 w5.drew := Below.drew b5'
        focus
          refine wp_region_J [7] (fun W => Below w3.heap.size w3 W) (by kernel_rfl) (s11) (fun hS0 => ?_)
          refine bJ 0 [0, 1, 2, 7] rfl hS0 ?_
          (try simp only [Act.put, putS])
          refine bJ 1 [1, 2, 7] rfl hS0 ?_
          (try simp only [Act.put, putS])
          refine tJ 2 rfl hS0 ?_
          (try simp only [Act.put, putS])
          refine tJ 3 rfl hS0 ?_
          (try simp only [Act.put, putS])
          refine bJ 4 [4, 5, 6, 7] rfl hS0 ?_
          (try simp only [Act.put, putS])
          refine rJ [5] ?_
          refine (AllReadyJ.cons rfl (fun K hK => ?_) AllReadyJ.nil)
          rw [if_pos (by kernel_rfl)]
          (try simp only [putG])
          (focus go_simp)
          refine hK.out _ _ ?hs (fun hS0 => ?_)
          case hs => (first | with_reducible exact hS0 | with_reducible exact sq | exact bstep hS0 (fresh_below _ _))
          clear hK K
          (try simp only [Act.put, putS])
          refine rJ [6] ?_
          refine (AllReadyJ.cons rfl (fun K hK => ?_) AllReadyJ.nil)
          rw [if_pos (by kernel_rfl)]
          (try simp only [putG])
          (focus go_simp)
          (focus ((refine (CW.out 65535 ⟨by decide, by decide⟩ _ _ (by (repeat' (first | with_reducible refine Row.afterdraw ?_ | with_reducible exact Row.freshAt _ _ _ _ _ _ (by simp) rfl rfl | (with_reducible refine Row.rise ?_ (fresh_below _ _)))))).mono ?_); rintro e w6 ⟨rfl, b6⟩; have sq := bstep hS0 b6))
          (focus (try go_wp2_with fail))
          refine hK.out _ _ ?hs (fun hS0 => ?_)
          case hs => (first | with_reducible exact hS0 | with_reducible exact sq | exact bstep hS0 (fresh_below _ _))
          clear hK K
          (try simp only [Act.put, putS])
          refine rJ [7] ?_
          refine (AllReadyJ.last rfl (by kernel_rfl) (fun K hK => ?_) AllReadyJ.nil)
          rw [if_pos (by kernel_rfl)]
          (try simp only [putG])
          (focus go_simp)
          (focus ((refine (CZ.out 65535 HF.out _ (EMB.out _ hS0)).mono ?_); rintro e w7 ⟨rfl, em7, on7⟩))
          (focus (try go_wp2_with fail))
          refine hK.out _ _ ?_
          clear hK K
          (try simp only [Act.put, putS])
          refine wpAnyJ_done (by kernel_rfl) ?_ _
        go_wp2_with fail
        first | go_end0 | ((try simp only [Exit.inBlock, Exit.then]); refine bodyPost_ret (v := .tuple #[]) (by simp [results, Tryz.results65, go_sem]; try rfl) rfl ?_)
        exact LAY.out _ _ 65535 hS0 HR2.out em7 on7
      · have hr2 : RV = lay l1 zk n := by rw [RS.out, if_neg (fun h => hz h.2), ← HZK.out, if_pos HF.out, if_neg (fun h => hn0 h.2)]
        have HR2 := hide hr2
        have hnb : (n == 0) = false := by simpa using hn0
        clear hr2 hz hn0 RS
        go_upto_region 11 with (go_at_call 32; (with_reducible refine (CU.out _).mono ?_); rintro e w5 ⟨rfl, b5⟩; have b5' := bstep b4 b5)
        have s11 : Below w3.heap.size w3 w5.drew := Below.drew b5'
        focus
          refine wp_region_J [7] (fun W => Below w3.heap.size w3 W) (by kernel_rfl) (s11) (fun hS0 => ?_)
          refine bJ 0 [0, 1, 2, 7] rfl hS0 ?_
          (try simp only [Act.put, putS])
          refine bJ 1 [1, 2, 7] rfl hS0 ?_
          (try simp only [Act.put, putS])
          refine tJ 2 rfl hS0 ?_
          (try simp only [Act.put, putS])
          refine tJ 3 rfl hS0 ?_
          (try simp only [Act.put, putS])
          refine bJ 4 [4, 5, 6, 7] rfl hS0 ?_
          (try simp only [Act.put, putS])
          refine rJ [5] ?_
          refine (AllReadyJ.cons rfl (fun K hK => ?_) AllReadyJ.nil)
          rw [if_pos (by kernel_rfl)]
          (try simp only [putG])
          (focus go_simp)
          refine hK.out _ _ ?hs (fun hS0 => ?_)
          case hs => (first | with_reducible exact hS0 | with_reducible exact sq | exact bstep hS0 (fresh_below _ _))
          clear hK K
          (try simp only [Act.put, putS])
          refine rJ [6] ?_
          refine (AllReadyJ.cons rfl (fun K hK => ?_) AllReadyJ.nil)
          rw [if_pos (by kernel_rfl)]
          (try simp only [putG])
          (focus go_simp)
          (focus ((refine (CW.out n HNB.out _ _ (by (repeat' (first | with_reducible refine Row.afterdraw ?_ | with_reducible exact Row.freshAt _ _ _ _ _ _ (by simp) rfl rfl | (with_reducible refine Row.rise ?_ (fresh_below _ _)))))).mono ?_); rintro e w6 ⟨rfl, b6⟩; have sq := bstep hS0 b6))
          (focus (try go_wp2_with fail))
          refine hK.out _ _ ?hs (fun hS0 => ?_)
          case hs => (first | with_reducible exact hS0 | with_reducible exact sq | exact bstep hS0 (fresh_below _ _))
          clear hK K
          (try simp only [Act.put, putS])
          refine rJ [7] ?_
          refine (AllReadyJ.last rfl (by kernel_rfl) (fun K hK => ?_) AllReadyJ.nil)
          rw [if_pos (by kernel_rfl)]
          (try simp only [putG])
          (focus go_simp)
          (focus ((refine (CZ.out n HF.out _ (EMB.out _ hS0)).mono ?_); rintro e w7 ⟨rfl, em7, on7⟩))
          (focus (try go_wp2_with fail))
          refine hK.out _ _ ?_
          clear hK K
          (try simp only [Act.put, putS])
          refine wpAnyJ_done (by kernel_rfl) ?_ _
        go_wp2_with fail
        first | go_end0 | ((try simp only [Exit.inBlock, Exit.then]); refine bodyPost_ret (v := .tuple #[]) (by simp [results, Tryz.results65, go_sem]; try rfl) rfl ?_)
        exact LAY.out _ _ n hS0 HR2.out em7 on7
end Go.Proofs.YtjeaknipmdfkdaaGreatDoor
end
