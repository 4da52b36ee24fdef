/- Several texts of this claim, one behind the other. -/
import Derived.Test.YtilfcikhipadpaaGreatDoorProg
import Derived.Test.YtilfcikhipadpaaGreatDoorK7b
import Derived.BigQuiet
import Derived.Deep.QuietTactic
import Derived.Deep.RegionHeld3
import Derived.Laws.BitsAllLaws
import Derived.Deep.DeepCutAuto
import Derived.Deep.CutBlock
import Derived.KernelRfl

section
/- addrs: mask, May, Has; the document's size, May, Has (porterref03). -/
set_option linter.unusedVariables false
set_option linter.unusedSimpArgs false
namespace Go.Proofs.YtilfcikhipadpaaGreatDoor
open Go.RowKit
attribute [local go_sem] Oper.semAt_some

/-- how many addresses have the same first bits -/
def szN (b : Int) : Nat := 2 ^ (32 - b).toNat
def maskOf (b : Int) : Int := ((4294967296 - szN b : Nat) : Int) % 4294967296
/-- may a prefix be -/
def mayP (ip b : Int) : Bool := decide (0 ≤ b) && (decide (b ≤ 32) && decide (ip.toNat % szN b = 0))
/-- has it an address -/
def hasP (ip b a : Int) : Bool := mayP ip b && decide (a.toNat / szN b = ip.toNat / szN b)
theorem bits33 {b : Int} (h0 : 0 ≤ b) (h1 : b ≤ 32) : b = 0 ∨ b = 1 ∨ b = 2 ∨ b = 3 ∨ b = 4 ∨ b = 5 ∨ b = 6 ∨ b = 7 ∨ b = 8 ∨ b = 9 ∨ b = 10 ∨ b = 11 ∨ b = 12 ∨ b = 13 ∨ b = 14 ∨ b = 15 ∨ b = 16 ∨ b = 17 ∨ b = 18 ∨ b = 19 ∨ b = 20 ∨ b = 21 ∨ b = 22 ∨ b = 23 ∨ b = 24 ∨ b = 25 ∨ b = 26 ∨ b = 27 ∨ b = 28 ∨ b = 29 ∨ b = 30 ∨ b = 31 ∨ b = 32 := by omega
theorem szN_bd {b : Int} (h0 : 0 ≤ b) (h1 : b ≤ 32) : 1 ≤ szN b ∧ szN b ≤ 4294967296 := by
  unfold szN
  exact ⟨Nat.one_le_two_pow, Nat.le_trans (Nat.pow_le_pow_right (by omega) (show (32 - b).toNat ≤ 32 by omega)) (by decide)⟩
theorem mask_bd {b : Int} : 0 ≤ maskOf b ∧ maskOf b < 4294967296 := by unfold maskOf; omega

set_option maxHeartbeats 4000000 in
theorem addrs_mask (b : Int) (w : World) (h0 : 0 ≤ b) (h1 : b ≤ 32) :
    Calls Tryz.prog 104 #[.int .i64 b] w (fun e w' => e = .returned (.int .u32 (maskOf b)) ∧ w' = w) := by
  rcases bits33 h0 h1 with h | h | h | h | h | h | h | h | h | h | h | h | h | h | h | h | h | h | h | h | h | h | h | h | h | h | h | h | h | h | h | h | h
  all_goals
    subst h
    clear h0 h1
    go_enter Tryz.func104, Tryz.ntmps104
    go_wp2_with fail
    go_ret
    exact ⟨by kernel_rfl, rfl⟩
theorem andNot_mask {ip b : Int} (hi : 0 ≤ ip ∧ ip ≤ 4294967295) (h0 : 0 ≤ b) (h1 : b ≤ 32) : (bits .andNot .u32 ip (maskOf b) = 0) ↔ ip.toNat % szN b = 0 := by
  have hm := mask_bd (b := b)
  rw [u32_andNot ip (maskOf b) (by omega) (by omega) (by omega) (by omega)]
  have hk : 4294967295 - (maskOf b).toNat = 2 ^ (32 - b).toNat - 1 := by
    rcases bits33 h0 h1 with h | h | h | h | h | h | h | h | h | h | h | h | h | h | h | h | h | h | h | h | h | h | h | h | h | h | h | h | h | h | h | h | h
    all_goals (subst h; decide)
  rw [hk, Nat.and_two_pow_sub_one_eq_mod]
  unfold szN
  omega
theorem and_mask {a ip b : Int} (ha : 0 ≤ a ∧ a ≤ 4294967295) (hi : 0 ≤ ip ∧ ip ≤ 4294967295) (h0 : 0 ≤ b) (h1 : b ≤ 32) : (bits .and .u32 (bits .xor .u32 a ip) (maskOf b) = 0) ↔ a.toNat / szN b = ip.toNat / szN b := by
  have hm := mask_bd (b := b)
  have hx : (a.toNat ^^^ ip.toNat) < 2 ^ 32 := Nat.xor_lt_two_pow (by omega) (by omega)
  rw [u32_xor a ip (by omega) (by omega) (by omega) (by omega), u32_and _ _ (by omega) (by omega) (by omega) (by omega)]
  rw [Int.toNat_natCast]
  have key : ∀ x y k : Nat, x < 2 ^ 32 → y < 2 ^ 32 → k ≤ 32 → (((x ^^^ y) / 2 ^ k = 0) ↔ x / 2 ^ k = y / 2 ^ k) := by
    intro x y k _ _ _
    rw [← Nat.shiftRight_eq_div_pow, ← Nat.shiftRight_eq_div_pow, ← Nat.shiftRight_eq_div_pow, Nat.shiftRight_xor_distrib]
    constructor
    · intro h
      have := congrArg (· ^^^ (y >>> k)) h
      simpa [Nat.xor_assoc] using this
    · intro h
      rw [h, Nat.xor_self]
  have hmask : (maskOf b).toNat = (2 ^ 32 - 2 ^ (32 - b).toNat) % 2 ^ 32 := by
    rcases bits33 h0 h1 with h | h | h | h | h | h | h | h | h | h | h | h | h | h | h | h | h | h | h | h | h | h | h | h | h | h | h | h | h | h | h | h | h
    all_goals (subst h; decide)
  rw [hmask]
  unfold szN
  rw [← key a.toNat ip.toNat (32 - b).toNat (by omega) (by omega) (by omega)]
  have hand : ∀ x k : Nat, x < 2 ^ 32 → k ≤ 32 → (x &&& ((2 ^ 32 - 2 ^ k) % 2 ^ 32)) = x / 2 ^ k * 2 ^ k := by
    intro x k hx hk
    rw [Nat.mod_eq_of_lt (by have := Nat.two_pow_pos k; omega), nat_midmask 32 k x hk, Nat.mod_eq_of_lt hx]
  rw [hand _ _ hx (by omega)]
  have := Nat.two_pow_pos (32 - b).toNat
  constructor
  · intro h
    have h2 : (a.toNat ^^^ ip.toNat) / 2 ^ (32 - b).toNat * 2 ^ (32 - b).toNat = 0 := by omega
    rcases Nat.mul_eq_zero.1 h2 with h3 | h3
    · exact h3
    · omega
  · intro h
    rw [h, Nat.zero_mul]; rfl

set_option maxHeartbeats 4000000 in
theorem addrs_May (ip b : Int) (w : World) (hi : 0 ≤ ip ∧ ip ≤ 4294967295) :
    Calls Tryz.prog 90 #[.agg #[.int .u32 ip, .int .i64 b]] w (Ret (.bool (mayP ip b)) w) := by
  have hv : (b < 0 ∧ mayP ip b = false) ∨ (¬ b < 0 ∧ 32 < b ∧ mayP ip b = false) ∨ (0 ≤ b ∧ b ≤ 32 ∧ mayP ip b = decide (bits .andNot .u32 ip (maskOf b) = 0)) := by
    unfold mayP
    by_cases h0 : 0 ≤ b
    · by_cases h1 : b ≤ 32
      · exact Or.inr (Or.inr ⟨h0, h1, by rw [decide_eq_true h0, decide_eq_true h1]; simp only [Bool.true_and]; exact decide_eq_decide.2 (andNot_mask hi h0 h1).symm⟩)
      · exact Or.inr (Or.inl ⟨by omega, by omega, by simp; omega⟩)
    · exact Or.inl ⟨by omega, by simp; omega⟩
  clear hi
  rcases hv with ⟨h, e⟩ | ⟨h0, h1, e⟩ | ⟨h0, h1, e⟩
  · rw [e]
    clear e
    have q1 : decide (0 ≤ b) = false := decide_eq_false (by omega)
    go_enter Tryz.func90, Tryz.ntmps90
    have d0 := Cells.new w #[.int .u32 ip, .int .i64 b] 66
    have xd0_0 : ((w.alloc (.cells #[.int .u32 ip, .int .i64 b] 66))).cell? ⟨w.heap.size, 0, none⟩ = some (.int .u32 ip) := d0.at_ 0
    have xd0_1 : ((w.alloc (.cells #[.int .u32 ip, .int .i64 b] 66))).cell? ⟨w.heap.size, 1, none⟩ = some (.int .i64 b) := d0.at_ 1
    have l0 := fresh_below w (.cells #[.int .u32 ip, .int .i64 b] 66)
    have L0 := hide l0
    clear l0 d0
    go_wp2_with fail
    generalize (w.alloc (.cells #[.int .u32 ip, .int .i64 b] 66)) = w0 at *
    go_quiet (fail)
    go_wp2_with fail
    go_ret
    exact ⟨rfl, below_drewN L0.out _⟩
  · rw [e]
    clear e
    have q1 : decide (0 ≤ b) = true := decide_eq_true (by omega)
    have q2 : decide (b ≤ 32) = false := decide_eq_false (by omega)
    go_enter Tryz.func90, Tryz.ntmps90
    have d0 := Cells.new w #[.int .u32 ip, .int .i64 b] 66
    have xd0_0 : ((w.alloc (.cells #[.int .u32 ip, .int .i64 b] 66))).cell? ⟨w.heap.size, 0, none⟩ = some (.int .u32 ip) := d0.at_ 0
    have xd0_1 : ((w.alloc (.cells #[.int .u32 ip, .int .i64 b] 66))).cell? ⟨w.heap.size, 1, none⟩ = some (.int .i64 b) := d0.at_ 1
    have l0 := fresh_below w (.cells #[.int .u32 ip, .int .i64 b] 66)
    have L0 := hide l0
    clear l0 d0
    go_wp2_with fail
    generalize (w.alloc (.cells #[.int .u32 ip, .int .i64 b] 66)) = w0 at *
    go_quiet (fail)
    go_wp2_with fail
    go_ret
    exact ⟨rfl, below_drewN L0.out _⟩
  · rw [e]
    clear e
    have c1 := fun W => addrs_mask b W h0 h1
    have C1 := hide c1
    clear c1
    generalize maskOf b = m at *
    go_enter Tryz.func90, Tryz.ntmps90
    have d0 := Cells.new w #[.int .u32 ip, .int .i64 b] 66
    have xd0_0 : ((w.alloc (.cells #[.int .u32 ip, .int .i64 b] 66))).cell? ⟨w.heap.size, 0, none⟩ = some (.int .u32 ip) := d0.at_ 0
    have xd0_1 : ((w.alloc (.cells #[.int .u32 ip, .int .i64 b] 66))).cell? ⟨w.heap.size, 1, none⟩ = some (.int .i64 b) := d0.at_ 1
    have l0 := fresh_below w (.cells #[.int .u32 ip, .int .i64 b] 66)
    have L0 := hide l0
    clear l0 d0
    go_wp2_with fail
    generalize (w.alloc (.cells #[.int .u32 ip, .int .i64 b] 66)) = w0 at *
    go_quiet ((go_at_call 104; refine Calls.quiet_of_same (C1.out _)))
    go_wp2_with fail
    go_ret
    exact ⟨by first | rfl | (simp), below_drewN L0.out _⟩

theorem addrs_mask_ret (b : Int) (w : World) (h0 : 0 ≤ b) (h1 : b ≤ 32) : Calls Tryz.prog 104 #[.int .i64 b] w (Ret (.int .u32 (maskOf b)) w) :=
  (addrs_mask b w h0 h1).mono fun e w' h => ⟨h.1, by rw [h.2]; exact Below.refl _ _⟩
set_option maxHeartbeats 4000000 in
theorem addrs_Has (ip b a : Int) (w : World) (hi : 0 ≤ ip ∧ ip ≤ 4294967295) (ha : 0 ≤ a ∧ a ≤ 4294967295) :
    Calls Tryz.prog 59 #[.agg #[.int .u32 ip, .int .i64 b], .int .u32 a] w (Ret (.bool (hasP ip b a)) w) := by
  have c1 := fun W => addrs_May ip b W hi
  by_cases hm : mayP ip b = true
  · have hb : 0 ≤ b ∧ b ≤ 32 := by unfold mayP at hm; simp at hm; omega
    have hv : hasP ip b a = decide (bits .and .u32 (bits .xor .u32 a ip) (maskOf b) = 0) := by
      unfold hasP
      rw [hm]; simp only [Bool.true_and]; exact decide_eq_decide.2 (and_mask ha hi hb.1 hb.2).symm
    have c2 := fun W => addrs_mask_ret b W hb.1 hb.2
    have C2 := hide c2
    rw [hv]
    rw [hm] at c1
    clear hv hm c2 hb hi ha
    generalize maskOf b = m at *
    have C1 := hide c1
    clear c1
    go_enter Tryz.func59, Tryz.ntmps59
    have d0 := Cells.new w #[.int .u32 ip, .int .i64 b] 66
    have b0 := fresh_below w (.cells #[.int .u32 ip, .int .i64 b] 66)
    have L0 := hide b0; have D0 := hide d0
    clear b0 d0
    go_wp2_with fail
    have b0 := L0.out; have d0 := D0.out
    clear L0 D0
    generalize (w.alloc (.cells #[.int .u32 ip, .int .i64 b] 66)) = w0 at *
    have SK := hide (fun (zX zY : World) (zh : (Below w.heap.size w zX ∧ zX.cell? ⟨w.heap.size, 0, none⟩ = some (.int .u32 ip) ∧ zX.cell? ⟨w.heap.size, 1, none⟩ = some (.int .i64 b) ∧ True)) (zb : Below zX.heap.size zX zY) => (show (Below w.heap.size w zY ∧ zY.cell? ⟨w.heap.size, 0, none⟩ = some (.int .u32 ip) ∧ zY.cell? ⟨w.heap.size, 1, none⟩ = some (.int .i64 b) ∧ True) from ⟨bstep zh.1 zb, cellAt zb zh.2.1, cellAt zb zh.2.2.1, trivial⟩))
    have FS := hide (fun (zX : World) (zh : (Below w.heap.size w zX ∧ zX.cell? ⟨w.heap.size, 0, none⟩ = some (.int .u32 ip) ∧ zX.cell? ⟨w.heap.size, 1, none⟩ = some (.int .i64 b) ∧ True)) => zh.1)
    have GS := hide (fun (zX : World) (zh : (Below w.heap.size w zX ∧ zX.cell? ⟨w.heap.size, 0, none⟩ = some (.int .u32 ip) ∧ zX.cell? ⟨w.heap.size, 1, none⟩ = some (.int .i64 b) ∧ True)) => zh)
    have hS0 : (Below w.heap.size w w0 ∧ w0.cell? ⟨w.heap.size, 0, none⟩ = some (.int .u32 ip) ∧ w0.cell? ⟨w.heap.size, 1, none⟩ = some (.int .i64 b) ∧ True) := ⟨(by (repeat' (first | with_reducible exact b0 | with_reducible exact Below.refl _ _ | with_reducible refine Below.setCell ?_ (by first | exact Nat.le_refl _ | (dsimp only; omega)) _ | with_reducible refine bstep ?_ (fresh_below _ _) | with_reducible refine Below.drew ?_))), d0.at_ 0, d0.at_ 1, trivial⟩
    go_region_held3 (fun w' => (Below w.heap.size w w' ∧ w'.cell? ⟨w.heap.size, 0, none⟩ = some (.int .u32 ip) ∧ w'.cell? ⟨w.heap.size, 1, none⟩ = some (.int .i64 b) ∧ True)) (first | assumption | exact SK.out _ _ hS0 (Below.refl _ _).drew | exact SK.out _ _ hS0 (fresh_below _ _).drew | exact SK.out _ _ (by assumption) (fresh_below _ _) | (refine SK.out _ _ ?_ (by assumption); assumption))
      (first | (go_at_call 90; (with_reducible refine (C1.out _).mono ?_); rintro e wq ⟨rfl, bq⟩) | (go_at_call 104; (with_reducible refine (C2.out _).mono ?_); rintro e wq ⟨rfl, bq⟩))
    all_goals
      go_wp2_with fail
      go_ret
      exact ⟨by first | rfl | simp, (by first | exact FS.out _ (by assumption) | exact bstep (FS.out _ (by assumption)) (fresh_below _ _) | exact bstep (bstep (FS.out _ (by assumption)) (fresh_below _ _)) (fresh_below _ _))⟩
  · have hm : mayP ip b = false := by simpa using hm
    have hv : hasP ip b a = false := by unfold hasP; rw [hm]; rfl
    rw [hv]
    rw [hm] at c1
    clear hv hm hi ha
    have C1 := hide c1
    clear c1
    go_enter Tryz.func59, Tryz.ntmps59
    have d0 := Cells.new w #[.int .u32 ip, .int .i64 b] 66
    have b0 := fresh_below w (.cells #[.int .u32 ip, .int .i64 b] 66)
    have L0 := hide b0; have D0 := hide d0
    clear b0 d0
    go_wp2_with fail
    have b0 := L0.out; have d0 := D0.out
    clear L0 D0
    generalize (w.alloc (.cells #[.int .u32 ip, .int .i64 b] 66)) = w0 at *
    refine wp_region_held_drew (S := fun W => World.cell? W ⟨w.heap.size, 0, none⟩ = some (.int .u32 ip) ∧ World.cell? W ⟨w.heap.size, 1, none⟩ = some (.int .i64 b)) (by kernel_rfl) (⟨Cells.at_ d0 0, Cells.at_ d0 1⟩) (fun hS0 => ?_)
    refine wpAnyH_take (i := 0) (v := ?v0_1) rfl (by kernel_rfl) (by kernel_rfl) (by kernel_rfl) (fun _ _ _ h => h) (Or.inl (And.intro (by kernel_rfl) ?q0_1)) hS0 ?r0_1; (case q0_1 => (rintro w (⟨hx0, hx1⟩); (try dsimp only); (try go_simp); (try with_reducible rfl)))
    try simp only [Act.put, putS]
    refine wpAnyH_ready (rs := [1]) (by kernel_rfl) (by simp) ?_
    refine AllReadyH.cons rfl (fun K hK => ?_) AllReadyH.nil
    rw [if_pos (by kernel_rfl)]
    (try simp only [putG])
    go_simp
    (with_reducible refine (C1.out _).mono ?_)
    rintro e wJ1 ⟨rfl, bJ1⟩
    have rJ1 := bJ1
    replace bJ1 : Below w.heap.size w wJ1 := by (refine bstep ?_ bJ1); (repeat' (first | with_reducible exact b0 | with_reducible exact Below.refl _ _ | with_reducible refine Below.setCell ?_ (by first | exact Nat.le_refl _ | (dsimp only; omega)) _ | with_reducible refine bstep ?_ (fresh_below _ _) | with_reducible refine Below.drew ?_))
    replace d0 := Cells.below rJ1 (by first | exact d0 | exact Cells.drew d0)
    try go_wp2_with fail
    refine hK.out _ _ (⟨Cells.at_ d0 0, Cells.at_ d0 1⟩) (fun hS0 => ?_)
    clear hK K
    try simp only [Act.put, putS]
    refine wpAnyH_take (i := 2) (v := ?v2_3) rfl (by kernel_rfl) (by kernel_rfl) (by kernel_rfl) (fun _ _ _ h => h) (Or.inl (And.intro (by kernel_rfl) ?q2_3)) hS0 ?r2_3; (case q2_3 => (rintro w (⟨hx0, hx1⟩); (try dsimp only); (try go_simp); (try with_reducible rfl)))
    try simp only [Act.put, putS]
    refine wpAnyH_take (i := 3) (v := undef) rfl (by kernel_rfl) (by kernel_rfl) (by kernel_rfl) (fun _ _ _ h => h) (Or.inr (And.intro (by kernel_rfl) rfl)) hS0 ?r3_4
    try simp only [Act.put, putS]
    refine wpAnyH_take (i := 4) (v := undef) rfl (by kernel_rfl) (by kernel_rfl) (by kernel_rfl) (fun _ _ _ h => h) (Or.inr (And.intro (by kernel_rfl) rfl)) hS0 ?r4_5
    try simp only [Act.put, putS]
    refine wpAnyH_take (i := 5) (v := undef) rfl (by kernel_rfl) (by kernel_rfl) (by kernel_rfl) (fun _ _ _ h => h) (Or.inr (And.intro (by kernel_rfl) rfl)) hS0 ?r5_6
    try simp only [Act.put, putS]
    refine wpAnyH_take (i := 6) (v := undef) rfl (by kernel_rfl) (by kernel_rfl) (by kernel_rfl) (fun _ _ _ h => h) (Or.inr (And.intro (by kernel_rfl) rfl)) hS0 ?r6_7
    try simp only [Act.put, putS]
    refine wpAnyH_take (i := 7) (v := undef) rfl (by kernel_rfl) (by kernel_rfl) (by kernel_rfl) (fun _ _ _ h => h) (Or.inr (And.intro (by kernel_rfl) rfl)) hS0 ?r7_8
    try simp only [Act.put, putS]
    refine wpAnyH_take (i := 8) (v := undef) rfl (by kernel_rfl) (by kernel_rfl) (by kernel_rfl) (fun _ _ _ h => h) (Or.inr (And.intro (by kernel_rfl) rfl)) hS0 ?r8_9
    try simp only [Act.put, putS]
    refine wpAnyH_take (i := 9) (v := undef) rfl (by kernel_rfl) (by kernel_rfl) (by kernel_rfl) (fun _ _ _ h => h) (Or.inr (And.intro (by kernel_rfl) rfl)) hS0 ?r9_10
    try simp only [Act.put, putS]
    refine wpAnyH_take (i := 10) (v := undef) rfl (by kernel_rfl) (by kernel_rfl) (by kernel_rfl) (fun _ _ _ h => h) (Or.inr (And.intro (by kernel_rfl) rfl)) hS0 ?r10_11
    try simp only [Act.put, putS]
    refine wpAnyH_take (i := 11) (v := undef) rfl (by kernel_rfl) (by kernel_rfl) (by kernel_rfl) (fun _ _ _ h => h) (Or.inr (And.intro (by kernel_rfl) rfl)) hS0 ?r11_12
    try simp only [Act.put, putS]
    refine wpAnyH_take (i := 12) (v := ?v12_13) rfl (by kernel_rfl) (by kernel_rfl) (by kernel_rfl) (fun _ _ _ h => h) (Or.inl (And.intro (by kernel_rfl) ?q12_13)) hS0 ?r12_13; (case q12_13 => (rintro w (⟨hx0, hx1⟩); (try dsimp only); (try go_simp); (try with_reducible rfl)))
    try simp only [Act.put, putS]
    refine wpAnyH_take (i := 13) (v := ?v13_14) rfl (by kernel_rfl) (by kernel_rfl) (by kernel_rfl) (fun _ _ _ h => h) (Or.inl (And.intro (by kernel_rfl) ?q13_14)) hS0 ?r13_14; (case q13_14 => (rintro w (⟨hx0, hx1⟩); (try dsimp only); (try go_simp); (try with_reducible rfl)))
    try simp only [Act.put, putS]
    refine wpAnyH_done (by kernel_rfl) ?_ _
    go_wp2_with fail
    go_ret
    first | exact ⟨rfl, bJ1⟩ | exact ⟨rfl, bJ1.drew⟩

theorem ref_size (b : Int) (w : World) (h0 : 0 ≤ b) (h1 : b ≤ 32) :
    Calls Tryz.prog 147 #[.int .i64 b] w (fun e w' => e = .returned (.int .u64 (szN b : Nat)) ∧ w' = w) := by
  obtain ⟨n, hn⟩ : ∃ n : Nat, (n : Int) = 32 - b := ⟨(32 - b).toNat, by omega⟩
  have hz : szN b = 2 ^ n := by unfold szN; rw [show (32 - b).toNat = n from by omega]
  have HZ := hide hz; have HN := hide hn
  clear hz hn
  go_enter Tryz.func147, Tryz.ntmps147
  go_wp2_with fail
  go_loopw [3, 4] (fun v i wr => ∃ k : Nat, k ≤ n ∧ v = .int .u64 ((2 ^ k : Nat) : Int) ∧ i = .int .i64 (b + k) ∧ wr = w) (fun _ i _ => (32 - intOf i).toNat)
  case atStart => exact ⟨0, by omega, rfl, by simp, rfl⟩
  case round =>
    obtain ⟨k, hk, rfl, rfl, rfl⟩ := hrel
    have hn := HN.out
    by_cases hl : k < n
    · have q1 : decide (b + (k : Int) < 32) = true := decide_eq_true (by omega)
      have hp : 2 ^ k ≤ 2147483648 := Nat.le_trans (Nat.pow_le_pow_right (by omega) (show k ≤ 31 by omega)) (by decide)
      have he : 2 ^ (k + 1) = 2 * 2 ^ k := by rw [Nat.pow_succ, Nat.mul_comm]
      have HE := hide he
      clear he
      generalize hq : 2 ^ k = q at *
      have HQ := hide hq
      have hw : IntKind.u64.wrap (2 * (q : Int)) = 2 * (q : Int) := IntWalk.u64_in _ (by omega)
      have HP := hide hp
      clear hp hn hq
      go_wp2_with fail
      go_roundw
      case rel =>
        have hn := HN.out
        exact ⟨k + 1, by omega, v_int (by rw [HE.out]; push_cast; rfl), v_int (by rw [IntWalk.wrap64_in _ (by omega)]; push_cast; omega), trivial⟩
      case measure => simp [intOf]; have := HN.out; rw [IntWalk.wrap64_in _ (by omega)]; omega
    · have q1 : decide (b + (k : Int) < 32) = false := decide_eq_false (by omega)
      have e : k = n := by omega
      subst e
      clear hn hk hl
      go_wp2_with fail
      go_ret
      exact ⟨by rw [HZ.out]; push_cast; rfl, rfl⟩
theorem ref_size_ret (b : Int) (w : World) (h0 : 0 ≤ b) (h1 : b ≤ 32) : Calls Tryz.prog 147 #[.int .i64 b] w (Ret (.int .u64 (szN b : Nat)) w) :=
  (ref_size b w h0 h1).mono fun e w' h => ⟨h.1, by rw [h.2]; exact Below.refl _ _⟩

set_option maxHeartbeats 4000000 in
theorem ref_May (ip b : Int) (w : World) (hi : 0 ≤ ip ∧ ip ≤ 4294967295) :
    Calls Tryz.prog 91 #[.agg #[.int .u32 ip, .int .i64 b]] w (Ret (.bool (mayP ip b)) w) := by
  have hv : (b < 0 ∧ mayP ip b = false) ∨ (¬ b < 0 ∧ 32 < b ∧ mayP ip b = false) ∨ (0 ≤ b ∧ b ≤ 32 ∧ mayP ip b = decide (ip.tmod (szN b : Nat) = 0)) := by
    unfold mayP
    by_cases h0 : 0 ≤ b
    · by_cases h1 : b ≤ 32
      · refine Or.inr (Or.inr ⟨h0, h1, ?_⟩)
        rw [decide_eq_true h0, decide_eq_true h1]
        simp only [Bool.true_and]
        refine decide_eq_decide.2 ?_
        obtain ⟨n, rfl⟩ := Int.eq_ofNat_of_zero_le hi.1
        rw [Int.tmod_eq_emod_of_nonneg hi.1, Int.toNat_natCast]
        exact ⟨fun h => by exact_mod_cast h, fun h => by exact_mod_cast h⟩
      · exact Or.inr (Or.inl ⟨by omega, by omega, by simp; omega⟩)
    · exact Or.inl ⟨by omega, by simp; omega⟩
  rcases hv with ⟨h, e⟩ | ⟨h0, h1, e⟩ | ⟨h0, h1, e⟩
  · rw [e]
    clear e hi
    have q1 : decide (0 ≤ b) = false := decide_eq_false (by omega)
    go_enter Tryz.func91, Tryz.ntmps91
    have d0 := Cells.new w #[.int .u32 ip, .int .i64 b] 66
    have xd0_0 : ((w.alloc (.cells #[.int .u32 ip, .int .i64 b] 66))).cell? ⟨w.heap.size, 0, none⟩ = some (.int .u32 ip) := d0.at_ 0
    have xd0_1 : ((w.alloc (.cells #[.int .u32 ip, .int .i64 b] 66))).cell? ⟨w.heap.size, 1, none⟩ = some (.int .i64 b) := d0.at_ 1
    have l0 := fresh_below w (.cells #[.int .u32 ip, .int .i64 b] 66)
    have L0 := hide l0
    clear l0 d0
    go_wp2_with fail
    generalize (w.alloc (.cells #[.int .u32 ip, .int .i64 b] 66)) = w0 at *
    go_quiet (fail)
    go_wp2_with fail
    go_ret
    exact ⟨rfl, below_drewN L0.out _⟩
  · rw [e]
    clear e hi
    have q1 : decide (0 ≤ b) = true := decide_eq_true (by omega)
    have q2 : decide (b ≤ 32) = false := decide_eq_false (by omega)
    go_enter Tryz.func91, Tryz.ntmps91
    have d0 := Cells.new w #[.int .u32 ip, .int .i64 b] 66
    have xd0_0 : ((w.alloc (.cells #[.int .u32 ip, .int .i64 b] 66))).cell? ⟨w.heap.size, 0, none⟩ = some (.int .u32 ip) := d0.at_ 0
    have xd0_1 : ((w.alloc (.cells #[.int .u32 ip, .int .i64 b] 66))).cell? ⟨w.heap.size, 1, none⟩ = some (.int .i64 b) := d0.at_ 1
    have l0 := fresh_below w (.cells #[.int .u32 ip, .int .i64 b] 66)
    have L0 := hide l0
    clear l0 d0
    go_wp2_with fail
    generalize (w.alloc (.cells #[.int .u32 ip, .int .i64 b] 66)) = w0 at *
    go_quiet (fail)
    go_wp2_with fail
    go_ret
    exact ⟨rfl, below_drewN L0.out _⟩
  · rw [e]
    have c1 := fun W => ref_size b W h0 h1
    have hs := szN_bd h0 h1
    have C1 := hide c1
    clear c1 e
    have kw : IntKind.u64.wrap ip = ip := IntWalk.u64_in ip (by omega)
    generalize hm : ((szN b : Nat) : Int) = m at *
    have z0 : 1 ≤ m := by omega
    have z1 : ¬ m = 0 := by omega
    have z2 : (m == 0) = false := by simpa using z1
    have t0 : 0 ≤ ip.tmod m ∧ ip.tmod m ≤ 4294967295 := by
      rw [Int.tmod_eq_emod_of_nonneg hi.1]
      have := Int.emod_nonneg ip z1
      have h1 := Int.mul_nonneg (show 0 ≤ m by omega) (Int.ediv_nonneg hi.1 (show 0 ≤ m by omega))
      have h2 := Int.emod_def ip m
      omega
    have kt : IntKind.u64.wrap (ip.tmod m) = ip.tmod m := IntWalk.u64_in _ (by omega)
    have HS := hide hs; have T0 := hide t0; have HM := hide hm; have Z0 := hide z0
    clear hs t0 hi hm z0
    go_enter Tryz.func91, Tryz.ntmps91
    have d0 := Cells.new w #[.int .u32 ip, .int .i64 b] 66
    have xd0_0 : ((w.alloc (.cells #[.int .u32 ip, .int .i64 b] 66))).cell? ⟨w.heap.size, 0, none⟩ = some (.int .u32 ip) := d0.at_ 0
    have xd0_1 : ((w.alloc (.cells #[.int .u32 ip, .int .i64 b] 66))).cell? ⟨w.heap.size, 1, none⟩ = some (.int .i64 b) := d0.at_ 1
    have l0 := fresh_below w (.cells #[.int .u32 ip, .int .i64 b] 66)
    have L0 := hide l0
    clear l0 d0
    go_wp2_with fail
    generalize (w.alloc (.cells #[.int .u32 ip, .int .i64 b] 66)) = w0 at *
    go_quiet ((go_at_call 147; refine Calls.quiet_of_same (C1.out _)))
    go_wp2_with fail
    go_ret
    exact ⟨by first | rfl | (simp), below_drewN L0.out _⟩

set_option maxHeartbeats 4000000 in
theorem ref_Has (ip b a : Int) (w : World) (hi : 0 ≤ ip ∧ ip ≤ 4294967295) (ha : 0 ≤ a ∧ a ≤ 4294967295) :
    Calls Tryz.prog 92 #[.agg #[.int .u32 ip, .int .i64 b], .int .u32 a] w (Ret (.bool (hasP ip b a)) w) := by
  have c1 := fun W => ref_May ip b W hi
  by_cases hm : mayP ip b = true
  · have hb : 0 ≤ b ∧ b ≤ 32 := by unfold mayP at hm; simp at hm; omega
    have c2 := fun W => ref_size_ret b W hb.1 hb.2
    have hs := szN_bd hb.1 hb.2
    have hv : hasP ip b a = decide (a.tdiv ((szN b : Nat) : Int) = ip.tdiv ((szN b : Nat) : Int)) := by
      unfold hasP
      rw [hm]
      simp only [Bool.true_and]
      refine decide_eq_decide.2 ?_
      obtain ⟨n, rfl⟩ := Int.eq_ofNat_of_zero_le hi.1
      obtain ⟨k, rfl⟩ := Int.eq_ofNat_of_zero_le ha.1
      rw [Int.tdiv_eq_ediv_of_nonneg hi.1, Int.tdiv_eq_ediv_of_nonneg ha.1, Int.toNat_natCast, Int.toNat_natCast]
      exact ⟨fun h => by exact_mod_cast h, fun h => by exact_mod_cast h⟩
    have kw : IntKind.u64.wrap ip = ip := IntWalk.u64_in ip (by omega)
    have ka : IntKind.u64.wrap a = a := IntWalk.u64_in a (by omega)
    rw [hv]
    rw [hm] at c1
    generalize hq : ((szN b : Nat) : Int) = m at *
    have z0 : 1 ≤ m := by omega
    have z1 : ¬ m = 0 := by omega
    have z2 : (m == 0) = false := by simpa using z1
    have kd : ∀ x : Int, 0 ≤ x → x ≤ 4294967295 → IntKind.u64.wrap (x.tdiv m) = x.tdiv m := by
      intro x h0 h1
      rw [Int.tdiv_eq_ediv_of_nonneg h0]
      have h2 := Int.ediv_nonneg h0 (show 0 ≤ m by omega)
      have h3 := Int.ediv_le_self m h0
      exact IntWalk.u64_in _ (by omega)
    have k1 := kd ip hi.1 hi.2
    have k2 := kd a ha.1 ha.2
    have C2 := hide c2; have Z0 := hide z0; have HQ := hide hq; have HB := hide hb
    clear hv hm c2 hb hi ha hs hq z0 kd
    have C1 := hide c1
    clear c1
    go_enter Tryz.func92, Tryz.ntmps92
    have d0 := Cells.new w #[.int .u32 ip, .int .i64 b] 66
    have b0 := fresh_below w (.cells #[.int .u32 ip, .int .i64 b] 66)
    have L0 := hide b0; have D0 := hide d0
    clear b0 d0
    go_wp2_with fail
    have b0 := L0.out; have d0 := D0.out
    clear L0 D0
    generalize (w.alloc (.cells #[.int .u32 ip, .int .i64 b] 66)) = w0 at *
    have SK := hide (fun (zX zY : World) (zh : (Below w.heap.size w zX ∧ zX.cell? ⟨w.heap.size, 0, none⟩ = some (.int .u32 ip) ∧ zX.cell? ⟨w.heap.size, 1, none⟩ = some (.int .i64 b) ∧ True)) (zb : Below zX.heap.size zX zY) => (show (Below w.heap.size w zY ∧ zY.cell? ⟨w.heap.size, 0, none⟩ = some (.int .u32 ip) ∧ zY.cell? ⟨w.heap.size, 1, none⟩ = some (.int .i64 b) ∧ True) from ⟨bstep zh.1 zb, cellAt zb zh.2.1, cellAt zb zh.2.2.1, trivial⟩))
    have FS := hide (fun (zX : World) (zh : (Below w.heap.size w zX ∧ zX.cell? ⟨w.heap.size, 0, none⟩ = some (.int .u32 ip) ∧ zX.cell? ⟨w.heap.size, 1, none⟩ = some (.int .i64 b) ∧ True)) => zh.1)
    have GS := hide (fun (zX : World) (zh : (Below w.heap.size w zX ∧ zX.cell? ⟨w.heap.size, 0, none⟩ = some (.int .u32 ip) ∧ zX.cell? ⟨w.heap.size, 1, none⟩ = some (.int .i64 b) ∧ True)) => zh)
    have hS0 : (Below w.heap.size w w0 ∧ w0.cell? ⟨w.heap.size, 0, none⟩ = some (.int .u32 ip) ∧ w0.cell? ⟨w.heap.size, 1, none⟩ = some (.int .i64 b) ∧ True) := ⟨(by (repeat' (first | with_reducible exact b0 | with_reducible exact Below.refl _ _ | with_reducible refine Below.setCell ?_ (by first | exact Nat.le_refl _ | (dsimp only; omega)) _ | with_reducible refine bstep ?_ (fresh_below _ _) | with_reducible refine Below.drew ?_))), d0.at_ 0, d0.at_ 1, trivial⟩
    go_region_held3 (fun w' => (Below w.heap.size w w' ∧ w'.cell? ⟨w.heap.size, 0, none⟩ = some (.int .u32 ip) ∧ w'.cell? ⟨w.heap.size, 1, none⟩ = some (.int .i64 b) ∧ True)) (first | assumption | exact SK.out _ _ hS0 (Below.refl _ _).drew | exact SK.out _ _ hS0 (fresh_below _ _).drew | exact SK.out _ _ (by assumption) (fresh_below _ _) | (refine SK.out _ _ ?_ (by assumption); assumption))
      (first | (go_at_call 91; (with_reducible refine (C1.out _).mono ?_); rintro e wq ⟨rfl, bq⟩) | (go_at_call 147; (with_reducible refine (C2.out _).mono ?_); rintro e wq ⟨rfl, bq⟩))
    all_goals
      go_wp2_with fail
      go_ret
      exact ⟨by first | rfl | simp, (by first | exact FS.out _ (by assumption) | exact bstep (FS.out _ (by assumption)) (fresh_below _ _) | exact bstep (bstep (FS.out _ (by assumption)) (fresh_below _ _)) (fresh_below _ _))⟩
  · have hm : mayP ip b = false := by simpa using hm
    have hv : hasP ip b a = false := by unfold hasP; rw [hm]; rfl
    rw [hv]
    rw [hm] at c1
    clear hv hm hi ha
    have C1 := hide c1
    clear c1
    go_enter Tryz.func92, Tryz.ntmps92
    have d0 := Cells.new w #[.int .u32 ip, .int .i64 b] 66
    have b0 := fresh_below w (.cells #[.int .u32 ip, .int .i64 b] 66)
    have L0 := hide b0; have D0 := hide d0
    clear b0 d0
    go_wp2_with fail
    have b0 := L0.out; have d0 := D0.out
    clear L0 D0
    generalize (w.alloc (.cells #[.int .u32 ip, .int .i64 b] 66)) = w0 at *
    refine wp_region_held_drew (S := fun W => World.cell? W ⟨w.heap.size, 0, none⟩ = some (.int .u32 ip) ∧ World.cell? W ⟨w.heap.size, 1, none⟩ = some (.int .i64 b)) (by kernel_rfl) (⟨Cells.at_ d0 0, Cells.at_ d0 1⟩) (fun hS0 => ?_)
    refine wpAnyH_take (i := 0) (v := ?v0_15) rfl (by kernel_rfl) (by kernel_rfl) (by kernel_rfl) (fun _ _ _ h => h) (Or.inl (And.intro (by kernel_rfl) ?q0_15)) hS0 ?r0_15; (case q0_15 => (rintro w (⟨hx0, hx1⟩); (try dsimp only); (try go_simp); (try with_reducible rfl)))
    try simp only [Act.put, putS]
    refine wpAnyH_ready (rs := [1]) (by kernel_rfl) (by simp) ?_
    refine AllReadyH.cons rfl (fun K hK => ?_) AllReadyH.nil
    rw [if_pos (by kernel_rfl)]
    (try simp only [putG])
    go_simp
    (with_reducible refine (C1.out _).mono ?_)
    rintro e wJ1 ⟨rfl, bJ1⟩
    have rJ1 := bJ1
    replace bJ1 : Below w.heap.size w wJ1 := by (refine bstep ?_ bJ1); (repeat' (first | with_reducible exact b0 | with_reducible exact Below.refl _ _ | with_reducible refine Below.setCell ?_ (by first | exact Nat.le_refl _ | (dsimp only; omega)) _ | with_reducible refine bstep ?_ (fresh_below _ _) | with_reducible refine Below.drew ?_))
    replace d0 := Cells.below rJ1 (by first | exact d0 | exact Cells.drew d0)
    try go_wp2_with fail
    refine hK.out _ _ (⟨Cells.at_ d0 0, Cells.at_ d0 1⟩) (fun hS0 => ?_)
    clear hK K
    try simp only [Act.put, putS]
    refine wpAnyH_take (i := 2) (v := ?v2_17) rfl (by kernel_rfl) (by kernel_rfl) (by kernel_rfl) (fun _ _ _ h => h) (Or.inl (And.intro (by kernel_rfl) ?q2_17)) hS0 ?r2_17; (case q2_17 => (rintro w (⟨hx0, hx1⟩); (try dsimp only); (try go_simp); (try with_reducible rfl)))
    try simp only [Act.put, putS]
    refine wpAnyH_take (i := 3) (v := undef) rfl (by kernel_rfl) (by kernel_rfl) (by kernel_rfl) (fun _ _ _ h => h) (Or.inr (And.intro (by kernel_rfl) rfl)) hS0 ?r3_18
    try simp only [Act.put, putS]
    refine wpAnyH_take (i := 4) (v := undef) rfl (by kernel_rfl) (by kernel_rfl) (by kernel_rfl) (fun _ _ _ h => h) (Or.inr (And.intro (by kernel_rfl) rfl)) hS0 ?r4_19
    try simp only [Act.put, putS]
    refine wpAnyH_take (i := 5) (v := undef) rfl (by kernel_rfl) (by kernel_rfl) (by kernel_rfl) (fun _ _ _ h => h) (Or.inr (And.intro (by kernel_rfl) rfl)) hS0 ?r5_20
    try simp only [Act.put, putS]
    refine wpAnyH_take (i := 6) (v := undef) rfl (by kernel_rfl) (by kernel_rfl) (by kernel_rfl) (fun _ _ _ h => h) (Or.inr (And.intro (by kernel_rfl) rfl)) hS0 ?r6_21
    try simp only [Act.put, putS]
    refine wpAnyH_take (i := 7) (v := undef) rfl (by kernel_rfl) (by kernel_rfl) (by kernel_rfl) (fun _ _ _ h => h) (Or.inr (And.intro (by kernel_rfl) rfl)) hS0 ?r7_22
    try simp only [Act.put, putS]
    refine wpAnyH_take (i := 8) (v := undef) rfl (by kernel_rfl) (by kernel_rfl) (by kernel_rfl) (fun _ _ _ h => h) (Or.inr (And.intro (by kernel_rfl) rfl)) hS0 ?r8_23
    try simp only [Act.put, putS]
    refine wpAnyH_take (i := 9) (v := undef) rfl (by kernel_rfl) (by kernel_rfl) (by kernel_rfl) (fun _ _ _ h => h) (Or.inr (And.intro (by kernel_rfl) rfl)) hS0 ?r9_24
    try simp only [Act.put, putS]
    refine wpAnyH_take (i := 10) (v := undef) rfl (by kernel_rfl) (by kernel_rfl) (by kernel_rfl) (fun _ _ _ h => h) (Or.inr (And.intro (by kernel_rfl) rfl)) hS0 ?r10_25
    try simp only [Act.put, putS]
    refine wpAnyH_take (i := 11) (v := undef) rfl (by kernel_rfl) (by kernel_rfl) (by kernel_rfl) (fun _ _ _ h => h) (Or.inr (And.intro (by kernel_rfl) rfl)) hS0 ?r11_26
    try simp only [Act.put, putS]
    refine wpAnyH_take (i := 12) (v := undef) rfl (by kernel_rfl) (by kernel_rfl) (by kernel_rfl) (fun _ _ _ h => h) (Or.inr (And.intro (by kernel_rfl) rfl)) hS0 ?r12_27
    try simp only [Act.put, putS]
    refine wpAnyH_take (i := 13) (v := undef) rfl (by kernel_rfl) (by kernel_rfl) (by kernel_rfl) (fun _ _ _ h => h) (Or.inr (And.intro (by kernel_rfl) rfl)) hS0 ?r13_28
    try simp only [Act.put, putS]
    refine wpAnyH_take (i := 14) (v := undef) rfl (by kernel_rfl) (by kernel_rfl) (by kernel_rfl) (fun _ _ _ h => h) (Or.inr (And.intro (by kernel_rfl) rfl)) hS0 ?r14_29
    try simp only [Act.put, putS]
    refine wpAnyH_take (i := 15) (v := undef) rfl (by kernel_rfl) (by kernel_rfl) (by kernel_rfl) (fun _ _ _ h => h) (Or.inr (And.intro (by kernel_rfl) rfl)) hS0 ?r15_30
    try simp only [Act.put, putS]
    refine wpAnyH_take (i := 16) (v := undef) rfl (by kernel_rfl) (by kernel_rfl) (by kernel_rfl) (fun _ _ _ h => h) (Or.inr (And.intro (by kernel_rfl) rfl)) hS0 ?r16_31
    try simp only [Act.put, putS]
    refine wpAnyH_take (i := 17) (v := ?v17_32) rfl (by kernel_rfl) (by kernel_rfl) (by kernel_rfl) (fun _ _ _ h => h) (Or.inl (And.intro (by kernel_rfl) ?q17_32)) hS0 ?r17_32; (case q17_32 => (rintro w (⟨hx0, hx1⟩); (try dsimp only); (try go_simp); (try with_reducible rfl)))
    try simp only [Act.put, putS]
    refine wpAnyH_take (i := 18) (v := ?v18_33) rfl (by kernel_rfl) (by kernel_rfl) (by kernel_rfl) (fun _ _ _ h => h) (Or.inl (And.intro (by kernel_rfl) ?q18_33)) hS0 ?r18_33; (case q18_33 => (rintro w (⟨hx0, hx1⟩); (try dsimp only); (try go_simp); (try with_reducible rfl)))
    try simp only [Act.put, putS]
    refine wpAnyH_done (by kernel_rfl) ?_ _
    go_wp2_with fail
    go_ret
    first | exact ⟨rfl, bJ1⟩ | exact ⟨rfl, bJ1.drew⟩
end Go.Proofs.YtilfcikhipadpaaGreatDoor
end

section
/- rules: a rule, a table in memory; none, Inner, static. -/
set_option linter.unusedVariables false
set_option linter.unusedSimpArgs false
namespace Go.Proofs.YtilfcikhipadpaaGreatDoor
open Go.RowKit
attribute [local go_sem] Oper.semAt_some

/-- a rule: kind, protocol, source and destination prefix, outer address, ports from and to, inner endpoint -/
structure Rule where
  k : Int
  p : Int
  sa : Int
  sb : Int
  da : Int
  db : Int
  e : Int
  f : Int
  t : Int
  ia : Int
  ip : Int
deriving DecidableEq
def Rule.cells (r : Rule) : Array Value := #[.int .i64 r.k, .int .u8 r.p, .int .u32 r.sa, .int .i64 r.sb, .int .u32 r.da, .int .i64 r.db, .int .u32 r.e, .int .u16 r.f, .int .u16 r.t, .int .u32 r.ia, .int .u16 r.ip]
def Rule.Ok (r : Rule) : Prop := (0 ≤ r.p ∧ r.p ≤ 255) ∧ (0 ≤ r.sa ∧ r.sa ≤ 4294967295) ∧ (0 ≤ r.da ∧ r.da ≤ 4294967295) ∧ (0 ≤ r.e ∧ r.e ≤ 4294967295) ∧ (0 ≤ r.f ∧ r.f ≤ 65535) ∧ (0 ≤ r.t ∧ r.t ≤ 65535) ∧ (0 ≤ r.ia ∧ r.ia ≤ 4294967295) ∧ (0 ≤ r.ip ∧ r.ip ≤ 65535)
def stOk (ip b : Int) (r : Rule) : Bool := (decide (r.sa = 0) && decide (r.sb = 0) && decide (r.da = 0) && decide (r.db = 0)) && (decide (r.p = 6) || decide (r.p = 17)) && !hasP ip b r.e && decide (0 < r.f) && decide (r.t = r.f) && hasP ip b r.ia && decide (0 < r.ip)
def srOk (r : Rule) : Bool := (decide (r.p = 0) || decide (r.p = 1) || decide (r.p = 6) || decide (r.p = 17)) && decide (r.ia = 0) && decide (r.ip = 0) && mayP r.sa r.sb && mayP r.da r.db && decide (0 < r.f) && decide (r.f ≤ r.t)
def mayR (ip b : Int) (r : Rule) : Bool := if r.k = 1 then srOk r && !hasP ip b r.e else if r.k = 2 then srOk r && decide (r.e = 0) else if r.k = 3 then stOk ip b r else false

/-- the program's table at block B: its outer address, its inner prefix, its slice of rules -/
def Tbl (w : World) (B : Nat) (o ip b : Int) (v : Value) : Prop := Cells w B #[.bool true, .int .u32 o, .int .u32 ip, .int .i64 b, v] 130
theorem Tbl.below {w w' : World} {B : Nat} {o ip b : Int} {v : Value} (h : Tbl w B o ip b v) (k : Below w.heap.size w w') : Tbl w' B o ip b v := Cells.below k h

end Go.Proofs.YtilfcikhipadpaaGreatDoor
end

section
/- rules: clash, Check: printed (gen/ways.py, gen/rules.spec.py). -/
set_option linter.unusedVariables false
namespace Go.Proofs.YtilfcikhipadpaaGreatDoor
open Go.RowKit Go.Lib Rx
abbrev EvL (A : Amb) := List (Ev Tryz.prog A)
/-- a run that leaves its blocks as they were -/
theorem cB {P : Program} {A : Amb} {f : FuncId} {args : List Value} {sn : List (Nat × Blk)} {nx : Nat} {v : Value} (hB : inBlks nx sn = true) (nx' : Nat) (evs : List (Ev P A)) (h : resM P f args sn nx (asOf evs) (sn.map (·.1)) = some (v, sn, nx', [], (keysOf evs).reverse) := by kernel_rfl) (hm : P.follows .mixedOrders = true := by kernel_rfl) (h1 : args.all (inV nx) = true := by kernel_rfl) (h3 : inV nx v = true := by kernel_rfl) : CallJ P A f args sn nx v sn nx :=
  (con (nx' := nx') evs h hm).drop (h1 := h1) (h2 := hB) (h3 := h3) (h4 := hB)
def mE {A : Amb} (n : Nat) (a b : Int) (h : 0 ≤ a ∧ a ≤ 4294967295) : Ev Tryz.prog A := does n (args := [.agg #[.int .u32 a, .int .i64 b]]) fun W _ => addrs_May a b W h
def hE {A : Amb} (n : Nat) (a b x : Int) (h : 0 ≤ a ∧ a ≤ 4294967295) (hx : 0 ≤ x ∧ x ≤ 4294967295) : Ev Tryz.prog A := does n (args := [.agg #[.int .u32 a, .int .i64 b], .int .u32 x]) fun W _ => addrs_Has a b x W h hx
def rx_clash_v (k p sa sb da db e f t ia ip k2 p2 sa2 sb2 da2 db2 e2 f2 t2 ia2 ip2 : Int) : Value := (bif (k != 3) then (bif (k2 != 3) then (.bool false) else (bif (p != p2) then (bif (p != 0) then (.bool false) else (bif (k == 3) then (.bool false) else (bif (e2 == e) then (bif (decide (f ≤ f2)) then (.bool (decide (f2 ≤ t))) else (.bool false)) else (.bool false)))) else (bif (k == 3) then (bif (ia2 == ia && (ip2 == ip && true)) then (.bool true) else (bif (e2 == e) then (bif (decide (f ≤ f2)) then (.bool (decide (f2 ≤ t))) else (.bool false)) else (.bool false))) else (bif (e2 == e) then (bif (decide (f ≤ f2)) then (.bool (decide (f2 ≤ t))) else (.bool false)) else (.bool false))))) else (bif (p2 != p) then (bif (p2 != 0) then (.bool false) else (bif (k2 == 3) then (.bool false) else (bif (e == e2) then (bif (decide (f2 ≤ f)) then (.bool (decide (f ≤ t2))) else (.bool false)) else (.bool false)))) else (bif (k2 == 3) then (bif (ia == ia2 && (ip == ip2 && true)) then (.bool true) else (bif (e == e2) then (bif (decide (f2 ≤ f)) then (.bool (decide (f ≤ t2))) else (.bool false)) else (.bool false))) else (bif (e == e2) then (bif (decide (f2 ≤ f)) then (.bool (decide (f ≤ t2))) else (.bool false)) else (.bool false)))))
theorem rx_clash (k p sa sb da db e f t ia ip k2 p2 sa2 sb2 da2 db2 e2 f2 t2 ia2 ip2 : Int) (w : World)  : Calls Tryz.prog 95 #[.agg #[.int .i64 k, .int .u8 p, .int .u32 sa, .int .i64 sb, .int .u32 da, .int .i64 db, .int .u32 e, .int .u16 f, .int .u16 t, .int .u32 ia, .int .u16 ip], .agg #[.int .i64 k2, .int .u8 p2, .int .u32 sa2, .int .i64 sb2, .int .u32 da2, .int .i64 db2, .int .u32 e2, .int .u16 f2, .int .u16 t2, .int .u32 ia2, .int .u16 ip2]] w (Ret (rx_clash_v k p sa sb da db e f t ia ip k2 p2 sa2 sb2 da2 db2 e2 f2 t2 ia2 ip2) w) := by
  unfold rx_clash_v
  cases h1 : (k != 3)
  · cases h2 : (p2 != p)
    · cases h3 : (k2 == 3)
      · cases h4 : (e == e2)
        · exact run (args := [.agg #[.int .i64 k, .int .u8 p, .int .u32 sa, .int .i64 sb, .int .u32 da, .int .i64 db, .int .u32 e, .int .u16 f, .int .u16 t, .int .u32 ia, .int .u16 ip], .agg #[.int .i64 k2, .int .u8 p2, .int .u32 sa2, .int .i64 sb2, .int .u32 da2, .int .i64 db2, .int .u32 e2, .int .u16 f2, .int .u16 t2, .int .u32 ia2, .int .u16 ip2]]) [no 6 h1, isF 10 h1, isF 16 h2, isF 31 h3, isF 44 h4]
        · cases h5 : (decide (f2 ≤ f))
          · exact run (args := [.agg #[.int .i64 k, .int .u8 p, .int .u32 sa, .int .i64 sb, .int .u32 da, .int .i64 db, .int .u32 e, .int .u16 f, .int .u16 t, .int .u32 ia, .int .u16 ip], .agg #[.int .i64 k2, .int .u8 p2, .int .u32 sa2, .int .i64 sb2, .int .u32 da2, .int .i64 db2, .int .u32 e2, .int .u16 f2, .int .u16 t2, .int .u32 ia2, .int .u16 ip2]]) [no 6 h1, isF 10 h1, isF 16 h2, isF 31 h3, isT 44 h4, isF 51 h5]
          · exact run (args := [.agg #[.int .i64 k, .int .u8 p, .int .u32 sa, .int .i64 sb, .int .u32 da, .int .i64 db, .int .u32 e, .int .u16 f, .int .u16 t, .int .u32 ia, .int .u16 ip], .agg #[.int .i64 k2, .int .u8 p2, .int .u32 sa2, .int .i64 sb2, .int .u32 da2, .int .i64 db2, .int .u32 e2, .int .u16 f2, .int .u16 t2, .int .u32 ia2, .int .u16 ip2]]) [no 6 h1, isF 10 h1, isF 16 h2, isF 31 h3, isT 44 h4, isT 51 h5]
      · cases h6 : (ia == ia2 && (ip == ip2 && true))
        · cases h7 : (e == e2)
          · exact run (args := [.agg #[.int .i64 k, .int .u8 p, .int .u32 sa, .int .i64 sb, .int .u32 da, .int .i64 db, .int .u32 e, .int .u16 f, .int .u16 t, .int .u32 ia, .int .u16 ip], .agg #[.int .i64 k2, .int .u8 p2, .int .u32 sa2, .int .i64 sb2, .int .u32 da2, .int .i64 db2, .int .u32 e2, .int .u16 f2, .int .u16 t2, .int .u32 ia2, .int .u16 ip2]]) [no 6 h1, isF 10 h1, isF 16 h2, isT 31 h3, no 38 h6, isF 44 h7]
          · cases h8 : (decide (f2 ≤ f))
            · exact run (args := [.agg #[.int .i64 k, .int .u8 p, .int .u32 sa, .int .i64 sb, .int .u32 da, .int .i64 db, .int .u32 e, .int .u16 f, .int .u16 t, .int .u32 ia, .int .u16 ip], .agg #[.int .i64 k2, .int .u8 p2, .int .u32 sa2, .int .i64 sb2, .int .u32 da2, .int .i64 db2, .int .u32 e2, .int .u16 f2, .int .u16 t2, .int .u32 ia2, .int .u16 ip2]]) [no 6 h1, isF 10 h1, isF 16 h2, isT 31 h3, no 38 h6, isT 44 h7, isF 51 h8]
            · exact run (args := [.agg #[.int .i64 k, .int .u8 p, .int .u32 sa, .int .i64 sb, .int .u32 da, .int .i64 db, .int .u32 e, .int .u16 f, .int .u16 t, .int .u32 ia, .int .u16 ip], .agg #[.int .i64 k2, .int .u8 p2, .int .u32 sa2, .int .i64 sb2, .int .u32 da2, .int .i64 db2, .int .u32 e2, .int .u16 f2, .int .u16 t2, .int .u32 ia2, .int .u16 ip2]]) [no 6 h1, isF 10 h1, isF 16 h2, isT 31 h3, no 38 h6, isT 44 h7, isT 51 h8]
        · exact run (args := [.agg #[.int .i64 k, .int .u8 p, .int .u32 sa, .int .i64 sb, .int .u32 da, .int .i64 db, .int .u32 e, .int .u16 f, .int .u16 t, .int .u32 ia, .int .u16 ip], .agg #[.int .i64 k2, .int .u8 p2, .int .u32 sa2, .int .i64 sb2, .int .u32 da2, .int .i64 db2, .int .u32 e2, .int .u16 f2, .int .u16 t2, .int .u32 ia2, .int .u16 ip2]]) [no 6 h1, isF 10 h1, isF 16 h2, isT 31 h3, yes 38 h6]
    · cases h9 : (p2 != 0)
      · cases h10 : (k2 == 3)
        · cases h11 : (e == e2)
          · exact run (args := [.agg #[.int .i64 k, .int .u8 p, .int .u32 sa, .int .i64 sb, .int .u32 da, .int .i64 db, .int .u32 e, .int .u16 f, .int .u16 t, .int .u32 ia, .int .u16 ip], .agg #[.int .i64 k2, .int .u8 p2, .int .u32 sa2, .int .i64 sb2, .int .u32 da2, .int .i64 db2, .int .u32 e2, .int .u16 f2, .int .u16 t2, .int .u32 ia2, .int .u16 ip2]]) [no 6 h1, isF 10 h1, isT 16 h2, isF 20 h9, no 27 h10, isF 31 h10, isF 44 h11]
          · cases h12 : (decide (f2 ≤ f))
            · exact run (args := [.agg #[.int .i64 k, .int .u8 p, .int .u32 sa, .int .i64 sb, .int .u32 da, .int .i64 db, .int .u32 e, .int .u16 f, .int .u16 t, .int .u32 ia, .int .u16 ip], .agg #[.int .i64 k2, .int .u8 p2, .int .u32 sa2, .int .i64 sb2, .int .u32 da2, .int .i64 db2, .int .u32 e2, .int .u16 f2, .int .u16 t2, .int .u32 ia2, .int .u16 ip2]]) [no 6 h1, isF 10 h1, isT 16 h2, isF 20 h9, no 27 h10, isF 31 h10, isT 44 h11, isF 51 h12]
            · exact run (args := [.agg #[.int .i64 k, .int .u8 p, .int .u32 sa, .int .i64 sb, .int .u32 da, .int .i64 db, .int .u32 e, .int .u16 f, .int .u16 t, .int .u32 ia, .int .u16 ip], .agg #[.int .i64 k2, .int .u8 p2, .int .u32 sa2, .int .i64 sb2, .int .u32 da2, .int .i64 db2, .int .u32 e2, .int .u16 f2, .int .u16 t2, .int .u32 ia2, .int .u16 ip2]]) [no 6 h1, isF 10 h1, isT 16 h2, isF 20 h9, no 27 h10, isF 31 h10, isT 44 h11, isT 51 h12]
        · exact run (args := [.agg #[.int .i64 k, .int .u8 p, .int .u32 sa, .int .i64 sb, .int .u32 da, .int .i64 db, .int .u32 e, .int .u16 f, .int .u16 t, .int .u32 ia, .int .u16 ip], .agg #[.int .i64 k2, .int .u8 p2, .int .u32 sa2, .int .i64 sb2, .int .u32 da2, .int .i64 db2, .int .u32 e2, .int .u16 f2, .int .u16 t2, .int .u32 ia2, .int .u16 ip2]]) [no 6 h1, isF 10 h1, isT 16 h2, isF 20 h9, yes 27 h10]
      · exact run (args := [.agg #[.int .i64 k, .int .u8 p, .int .u32 sa, .int .i64 sb, .int .u32 da, .int .i64 db, .int .u32 e, .int .u16 f, .int .u16 t, .int .u32 ia, .int .u16 ip], .agg #[.int .i64 k2, .int .u8 p2, .int .u32 sa2, .int .i64 sb2, .int .u32 da2, .int .i64 db2, .int .u32 e2, .int .u16 f2, .int .u16 t2, .int .u32 ia2, .int .u16 ip2]]) [no 6 h1, isF 10 h1, isT 16 h2, isT 20 h9]
  · cases h13 : (k2 != 3)
    · cases h14 : (p != p2)
      · cases h15 : (k == 3)
        · cases h16 : (e2 == e)
          · exact run (args := [.agg #[.int .i64 k, .int .u8 p, .int .u32 sa, .int .i64 sb, .int .u32 da, .int .i64 db, .int .u32 e, .int .u16 f, .int .u16 t, .int .u32 ia, .int .u16 ip], .agg #[.int .i64 k2, .int .u8 p2, .int .u32 sa2, .int .i64 sb2, .int .u32 da2, .int .i64 db2, .int .u32 e2, .int .u16 f2, .int .u16 t2, .int .u32 ia2, .int .u16 ip2]]) [yes 6 h1, isF 14 h13, isF 20 h14, isF 35 h15, isF 48 h16]
          · cases h17 : (decide (f ≤ f2))
            · exact run (args := [.agg #[.int .i64 k, .int .u8 p, .int .u32 sa, .int .i64 sb, .int .u32 da, .int .i64 db, .int .u32 e, .int .u16 f, .int .u16 t, .int .u32 ia, .int .u16 ip], .agg #[.int .i64 k2, .int .u8 p2, .int .u32 sa2, .int .i64 sb2, .int .u32 da2, .int .i64 db2, .int .u32 e2, .int .u16 f2, .int .u16 t2, .int .u32 ia2, .int .u16 ip2]]) [yes 6 h1, isF 14 h13, isF 20 h14, isF 35 h15, isT 48 h16, isF 55 h17]
            · exact run (args := [.agg #[.int .i64 k, .int .u8 p, .int .u32 sa, .int .i64 sb, .int .u32 da, .int .i64 db, .int .u32 e, .int .u16 f, .int .u16 t, .int .u32 ia, .int .u16 ip], .agg #[.int .i64 k2, .int .u8 p2, .int .u32 sa2, .int .i64 sb2, .int .u32 da2, .int .i64 db2, .int .u32 e2, .int .u16 f2, .int .u16 t2, .int .u32 ia2, .int .u16 ip2]]) [yes 6 h1, isF 14 h13, isF 20 h14, isF 35 h15, isT 48 h16, isT 55 h17]
        · cases h18 : (ia2 == ia && (ip2 == ip && true))
          · cases h19 : (e2 == e)
            · exact run (args := [.agg #[.int .i64 k, .int .u8 p, .int .u32 sa, .int .i64 sb, .int .u32 da, .int .i64 db, .int .u32 e, .int .u16 f, .int .u16 t, .int .u32 ia, .int .u16 ip], .agg #[.int .i64 k2, .int .u8 p2, .int .u32 sa2, .int .i64 sb2, .int .u32 da2, .int .i64 db2, .int .u32 e2, .int .u16 f2, .int .u16 t2, .int .u32 ia2, .int .u16 ip2]]) [yes 6 h1, isF 14 h13, isF 20 h14, isT 35 h15, no 42 h18, isF 48 h19]
            · cases h20 : (decide (f ≤ f2))
              · exact run (args := [.agg #[.int .i64 k, .int .u8 p, .int .u32 sa, .int .i64 sb, .int .u32 da, .int .i64 db, .int .u32 e, .int .u16 f, .int .u16 t, .int .u32 ia, .int .u16 ip], .agg #[.int .i64 k2, .int .u8 p2, .int .u32 sa2, .int .i64 sb2, .int .u32 da2, .int .i64 db2, .int .u32 e2, .int .u16 f2, .int .u16 t2, .int .u32 ia2, .int .u16 ip2]]) [yes 6 h1, isF 14 h13, isF 20 h14, isT 35 h15, no 42 h18, isT 48 h19, isF 55 h20]
              · exact run (args := [.agg #[.int .i64 k, .int .u8 p, .int .u32 sa, .int .i64 sb, .int .u32 da, .int .i64 db, .int .u32 e, .int .u16 f, .int .u16 t, .int .u32 ia, .int .u16 ip], .agg #[.int .i64 k2, .int .u8 p2, .int .u32 sa2, .int .i64 sb2, .int .u32 da2, .int .i64 db2, .int .u32 e2, .int .u16 f2, .int .u16 t2, .int .u32 ia2, .int .u16 ip2]]) [yes 6 h1, isF 14 h13, isF 20 h14, isT 35 h15, no 42 h18, isT 48 h19, isT 55 h20]
          · exact run (args := [.agg #[.int .i64 k, .int .u8 p, .int .u32 sa, .int .i64 sb, .int .u32 da, .int .i64 db, .int .u32 e, .int .u16 f, .int .u16 t, .int .u32 ia, .int .u16 ip], .agg #[.int .i64 k2, .int .u8 p2, .int .u32 sa2, .int .i64 sb2, .int .u32 da2, .int .i64 db2, .int .u32 e2, .int .u16 f2, .int .u16 t2, .int .u32 ia2, .int .u16 ip2]]) [yes 6 h1, isF 14 h13, isF 20 h14, isT 35 h15, yes 42 h18]
      · cases h21 : (p != 0)
        · cases h22 : (k == 3)
          · cases h23 : (e2 == e)
            · exact run (args := [.agg #[.int .i64 k, .int .u8 p, .int .u32 sa, .int .i64 sb, .int .u32 da, .int .i64 db, .int .u32 e, .int .u16 f, .int .u16 t, .int .u32 ia, .int .u16 ip], .agg #[.int .i64 k2, .int .u8 p2, .int .u32 sa2, .int .i64 sb2, .int .u32 da2, .int .i64 db2, .int .u32 e2, .int .u16 f2, .int .u16 t2, .int .u32 ia2, .int .u16 ip2]]) [yes 6 h1, isF 14 h13, isT 20 h14, isF 24 h21, no 31 h22, isF 35 h22, isF 48 h23]
            · cases h24 : (decide (f ≤ f2))
              · exact run (args := [.agg #[.int .i64 k, .int .u8 p, .int .u32 sa, .int .i64 sb, .int .u32 da, .int .i64 db, .int .u32 e, .int .u16 f, .int .u16 t, .int .u32 ia, .int .u16 ip], .agg #[.int .i64 k2, .int .u8 p2, .int .u32 sa2, .int .i64 sb2, .int .u32 da2, .int .i64 db2, .int .u32 e2, .int .u16 f2, .int .u16 t2, .int .u32 ia2, .int .u16 ip2]]) [yes 6 h1, isF 14 h13, isT 20 h14, isF 24 h21, no 31 h22, isF 35 h22, isT 48 h23, isF 55 h24]
              · exact run (args := [.agg #[.int .i64 k, .int .u8 p, .int .u32 sa, .int .i64 sb, .int .u32 da, .int .i64 db, .int .u32 e, .int .u16 f, .int .u16 t, .int .u32 ia, .int .u16 ip], .agg #[.int .i64 k2, .int .u8 p2, .int .u32 sa2, .int .i64 sb2, .int .u32 da2, .int .i64 db2, .int .u32 e2, .int .u16 f2, .int .u16 t2, .int .u32 ia2, .int .u16 ip2]]) [yes 6 h1, isF 14 h13, isT 20 h14, isF 24 h21, no 31 h22, isF 35 h22, isT 48 h23, isT 55 h24]
          · exact run (args := [.agg #[.int .i64 k, .int .u8 p, .int .u32 sa, .int .i64 sb, .int .u32 da, .int .i64 db, .int .u32 e, .int .u16 f, .int .u16 t, .int .u32 ia, .int .u16 ip], .agg #[.int .i64 k2, .int .u8 p2, .int .u32 sa2, .int .i64 sb2, .int .u32 da2, .int .i64 db2, .int .u32 e2, .int .u16 f2, .int .u16 t2, .int .u32 ia2, .int .u16 ip2]]) [yes 6 h1, isF 14 h13, isT 20 h14, isF 24 h21, yes 31 h22]
        · exact run (args := [.agg #[.int .i64 k, .int .u8 p, .int .u32 sa, .int .i64 sb, .int .u32 da, .int .i64 db, .int .u32 e, .int .u16 f, .int .u16 t, .int .u32 ia, .int .u16 ip], .agg #[.int .i64 k2, .int .u8 p2, .int .u32 sa2, .int .i64 sb2, .int .u32 da2, .int .i64 db2, .int .u32 e2, .int .u16 f2, .int .u16 t2, .int .u32 ia2, .int .u16 ip2]]) [yes 6 h1, isF 14 h13, isT 20 h14, isT 24 h21]
    · exact run (args := [.agg #[.int .i64 k, .int .u8 p, .int .u32 sa, .int .i64 sb, .int .u32 da, .int .i64 db, .int .u32 e, .int .u16 f, .int .u16 t, .int .u32 ia, .int .u16 ip], .agg #[.int .i64 k2, .int .u8 p2, .int .u32 sa2, .int .i64 sb2, .int .u32 da2, .int .i64 db2, .int .u32 e2, .int .u16 f2, .int .u16 t2, .int .u32 ia2, .int .u16 ip2]]) [yes 6 h1, isT 14 h13]
def rx_Check_v (o pi pb : Int) (v : Value) (k p sa sb da db e f t ia ip : Int) : Value := (bif (k == 1) then (bif (p == 0) then (bif (ia == 0 && (ip == 0 && true)) then (bif (mayP sa sb) then (bif (mayP da db) then (bif (decide (f > 0)) then (bif (decide (f ≤ t)) then (bif (hasP pi pb e) then (.int .i64 2) else (.int .i64 0)) else (.int .i64 2)) else (.int .i64 2)) else (.int .i64 2)) else (.int .i64 2)) else (.int .i64 2)) else (bif (p == 1) then (bif (ia == 0 && (ip == 0 && true)) then (bif (mayP sa sb) then (bif (mayP da db) then (bif (decide (f > 0)) then (bif (decide (f ≤ t)) then (bif (hasP pi pb e) then (.int .i64 2) else (.int .i64 0)) else (.int .i64 2)) else (.int .i64 2)) else (.int .i64 2)) else (.int .i64 2)) else (.int .i64 2)) else (bif (p == 6) then (bif (ia == 0 && (ip == 0 && true)) then (bif (mayP sa sb) then (bif (mayP da db) then (bif (decide (f > 0)) then (bif (decide (f ≤ t)) then (bif (hasP pi pb e) then (.int .i64 2) else (.int .i64 0)) else (.int .i64 2)) else (.int .i64 2)) else (.int .i64 2)) else (.int .i64 2)) else (.int .i64 2)) else (bif (p == 17) then (bif (ia == 0 && (ip == 0 && true)) then (bif (mayP sa sb) then (bif (mayP da db) then (bif (decide (f > 0)) then (bif (decide (f ≤ t)) then (bif (hasP pi pb e) then (.int .i64 2) else (.int .i64 0)) else (.int .i64 2)) else (.int .i64 2)) else (.int .i64 2)) else (.int .i64 2)) else (.int .i64 2)) else (.int .i64 2))))) else (bif (k == 2) then (bif (p == 0) then (bif (ia == 0 && (ip == 0 && true)) then (bif (mayP sa sb) then (bif (mayP da db) then (bif (decide (f > 0)) then (bif (decide (f ≤ t)) then (bif (e == 0) then (.int .i64 0) else (.int .i64 2)) else (.int .i64 2)) else (.int .i64 2)) else (.int .i64 2)) else (.int .i64 2)) else (.int .i64 2)) else (bif (p == 1) then (bif (ia == 0 && (ip == 0 && true)) then (bif (mayP sa sb) then (bif (mayP da db) then (bif (decide (f > 0)) then (bif (decide (f ≤ t)) then (bif (e == 0) then (.int .i64 0) else (.int .i64 2)) else (.int .i64 2)) else (.int .i64 2)) else (.int .i64 2)) else (.int .i64 2)) else (.int .i64 2)) else (bif (p == 6) then (bif (ia == 0 && (ip == 0 && true)) then (bif (mayP sa sb) then (bif (mayP da db) then (bif (decide (f > 0)) then (bif (decide (f ≤ t)) then (bif (e == 0) then (.int .i64 0) else (.int .i64 2)) else (.int .i64 2)) else (.int .i64 2)) else (.int .i64 2)) else (.int .i64 2)) else (.int .i64 2)) else (bif (p == 17) then (bif (ia == 0 && (ip == 0 && true)) then (bif (mayP sa sb) then (bif (mayP da db) then (bif (decide (f > 0)) then (bif (decide (f ≤ t)) then (bif (e == 0) then (.int .i64 0) else (.int .i64 2)) else (.int .i64 2)) else (.int .i64 2)) else (.int .i64 2)) else (.int .i64 2)) else (.int .i64 2)) else (.int .i64 2))))) else (bif (k == 3) then (bif (sa == 0 && (sb == 0 && true)) then (bif (p == 6) then (bif (da == 0 && (db == 0 && true)) then (bif (hasP pi pb e) then (.int .i64 2) else (bif (decide (f > 0)) then (bif (t == f) then (bif (hasP pi pb ia) then (bif (decide (ip > 0)) then (.int .i64 0) else (.int .i64 2)) else (.int .i64 2)) else (.int .i64 2)) else (.int .i64 2))) else (.int .i64 2)) else (bif (da == 0 && (db == 0 && true)) then (bif (p == 17) then (bif (hasP pi pb e) then (.int .i64 2) else (bif (decide (f > 0)) then (bif (t == f) then (bif (hasP pi pb ia) then (bif (decide (ip > 0)) then (.int .i64 0) else (.int .i64 2)) else (.int .i64 2)) else (.int .i64 2)) else (.int .i64 2))) else (.int .i64 2)) else (.int .i64 2))) else (bif (p == 6) then (.int .i64 2) else (.int .i64 2))) else (.int .i64 2))))
theorem rx_Check {A : Rx.Amb} (o pi pb : Int) (v : Value) (k p sa sb da db e f t ia ip : Int) (hpi : 0 ≤ pi ∧ pi ≤ 4294967295) (hr : (Rule.mk k p sa sb da db e f t ia ip).Ok) (hv : inC 2 v = true) : CallJ Tryz.prog A 93 [.pointer (some ⟨0, 0, some 0⟩), .agg #[.int .i64 k, .int .u8 p, .int .u32 sa, .int .i64 sb, .int .u32 da, .int .i64 db, .int .u32 e, .int .u16 f, .int .u16 t, .int .u32 ia, .int .u16 ip]] [(0, ([.bool true, .int .u32 o, .int .u32 pi, .int .i64 pb, v], 130, false))] 2 (rx_Check_v o pi pb v k p sa sb da db e f t ia ip) [(0, ([.bool true, .int .u32 o, .int .u32 pi, .int .i64 pb, v], 130, false))] 2 := by
  unfold rx_Check_v
  obtain ⟨r1, r2, r3, r4, r5, r6, r7, r8⟩ := hr
  simp only at r1 r2 r3 r4 r5 r6 r7 r8
  have hB : inBlks 2 [(0, ([.bool true, .int .u32 o, .int .u32 pi, .int .i64 pb, v], 130, false))] = true := by
    simp only [inBlks, List.all_cons, List.all_nil, hv]
    rfl
  cases h1 : (k == 1)
  · let z1 : EvL A := [no 21 h1]
    cases h2 : (k == 2)
    · let z2 : EvL A := z1 ++ [no 24 h2]
      cases h3 : (k == 3)
      · exact cB hB 3 (z2 ++ [no 27 h3])
      · let z3 : EvL A := z2 ++ [yes 27 h3]
        cases h4 : (sa == 0 && (sb == 0 && true))
        · cases h5 : (p == 6)
          · exact cB hB 4 (z3 ++ [isF 36 h4, isF 46 h5])
          · exact cB hB 4 (z3 ++ [isF 36 h4, isT 46 h5])
        · let z4 : EvL A := z3 ++ [isT 36 h4]
          cases h6 : (p == 6)
          · cases h7 : (da == 0 && (db == 0 && true))
            · exact cB hB 4 (z4 ++ [isF 46 h6, isF 53 h7])
            · let z5 : EvL A := z4 ++ [isF 46 h6, isT 53 h7]
              cases h8 : (p == 17)
              · exact cB hB 4 (z5 ++ [isF 56 h8])
              · let z6 : EvL A := z5 ++ [isT 56 h8, hE 81 pi pb e (by omega) (by omega)]
                cases h9 : (hasP pi pb e)
                · cases h10 : (decide (f > 0))
                  · exact cB hB 4 (z6 ++ [nisT 87 h9, isF 92 h10])
                  · cases h11 : (t == f)
                    · exact cB hB 4 (z6 ++ [nisT 87 h9, isT 92 h10, isF 99 h11])
                    · let z7 : EvL A := z6 ++ [nisT 87 h9, isT 92 h10, isT 99 h11, hE 125 pi pb ia (by omega) (by omega)]
                      cases h12 : (hasP pi pb ia)
                      · exact cB hB 4 (z7 ++ [isF 130 h12])
                      · cases h13 : (decide (ip > 0))
                        · exact cB hB 4 (z7 ++ [isT 130 h12, nyes 141 h13])
                        · exact cB hB 4 (z7 ++ [isT 130 h12, nno 141 h13])
                · exact cB hB 4 (z6 ++ [nisF 87 h9])
          · cases h14 : (da == 0 && (db == 0 && true))
            · exact cB hB 4 (z4 ++ [isT 46 h6, isF 53 h14])
            · let z8 : EvL A := z4 ++ [isT 46 h6, isT 53 h14, hE 81 pi pb e (by omega) (by omega)]
              cases h15 : (hasP pi pb e)
              · cases h16 : (decide (f > 0))
                · exact cB hB 4 (z8 ++ [nisT 87 h15, isF 92 h16])
                · cases h17 : (t == f)
                  · exact cB hB 4 (z8 ++ [nisT 87 h15, isT 92 h16, isF 99 h17])
                  · let z9 : EvL A := z8 ++ [nisT 87 h15, isT 92 h16, isT 99 h17, hE 125 pi pb ia (by omega) (by omega)]
                    cases h18 : (hasP pi pb ia)
                    · exact cB hB 4 (z9 ++ [isF 130 h18])
                    · cases h19 : (decide (ip > 0))
                      · exact cB hB 4 (z9 ++ [isT 130 h18, nyes 141 h19])
                      · exact cB hB 4 (z9 ++ [isT 130 h18, nno 141 h19])
              · exact cB hB 4 (z8 ++ [nisF 87 h15])
    · let z10 : EvL A := z1 ++ [yes 24 h2]
      cases h20 : (p == 0)
      · let z11 : EvL A := z10 ++ [no 49 h20]
        cases h21 : (p == 1)
        · let z12 : EvL A := z11 ++ [no 62 h21]
          cases h22 : (p == 6)
          · cases h23 : (p == 17)
            · exact cB hB 5 (z12 ++ [no 75 h22, no 88 h23])
            · let z13 : EvL A := z12 ++ [no 75 h22, yes 88 h23]
              cases h24 : (ia == 0 && (ip == 0 && true))
              · exact cB hB 5 (z13 ++ [nyes 102 h24])
              · let z14 : EvL A := z13 ++ [nno 102 h24, mE 105 sa sb (by omega)]
                cases h25 : (mayP sa sb)
                · exact cB hB 5 (z14 ++ [isF 106 h25])
                · let z15 : EvL A := z14 ++ [isT 106 h25, mE 109 da db (by omega)]
                  cases h26 : (mayP da db)
                  · exact cB hB 5 (z15 ++ [isF 111 h26])
                  · cases h27 : (decide (f > 0))
                    · exact cB hB 5 (z15 ++ [isT 111 h26, isF 116 h27])
                    · cases h28 : (decide (f ≤ t))
                      · exact cB hB 5 (z15 ++ [isT 111 h26, isT 116 h27, isF 125 h28])
                      · cases h29 : (e == 0)
                        · exact cB hB 5 (z15 ++ [isT 111 h26, isT 116 h27, isT 125 h28, nyes 133 h29])
                        · exact cB hB 5 (z15 ++ [isT 111 h26, isT 116 h27, isT 125 h28, nno 133 h29])
          · cases h30 : (ia == 0 && (ip == 0 && true))
            · exact cB hB 5 (z12 ++ [yes 75 h22, nyes 89 h30])
            · let z16 : EvL A := z12 ++ [yes 75 h22, nno 89 h30, mE 92 sa sb (by omega)]
              cases h31 : (mayP sa sb)
              · exact cB hB 5 (z16 ++ [isF 93 h31])
              · let z17 : EvL A := z16 ++ [isT 93 h31, mE 96 da db (by omega)]
                cases h32 : (mayP da db)
                · exact cB hB 5 (z17 ++ [isF 98 h32])
                · cases h33 : (decide (f > 0))
                  · exact cB hB 5 (z17 ++ [isT 98 h32, isF 103 h33])
                  · cases h34 : (decide (f ≤ t))
                    · exact cB hB 5 (z17 ++ [isT 98 h32, isT 103 h33, isF 112 h34])
                    · cases h35 : (e == 0)
                      · exact cB hB 5 (z17 ++ [isT 98 h32, isT 103 h33, isT 112 h34, nyes 120 h35])
                      · exact cB hB 5 (z17 ++ [isT 98 h32, isT 103 h33, isT 112 h34, nno 120 h35])
        · cases h36 : (ia == 0 && (ip == 0 && true))
          · exact cB hB 5 (z11 ++ [yes 62 h21, nyes 76 h36])
          · let z18 : EvL A := z11 ++ [yes 62 h21, nno 76 h36, mE 79 sa sb (by omega)]
            cases h37 : (mayP sa sb)
            · exact cB hB 5 (z18 ++ [isF 80 h37])
            · let z19 : EvL A := z18 ++ [isT 80 h37, mE 83 da db (by omega)]
              cases h38 : (mayP da db)
              · exact cB hB 5 (z19 ++ [isF 85 h38])
              · cases h39 : (decide (f > 0))
                · exact cB hB 5 (z19 ++ [isT 85 h38, isF 90 h39])
                · cases h40 : (decide (f ≤ t))
                  · exact cB hB 5 (z19 ++ [isT 85 h38, isT 90 h39, isF 99 h40])
                  · cases h41 : (e == 0)
                    · exact cB hB 5 (z19 ++ [isT 85 h38, isT 90 h39, isT 99 h40, nyes 107 h41])
                    · exact cB hB 5 (z19 ++ [isT 85 h38, isT 90 h39, isT 99 h40, nno 107 h41])
      · cases h42 : (ia == 0 && (ip == 0 && true))
        · exact cB hB 5 (z10 ++ [yes 49 h20, nyes 63 h42])
        · let z20 : EvL A := z10 ++ [yes 49 h20, nno 63 h42, mE 66 sa sb (by omega)]
          cases h43 : (mayP sa sb)
          · exact cB hB 5 (z20 ++ [isF 67 h43])
          · let z21 : EvL A := z20 ++ [isT 67 h43, mE 70 da db (by omega)]
            cases h44 : (mayP da db)
            · exact cB hB 5 (z21 ++ [isF 72 h44])
            · cases h45 : (decide (f > 0))
              · exact cB hB 5 (z21 ++ [isT 72 h44, isF 77 h45])
              · cases h46 : (decide (f ≤ t))
                · exact cB hB 5 (z21 ++ [isT 72 h44, isT 77 h45, isF 86 h46])
                · cases h47 : (e == 0)
                  · exact cB hB 5 (z21 ++ [isT 72 h44, isT 77 h45, isT 86 h46, nyes 94 h47])
                  · exact cB hB 5 (z21 ++ [isT 72 h44, isT 77 h45, isT 86 h46, nno 94 h47])
  · let z22 : EvL A := [yes 21 h1]
    cases h48 : (p == 0)
    · let z23 : EvL A := z22 ++ [no 46 h48]
      cases h49 : (p == 1)
      · let z24 : EvL A := z23 ++ [no 59 h49]
        cases h50 : (p == 6)
        · cases h51 : (p == 17)
          · exact cB hB 5 (z24 ++ [no 72 h50, no 85 h51])
          · let z25 : EvL A := z24 ++ [no 72 h50, yes 85 h51]
            cases h52 : (ia == 0 && (ip == 0 && true))
            · exact cB hB 5 (z25 ++ [nyes 99 h52])
            · let z26 : EvL A := z25 ++ [nno 99 h52, mE 102 sa sb (by omega)]
              cases h53 : (mayP sa sb)
              · exact cB hB 5 (z26 ++ [isF 103 h53])
              · let z27 : EvL A := z26 ++ [isT 103 h53, mE 106 da db (by omega)]
                cases h54 : (mayP da db)
                · exact cB hB 5 (z27 ++ [isF 108 h54])
                · cases h55 : (decide (f > 0))
                  · exact cB hB 5 (z27 ++ [isT 108 h54, isF 113 h55])
                  · cases h56 : (decide (f ≤ t))
                    · exact cB hB 5 (z27 ++ [isT 108 h54, isT 113 h55, isF 122 h56])
                    · cases h57 : (hasP pi pb e)
                      · exact cB hB 5 (z27 ++ [isT 108 h54, isT 113 h55, isT 122 h56, hE 147 pi pb e (by omega) (by omega), no 156 (b := !(!(hasP pi pb e))) (by rw [h57]; rfl)])
                      · exact cB hB 5 (z27 ++ [isT 108 h54, isT 113 h55, isT 122 h56, hE 147 pi pb e (by omega) (by omega), yes 156 (b := !(!(hasP pi pb e))) (by rw [h57]; rfl)])
        · cases h58 : (ia == 0 && (ip == 0 && true))
          · exact cB hB 5 (z24 ++ [yes 72 h50, nyes 86 h58])
          · let z28 : EvL A := z24 ++ [yes 72 h50, nno 86 h58, mE 89 sa sb (by omega)]
            cases h59 : (mayP sa sb)
            · exact cB hB 5 (z28 ++ [isF 90 h59])
            · let z29 : EvL A := z28 ++ [isT 90 h59, mE 93 da db (by omega)]
              cases h60 : (mayP da db)
              · exact cB hB 5 (z29 ++ [isF 95 h60])
              · cases h61 : (decide (f > 0))
                · exact cB hB 5 (z29 ++ [isT 95 h60, isF 100 h61])
                · cases h62 : (decide (f ≤ t))
                  · exact cB hB 5 (z29 ++ [isT 95 h60, isT 100 h61, isF 109 h62])
                  · cases h63 : (hasP pi pb e)
                    · exact cB hB 5 (z29 ++ [isT 95 h60, isT 100 h61, isT 109 h62, hE 134 pi pb e (by omega) (by omega), no 143 (b := !(!(hasP pi pb e))) (by rw [h63]; rfl)])
                    · exact cB hB 5 (z29 ++ [isT 95 h60, isT 100 h61, isT 109 h62, hE 134 pi pb e (by omega) (by omega), yes 143 (b := !(!(hasP pi pb e))) (by rw [h63]; rfl)])
      · cases h64 : (ia == 0 && (ip == 0 && true))
        · exact cB hB 5 (z23 ++ [yes 59 h49, nyes 73 h64])
        · let z30 : EvL A := z23 ++ [yes 59 h49, nno 73 h64, mE 76 sa sb (by omega)]
          cases h65 : (mayP sa sb)
          · exact cB hB 5 (z30 ++ [isF 77 h65])
          · let z31 : EvL A := z30 ++ [isT 77 h65, mE 80 da db (by omega)]
            cases h66 : (mayP da db)
            · exact cB hB 5 (z31 ++ [isF 82 h66])
            · cases h67 : (decide (f > 0))
              · exact cB hB 5 (z31 ++ [isT 82 h66, isF 87 h67])
              · cases h68 : (decide (f ≤ t))
                · exact cB hB 5 (z31 ++ [isT 82 h66, isT 87 h67, isF 96 h68])
                · cases h69 : (hasP pi pb e)
                  · exact cB hB 5 (z31 ++ [isT 82 h66, isT 87 h67, isT 96 h68, hE 121 pi pb e (by omega) (by omega), no 130 (b := !(!(hasP pi pb e))) (by rw [h69]; rfl)])
                  · exact cB hB 5 (z31 ++ [isT 82 h66, isT 87 h67, isT 96 h68, hE 121 pi pb e (by omega) (by omega), yes 130 (b := !(!(hasP pi pb e))) (by rw [h69]; rfl)])
    · cases h70 : (ia == 0 && (ip == 0 && true))
      · exact cB hB 5 (z22 ++ [yes 46 h48, nyes 60 h70])
      · let z32 : EvL A := z22 ++ [yes 46 h48, nno 60 h70, mE 63 sa sb (by omega)]
        cases h71 : (mayP sa sb)
        · exact cB hB 5 (z32 ++ [isF 64 h71])
        · let z33 : EvL A := z32 ++ [isT 64 h71, mE 67 da db (by omega)]
          cases h72 : (mayP da db)
          · exact cB hB 5 (z33 ++ [isF 69 h72])
          · cases h73 : (decide (f > 0))
            · exact cB hB 5 (z33 ++ [isT 69 h72, isF 74 h73])
            · cases h74 : (decide (f ≤ t))
              · exact cB hB 5 (z33 ++ [isT 69 h72, isT 74 h73, isF 83 h74])
              · cases h75 : (hasP pi pb e)
                · exact cB hB 5 (z33 ++ [isT 69 h72, isT 74 h73, isT 83 h74, hE 108 pi pb e (by omega) (by omega), no 117 (b := !(!(hasP pi pb e))) (by rw [h75]; rfl)])
                · exact cB hB 5 (z33 ++ [isT 69 h72, isT 74 h73, isT 83 h74, hE 108 pi pb e (by omega) (by omega), yes 117 (b := !(!(hasP pi pb e))) (by rw [h75]; rfl)])
end Go.Proofs.YtilfcikhipadpaaGreatDoor
end

section
/- rules: what clash and Check tell (plain). -/
set_option linter.unusedVariables false
set_option linter.unusedSimpArgs false
namespace Go.Proofs.YtilfcikhipadpaaGreatDoor
open Go.RowKit Go.Lib Rx
def whoR (o : Int) (r : Rule) : Rule := if r.k = 2 then { r with e := o } else r
def clq0 (a b : Rule) : Bool := (decide (a.k = 3) && !(decide (b.p ≠ a.p) && (decide (b.p ≠ 0) || decide (b.k = 3)))) && ((decide (b.k = 3) && (decide (a.ia = b.ia) && decide (a.ip = b.ip))) || (decide (a.e = b.e) && decide (b.f ≤ a.f) && decide (a.f ≤ b.t)))
def clq (a b : Rule) : Bool := if a.k = 3 then clq0 a b else clq0 b a
def chq (ip b : Int) (r : Rule) : Int := if mayR ip b r = true then 0 else 2
theorem bool_ite (c a b : Bool) : (bif c then Value.bool a else Value.bool b) = Value.bool (bif c then a else b) := by cases c <;> rfl
theorem int_ite (c : Bool) (k : IntKind) (a b : Int) : (bif c then Value.int k a else Value.int k b) = Value.int k (bif c then a else b) := by cases c <;> rfl
set_option maxHeartbeats 4000000 in
theorem clash_val (a b : Rule) : rx_clash_v a.k a.p a.sa a.sb a.da a.db a.e a.f a.t a.ia a.ip b.k b.p b.sa b.sb b.da b.db b.e b.f b.t b.ia b.ip = .bool (clq a b) := by
  unfold rx_clash_v clq clq0
  simp only [bool_ite, Value.bool.injEq, Bool.cond_eq_ite, bne_iff_ne, beq_iff_eq, Bool.and_true, decide_eq_true_eq, Bool.and_eq_true]
  grind
set_option maxHeartbeats 4000000 in
theorem check_val (o pi pb : Int) (v : Value) (r : Rule) : rx_Check_v o pi pb v r.k r.p r.sa r.sb r.da r.db r.e r.f r.t r.ia r.ip = .int .i64 (chq pi pb r) := by
  unfold rx_Check_v chq mayR srOk stOk
  simp only [int_ite, Value.int.injEq, true_and, Bool.cond_eq_ite, bne_iff_ne, beq_iff_eq, Bool.and_true, decide_eq_true_eq, Bool.and_eq_true]
  grind
end Go.Proofs.YtilfcikhipadpaaGreatDoor
end
