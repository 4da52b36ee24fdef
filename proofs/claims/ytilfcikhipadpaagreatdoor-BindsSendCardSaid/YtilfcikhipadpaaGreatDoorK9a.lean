/- Several texts of this claim, one behind the other. -/
import Derived.Test.YtilfcikhipadpaaGreatDoorK8a
import Derived.OpenShut
import Derived.Test.YtilfcikhipadpaaGreatDoorProg
import Derived.BigQuiet
import Derived.Deep.QuietTactic
import Derived.Deep.RegionHeld3
import Derived.Laws.BitsAllLaws
import Derived.Deep.DeepCutAuto
import Derived.Deep.CutBlock

section
/- Slices as arguments: their addresses. No program. -/
set_option linter.unusedVariables false
set_option linter.unusedSimpArgs false
namespace Go.Proofs.YtilfcikhipadpaaGreatDoor
open Go.RowKit Go.Lib Go.ChangeShapes Go.WideShapes Rx

/-- an address that came in -/
def RealA (X : Option Addr) : Prop := X = none ∨ ∃ b o, X = some ⟨b, o, none⟩
theorem RealA.real {X : Option Addr} (h : RealA X) (n c : Nat) : real (.slice X n c) = true := by
  rcases h with rfl | ⟨b, o, rfl⟩ <;> rfl
theorem real_slice {P : Program} {w : World} {base : Nat} {t e : TypeId} {X : Option Addr} {n c : Nat} (ht : P.underlying t = some (.slice e)) (h : Value.okWide P w .any base t (.slice X n c)) : RealA X := by
  simp only [Value.okWide, ht, Cell.okWide] at h
  cases X with
  | none => exact .inl rfl
  | some a =>
    simp only [Cell.ok, ht] at h
    obtain ⟨b, o, s⟩ := a
    have hs : s = none := h.2.2.2.1
    subst hs
    exact .inr ⟨b, o, rfl⟩
theorem real_cell {P : Program} {w : World} {base : Nat} {t u e : TypeId} {fs : Array Field} {cs : Array Value} {i : Nat} (hu : P.underlying t = some (.struct fs)) (h : Value.okWide P w .any base t (.agg cs)) (hi : (P.cellTypes P.depth t).bind (fun ts => ts[i]?) = some u) (he : P.underlying u = some (.slice e)) (hc : i < cs.size) :
    ∃ X n c, cs.toList[i]? = some (.slice X n c) ∧ RealA X := by
  simp only [Value.okWide, hu] at h
  obtain ⟨cs', hcs, _, ts, h1, _, h3⟩ := h
  simp only [Value.agg.injEq] at hcs
  subst hcs
  rw [h1] at hi
  simp only [Option.bind_some] at hi
  have hlt : i < ts.length := (List.getElem?_eq_some_iff.1 hi).1
  obtain ⟨v, hv⟩ : ∃ v, cs[i]? = some v := ⟨_, Array.getElem?_eq_getElem hc⟩
  obtain ⟨u', hu', hk⟩ := h3 i v hv
  rw [Nat.mod_eq_of_lt hlt, hi] at hu'
  simp only [Option.some.injEq] at hu'
  subst hu'
  simp only [Cell.okWide, he] at hk
  cases v <;> simp only [Cell.ok, he] at hk <;> try exact hk.elim
  case slice X n c =>
    refine ⟨X, n, c, by rw [Array.getElem?_toList]; exact hv, ?_⟩
    cases X with
    | none => exact .inl rfl
    | some a =>
      obtain ⟨b, o, s⟩ := a
      have hs : s = none := hk.2.2.2.1
      subst hs
      exact .inr ⟨b, o, rfl⟩
end Go.Proofs.YtilfcikhipadpaaGreatDoor
end

section
/- Holds of an entry, as arguments. -/
set_option linter.unusedVariables false
set_option linter.unusedSimpArgs false
namespace Go.Proofs.YtilfcikhipadpaaGreatDoor
open Go.RowKit Go.Lib Go.ChangeShapes Go.WideShapes Go.Deep
structure Hol where
  oi : Int
  op : Int
  ii : Int
  ip : Int
def hoL (x : Hol) : List Value := [.int .u32 x.oi, .int .u16 x.op, .int .u32 x.ii, .int .u16 x.ip]
def Hol.cells (x : Hol) : Array Value := #[.int .u32 x.oi, .int .u16 x.op, .int .u32 x.ii, .int .u16 x.ip]
structure Hol.Ok (x : Hol) : Prop where
  oi : 0 ≤ x.oi ∧ x.oi ≤ 4294967295
  op : 0 ≤ x.op ∧ x.op ≤ 65535
  ii : 0 ≤ x.ii ∧ x.ii ≤ 4294967295
  ip : 0 ≤ x.ip ∧ x.ip ≤ 65535
def holdK : RowK Hol where
  k := 4
  T := 147
  S := 75
  bytes := 16
  z := .agg #[.int .u32 0, .int .u16 0, .int .u32 0, .int .u16 0]
  cells := Hol.cells
  size := fun _ => rfl
  one := fun a v hv => by
    simp only [Hol.cells, List.mem_cons, List.not_mem_nil, or_false] at hv
    rcases hv with h | h | h | h <;> (subst h; rfl)
  pos := by decide
  tS := by kernel_rfl
  info := by kernel_rfl
  zs := rfl
  few := by decide
theorem hold_reads : holdK.Reads Hol.Ok := by
  intro H enc W base spare held n cs x ht
  obtain ⟨x0, q0, w0⟩ := leaf_int (leafAt_of (n := 8) (i := 0) (u := 28) (by kernel_rfl) ht) Tryz.underlying28
  obtain ⟨x1, q1, w1⟩ := leaf_int (leafAt_of (n := 8) (i := 1) (u := 29) (by kernel_rfl) ht) Tryz.underlying29
  obtain ⟨x2, q2, w2⟩ := leaf_int (leafAt_of (n := 8) (i := 2) (u := 28) (by kernel_rfl) ht) Tryz.underlying28
  obtain ⟨x3, q3, w3⟩ := leaf_int (leafAt_of (n := 8) (i := 3) (u := 29) (by kernel_rfl) ht) Tryz.underlying29
  refine ⟨⟨x0, x1, x2, x3⟩, ⟨bounds_u32 w0, bounds_u16 w1, bounds_u32 w2, bounds_u16 w3⟩, fun j u hu => ?_⟩
  have hj : j < 4 := by
    have := (List.getElem?_eq_some_iff.1 hu).1
    simpa [holdK, Hol.cells] using this
  match j, hj with
  | 0, _ => rw [q0]; exact hu
  | 1, _ => rw [q1]; exact hu
  | 2, _ => rw [q2]; exact hu
  | 3, _ => rw [q3]; exact hu
theorem open_holds {H : Type} {enc : TypeId × Value → H} {W : World} {base : Nat} {spare : Nat → Bool} {held : Bool} {fuel : Nat} {v : Value} {x : DataW H × List MemPlace}
    (h : DataW.trod enc Tryz.prog W base spare held fuel 75 [v] = some x) : ∃ A n c l, v = .slice A n c ∧ n = l.length ∧ n ≤ c ∧ holdK.Has W A l ∧ holdK.Read W (.slice A n c) l ∧ (∀ d ∈ l, d.Ok) ∧ n ≤ 9223372036854775807 :=
  RowK.opened holdK Hol.Ok (by kernel_rfl) hold_reads h
end Go.Proofs.YtilfcikhipadpaaGreatDoor
end

section
/- addrs: mask, May, Has; the document's size, May, Has (porterref03). -/
set_option linter.unusedVariables false
set_option linter.unusedSimpArgs false
namespace Go.Proofs.YtilfcikhipadpaaGreatDoor
open Go.RowKit
attribute [local go_sem] Oper.semAt_some

/-- how many addresses have the same first bits -/
def szN (b : Int) : Nat := 2 ^ (32 - b).toNat
def maskOf (b : Int) : Int := ((4294967296 - szN b : Nat) : Int) % 4294967296
/-- may a prefix be -/
def mayP (ip b : Int) : Bool := decide (0 ≤ b) && (decide (b ≤ 32) && decide (ip.toNat % szN b = 0))
/-- has it an address -/
def hasP (ip b a : Int) : Bool := mayP ip b && decide (a.toNat / szN b = ip.toNat / szN b)
theorem bits33 {b : Int} (h0 : 0 ≤ b) (h1 : b ≤ 32) : b = 0 ∨ b = 1 ∨ b = 2 ∨ b = 3 ∨ b = 4 ∨ b = 5 ∨ b = 6 ∨ b = 7 ∨ b = 8 ∨ b = 9 ∨ b = 10 ∨ b = 11 ∨ b = 12 ∨ b = 13 ∨ b = 14 ∨ b = 15 ∨ b = 16 ∨ b = 17 ∨ b = 18 ∨ b = 19 ∨ b = 20 ∨ b = 21 ∨ b = 22 ∨ b = 23 ∨ b = 24 ∨ b = 25 ∨ b = 26 ∨ b = 27 ∨ b = 28 ∨ b = 29 ∨ b = 30 ∨ b = 31 ∨ b = 32 := by omega
theorem szN_bd {b : Int} (h0 : 0 ≤ b) (h1 : b ≤ 32) : 1 ≤ szN b ∧ szN b ≤ 4294967296 := by
  unfold szN
  exact ⟨Nat.one_le_two_pow, Nat.le_trans (Nat.pow_le_pow_right (by omega) (show (32 - b).toNat ≤ 32 by omega)) (by decide)⟩
theorem mask_bd {b : Int} : 0 ≤ maskOf b ∧ maskOf b < 4294967296 := by unfold maskOf; omega

set_option maxHeartbeats 4000000 in
theorem addrs_mask (b : Int) (w : World) (h0 : 0 ≤ b) (h1 : b ≤ 32) :
    Calls Tryz.prog 104 #[.int .i64 b] w (fun e w' => e = .returned (.int .u32 (maskOf b)) ∧ w' = w) := by
  rcases bits33 h0 h1 with h | h | h | h | h | h | h | h | h | h | h | h | h | h | h | h | h | h | h | h | h | h | h | h | h | h | h | h | h | h | h | h | h
  all_goals
    subst h
    clear h0 h1
    go_enter Tryz.func104, Tryz.ntmps104
    go_wp2_with fail
    go_ret
    exact ⟨by kernel_rfl, rfl⟩
theorem andNot_mask {ip b : Int} (hi : 0 ≤ ip ∧ ip ≤ 4294967295) (h0 : 0 ≤ b) (h1 : b ≤ 32) : (bits .andNot .u32 ip (maskOf b) = 0) ↔ ip.toNat % szN b = 0 := by
  have hm := mask_bd (b := b)
  rw [u32_andNot ip (maskOf b) (by omega) (by omega) (by omega) (by omega)]
  have hk : 4294967295 - (maskOf b).toNat = 2 ^ (32 - b).toNat - 1 := by
    rcases bits33 h0 h1 with h | h | h | h | h | h | h | h | h | h | h | h | h | h | h | h | h | h | h | h | h | h | h | h | h | h | h | h | h | h | h | h | h
    all_goals (subst h; decide)
  rw [hk, Nat.and_two_pow_sub_one_eq_mod]
  unfold szN
  omega
theorem and_mask {a ip b : Int} (ha : 0 ≤ a ∧ a ≤ 4294967295) (hi : 0 ≤ ip ∧ ip ≤ 4294967295) (h0 : 0 ≤ b) (h1 : b ≤ 32) : (bits .and .u32 (bits .xor .u32 a ip) (maskOf b) = 0) ↔ a.toNat / szN b = ip.toNat / szN b := by
  have hm := mask_bd (b := b)
  have hx : (a.toNat ^^^ ip.toNat) < 2 ^ 32 := Nat.xor_lt_two_pow (by omega) (by omega)
  rw [u32_xor a ip (by omega) (by omega) (by omega) (by omega), u32_and _ _ (by omega) (by omega) (by omega) (by omega)]
  rw [Int.toNat_natCast]
  have key : ∀ x y k : Nat, x < 2 ^ 32 → y < 2 ^ 32 → k ≤ 32 → (((x ^^^ y) / 2 ^ k = 0) ↔ x / 2 ^ k = y / 2 ^ k) := by
    intro x y k _ _ _
    rw [← Nat.shiftRight_eq_div_pow, ← Nat.shiftRight_eq_div_pow, ← Nat.shiftRight_eq_div_pow, Nat.shiftRight_xor_distrib]
    constructor
    · intro h
      have := congrArg (· ^^^ (y >>> k)) h
      simpa [Nat.xor_assoc] using this
    · intro h
      rw [h, Nat.xor_self]
  have hmask : (maskOf b).toNat = (2 ^ 32 - 2 ^ (32 - b).toNat) % 2 ^ 32 := by
    rcases bits33 h0 h1 with h | h | h | h | h | h | h | h | h | h | h | h | h | h | h | h | h | h | h | h | h | h | h | h | h | h | h | h | h | h | h | h | h
    all_goals (subst h; decide)
  rw [hmask]
  unfold szN
  rw [← key a.toNat ip.toNat (32 - b).toNat (by omega) (by omega) (by omega)]
  have hand : ∀ x k : Nat, x < 2 ^ 32 → k ≤ 32 → (x &&& ((2 ^ 32 - 2 ^ k) % 2 ^ 32)) = x / 2 ^ k * 2 ^ k := by
    intro x k hx hk
    rw [Nat.mod_eq_of_lt (by have := Nat.two_pow_pos k; omega), nat_midmask 32 k x hk, Nat.mod_eq_of_lt hx]
  rw [hand _ _ hx (by omega)]
  have := Nat.two_pow_pos (32 - b).toNat
  constructor
  · intro h
    have h2 : (a.toNat ^^^ ip.toNat) / 2 ^ (32 - b).toNat * 2 ^ (32 - b).toNat = 0 := by omega
    rcases Nat.mul_eq_zero.1 h2 with h3 | h3
    · exact h3
    · omega
  · intro h
    rw [h, Nat.zero_mul]; rfl

set_option maxHeartbeats 4000000 in
theorem addrs_May (ip b : Int) (w : World) (hi : 0 ≤ ip ∧ ip ≤ 4294967295) :
    Calls Tryz.prog 90 #[.agg #[.int .u32 ip, .int .i64 b]] w (Ret (.bool (mayP ip b)) w) := by
  have hv : (b < 0 ∧ mayP ip b = false) ∨ (¬ b < 0 ∧ 32 < b ∧ mayP ip b = false) ∨ (0 ≤ b ∧ b ≤ 32 ∧ mayP ip b = decide (bits .andNot .u32 ip (maskOf b) = 0)) := by
    unfold mayP
    by_cases h0 : 0 ≤ b
    · by_cases h1 : b ≤ 32
      · exact Or.inr (Or.inr ⟨h0, h1, by rw [decide_eq_true h0, decide_eq_true h1]; simp only [Bool.true_and]; exact decide_eq_decide.2 (andNot_mask hi h0 h1).symm⟩)
      · exact Or.inr (Or.inl ⟨by omega, by omega, by simp; omega⟩)
    · exact Or.inl ⟨by omega, by simp; omega⟩
  clear hi
  rcases hv with ⟨h, e⟩ | ⟨h0, h1, e⟩ | ⟨h0, h1, e⟩
  · rw [e]
    clear e
    have q1 : decide (0 ≤ b) = false := decide_eq_false (by omega)
    go_enter Tryz.func90, Tryz.ntmps90
    have d0 := Cells.new w #[.int .u32 ip, .int .i64 b] 66
    have xd0_0 : ((w.alloc (.cells #[.int .u32 ip, .int .i64 b] 66))).cell? ⟨w.heap.size, 0, none⟩ = some (.int .u32 ip) := d0.at_ 0
    have xd0_1 : ((w.alloc (.cells #[.int .u32 ip, .int .i64 b] 66))).cell? ⟨w.heap.size, 1, none⟩ = some (.int .i64 b) := d0.at_ 1
    have l0 := fresh_below w (.cells #[.int .u32 ip, .int .i64 b] 66)
    have L0 := hide l0
    clear l0 d0
    go_wp2_with fail
    generalize (w.alloc (.cells #[.int .u32 ip, .int .i64 b] 66)) = w0 at *
    go_quiet (fail)
    go_wp2_with fail
    go_ret
    exact ⟨rfl, below_drewN L0.out _⟩
  · rw [e]
    clear e
    have q1 : decide (0 ≤ b) = true := decide_eq_true (by omega)
    have q2 : decide (b ≤ 32) = false := decide_eq_false (by omega)
    go_enter Tryz.func90, Tryz.ntmps90
    have d0 := Cells.new w #[.int .u32 ip, .int .i64 b] 66
    have xd0_0 : ((w.alloc (.cells #[.int .u32 ip, .int .i64 b] 66))).cell? ⟨w.heap.size, 0, none⟩ = some (.int .u32 ip) := d0.at_ 0
    have xd0_1 : ((w.alloc (.cells #[.int .u32 ip, .int .i64 b] 66))).cell? ⟨w.heap.size, 1, none⟩ = some (.int .i64 b) := d0.at_ 1
    have l0 := fresh_below w (.cells #[.int .u32 ip, .int .i64 b] 66)
    have L0 := hide l0
    clear l0 d0
    go_wp2_with fail
    generalize (w.alloc (.cells #[.int .u32 ip, .int .i64 b] 66)) = w0 at *
    go_quiet (fail)
    go_wp2_with fail
    go_ret
    exact ⟨rfl, below_drewN L0.out _⟩
  · rw [e]
    clear e
    have c1 := fun W => addrs_mask b W h0 h1
    have C1 := hide c1
    clear c1
    generalize maskOf b = m at *
    go_enter Tryz.func90, Tryz.ntmps90
    have d0 := Cells.new w #[.int .u32 ip, .int .i64 b] 66
    have xd0_0 : ((w.alloc (.cells #[.int .u32 ip, .int .i64 b] 66))).cell? ⟨w.heap.size, 0, none⟩ = some (.int .u32 ip) := d0.at_ 0
    have xd0_1 : ((w.alloc (.cells #[.int .u32 ip, .int .i64 b] 66))).cell? ⟨w.heap.size, 1, none⟩ = some (.int .i64 b) := d0.at_ 1
    have l0 := fresh_below w (.cells #[.int .u32 ip, .int .i64 b] 66)
    have L0 := hide l0
    clear l0 d0
    go_wp2_with fail
    generalize (w.alloc (.cells #[.int .u32 ip, .int .i64 b] 66)) = w0 at *
    go_quiet ((go_at_call 104; refine Calls.quiet_of_same (C1.out _)))
    go_wp2_with fail
    go_ret
    exact ⟨by first | rfl | (simp), below_drewN L0.out _⟩

theorem addrs_mask_ret (b : Int) (w : World) (h0 : 0 ≤ b) (h1 : b ≤ 32) : Calls Tryz.prog 104 #[.int .i64 b] w (Ret (.int .u32 (maskOf b)) w) :=
  (addrs_mask b w h0 h1).mono fun e w' h => ⟨h.1, by rw [h.2]; exact Below.refl _ _⟩
set_option maxHeartbeats 4000000 in
theorem addrs_Has (ip b a : Int) (w : World) (hi : 0 ≤ ip ∧ ip ≤ 4294967295) (ha : 0 ≤ a ∧ a ≤ 4294967295) :
    Calls Tryz.prog 59 #[.agg #[.int .u32 ip, .int .i64 b], .int .u32 a] w (Ret (.bool (hasP ip b a)) w) := by
  have c1 := fun W => addrs_May ip b W hi
  by_cases hm : mayP ip b = true
  · have hb : 0 ≤ b ∧ b ≤ 32 := by unfold mayP at hm; simp at hm; omega
    have hv : hasP ip b a = decide (bits .and .u32 (bits .xor .u32 a ip) (maskOf b) = 0) := by
      unfold hasP
      rw [hm]; simp only [Bool.true_and]; exact decide_eq_decide.2 (and_mask ha hi hb.1 hb.2).symm
    have c2 := fun W => addrs_mask_ret b W hb.1 hb.2
    have C2 := hide c2
    rw [hv]
    rw [hm] at c1
    clear hv hm c2 hb hi ha
    generalize maskOf b = m at *
    have C1 := hide c1
    clear c1
    go_enter Tryz.func59, Tryz.ntmps59
    have d0 := Cells.new w #[.int .u32 ip, .int .i64 b] 66
    have b0 := fresh_below w (.cells #[.int .u32 ip, .int .i64 b] 66)
    have L0 := hide b0; have D0 := hide d0
    clear b0 d0
    go_wp2_with fail
    have b0 := L0.out; have d0 := D0.out
    clear L0 D0
    generalize (w.alloc (.cells #[.int .u32 ip, .int .i64 b] 66)) = w0 at *
    have SK := hide (fun (zX zY : World) (zh : (Below w.heap.size w zX ∧ zX.cell? ⟨w.heap.size, 0, none⟩ = some (.int .u32 ip) ∧ zX.cell? ⟨w.heap.size, 1, none⟩ = some (.int .i64 b) ∧ True)) (zb : Below zX.heap.size zX zY) => (show (Below w.heap.size w zY ∧ zY.cell? ⟨w.heap.size, 0, none⟩ = some (.int .u32 ip) ∧ zY.cell? ⟨w.heap.size, 1, none⟩ = some (.int .i64 b) ∧ True) from ⟨bstep zh.1 zb, cellAt zb zh.2.1, cellAt zb zh.2.2.1, trivial⟩))
    have FS := hide (fun (zX : World) (zh : (Below w.heap.size w zX ∧ zX.cell? ⟨w.heap.size, 0, none⟩ = some (.int .u32 ip) ∧ zX.cell? ⟨w.heap.size, 1, none⟩ = some (.int .i64 b) ∧ True)) => zh.1)
    have GS := hide (fun (zX : World) (zh : (Below w.heap.size w zX ∧ zX.cell? ⟨w.heap.size, 0, none⟩ = some (.int .u32 ip) ∧ zX.cell? ⟨w.heap.size, 1, none⟩ = some (.int .i64 b) ∧ True)) => zh)
    have hS0 : (Below w.heap.size w w0 ∧ w0.cell? ⟨w.heap.size, 0, none⟩ = some (.int .u32 ip) ∧ w0.cell? ⟨w.heap.size, 1, none⟩ = some (.int .i64 b) ∧ True) := ⟨(by (repeat' (first | with_reducible exact b0 | with_reducible exact Below.refl _ _ | with_reducible refine Below.setCell ?_ (by first | exact Nat.le_refl _ | (dsimp only; omega)) _ | with_reducible refine bstep ?_ (fresh_below _ _) | with_reducible refine Below.drew ?_))), d0.at_ 0, d0.at_ 1, trivial⟩
    go_region_held3 (fun w' => (Below w.heap.size w w' ∧ w'.cell? ⟨w.heap.size, 0, none⟩ = some (.int .u32 ip) ∧ w'.cell? ⟨w.heap.size, 1, none⟩ = some (.int .i64 b) ∧ True)) (first | assumption | exact SK.out _ _ hS0 (Below.refl _ _).drew | exact SK.out _ _ hS0 (fresh_below _ _).drew | exact SK.out _ _ (by assumption) (fresh_below _ _) | (refine SK.out _ _ ?_ (by assumption); assumption))
      (first | (go_at_call 90; (with_reducible refine (C1.out _).mono ?_); rintro e wq ⟨rfl, bq⟩) | (go_at_call 104; (with_reducible refine (C2.out _).mono ?_); rintro e wq ⟨rfl, bq⟩))
    all_goals
      go_wp2_with fail
      go_ret
      exact ⟨by first | rfl | simp, (by first | exact FS.out _ (by assumption) | exact bstep (FS.out _ (by assumption)) (fresh_below _ _) | exact bstep (bstep (FS.out _ (by assumption)) (fresh_below _ _)) (fresh_below _ _))⟩
  · have hm : mayP ip b = false := by simpa using hm
    have hv : hasP ip b a = false := by unfold hasP; rw [hm]; rfl
    rw [hv]
    rw [hm] at c1
    clear hv hm hi ha
    have C1 := hide c1
    clear c1
    go_enter Tryz.func59, Tryz.ntmps59
    have d0 := Cells.new w #[.int .u32 ip, .int .i64 b] 66
    have b0 := fresh_below w (.cells #[.int .u32 ip, .int .i64 b] 66)
    have L0 := hide b0; have D0 := hide d0
    clear b0 d0
    go_wp2_with fail
    have b0 := L0.out; have d0 := D0.out
    clear L0 D0
    generalize (w.alloc (.cells #[.int .u32 ip, .int .i64 b] 66)) = w0 at *
    refine wp_region_held_drew (S := fun W => World.cell? W ⟨w.heap.size, 0, none⟩ = some (.int .u32 ip) ∧ World.cell? W ⟨w.heap.size, 1, none⟩ = some (.int .i64 b)) (by kernel_rfl) (⟨Cells.at_ d0 0, Cells.at_ d0 1⟩) (fun hS0 => ?_)
    refine wpAnyH_take (i := 0) (v := ?v0_1) rfl (by kernel_rfl) (by kernel_rfl) (by kernel_rfl) (fun _ _ _ h => h) (Or.inl (And.intro (by kernel_rfl) ?q0_1)) hS0 ?r0_1; (case q0_1 => (rintro w (⟨hx0, hx1⟩); (try dsimp only); (try go_simp); (try with_reducible rfl)))
    try simp only [Act.put, putS]
    refine wpAnyH_ready (rs := [1]) (by kernel_rfl) (by simp) ?_
    refine AllReadyH.cons rfl (fun K hK => ?_) AllReadyH.nil
    rw [if_pos (by kernel_rfl)]
    (try simp only [putG])
    go_simp
    (with_reducible refine (C1.out _).mono ?_)
    rintro e wJ1 ⟨rfl, bJ1⟩
    have rJ1 := bJ1
    replace bJ1 : Below w.heap.size w wJ1 := by (refine bstep ?_ bJ1); (repeat' (first | with_reducible exact b0 | with_reducible exact Below.refl _ _ | with_reducible refine Below.setCell ?_ (by first | exact Nat.le_refl _ | (dsimp only; omega)) _ | with_reducible refine bstep ?_ (fresh_below _ _) | with_reducible refine Below.drew ?_))
    replace d0 := Cells.below rJ1 (by first | exact d0 | exact Cells.drew d0)
    try go_wp2_with fail
    refine hK.out _ _ (⟨Cells.at_ d0 0, Cells.at_ d0 1⟩) (fun hS0 => ?_)
    clear hK K
    try simp only [Act.put, putS]
    refine wpAnyH_take (i := 2) (v := ?v2_3) rfl (by kernel_rfl) (by kernel_rfl) (by kernel_rfl) (fun _ _ _ h => h) (Or.inl (And.intro (by kernel_rfl) ?q2_3)) hS0 ?r2_3; (case q2_3 => (rintro w (⟨hx0, hx1⟩); (try dsimp only); (try go_simp); (try with_reducible rfl)))
    try simp only [Act.put, putS]
    refine wpAnyH_take (i := 3) (v := undef) rfl (by kernel_rfl) (by kernel_rfl) (by kernel_rfl) (fun _ _ _ h => h) (Or.inr (And.intro (by kernel_rfl) rfl)) hS0 ?r3_4
    try simp only [Act.put, putS]
    refine wpAnyH_take (i := 4) (v := undef) rfl (by kernel_rfl) (by kernel_rfl) (by kernel_rfl) (fun _ _ _ h => h) (Or.inr (And.intro (by kernel_rfl) rfl)) hS0 ?r4_5
    try simp only [Act.put, putS]
    refine wpAnyH_take (i := 5) (v := undef) rfl (by kernel_rfl) (by kernel_rfl) (by kernel_rfl) (fun _ _ _ h => h) (Or.inr (And.intro (by kernel_rfl) rfl)) hS0 ?r5_6
    try simp only [Act.put, putS]
    refine wpAnyH_take (i := 6) (v := undef) rfl (by kernel_rfl) (by kernel_rfl) (by kernel_rfl) (fun _ _ _ h => h) (Or.inr (And.intro (by kernel_rfl) rfl)) hS0 ?r6_7
    try simp only [Act.put, putS]
    refine wpAnyH_take (i := 7) (v := undef) rfl (by kernel_rfl) (by kernel_rfl) (by kernel_rfl) (fun _ _ _ h => h) (Or.inr (And.intro (by kernel_rfl) rfl)) hS0 ?r7_8
    try simp only [Act.put, putS]
    refine wpAnyH_take (i := 8) (v := undef) rfl (by kernel_rfl) (by kernel_rfl) (by kernel_rfl) (fun _ _ _ h => h) (Or.inr (And.intro (by kernel_rfl) rfl)) hS0 ?r8_9
    try simp only [Act.put, putS]
    refine wpAnyH_take (i := 9) (v := undef) rfl (by kernel_rfl) (by kernel_rfl) (by kernel_rfl) (fun _ _ _ h => h) (Or.inr (And.intro (by kernel_rfl) rfl)) hS0 ?r9_10
    try simp only [Act.put, putS]
    refine wpAnyH_take (i := 10) (v := undef) rfl (by kernel_rfl) (by kernel_rfl) (by kernel_rfl) (fun _ _ _ h => h) (Or.inr (And.intro (by kernel_rfl) rfl)) hS0 ?r10_11
    try simp only [Act.put, putS]
    refine wpAnyH_take (i := 11) (v := undef) rfl (by kernel_rfl) (by kernel_rfl) (by kernel_rfl) (fun _ _ _ h => h) (Or.inr (And.intro (by kernel_rfl) rfl)) hS0 ?r11_12
    try simp only [Act.put, putS]
    refine wpAnyH_take (i := 12) (v := ?v12_13) rfl (by kernel_rfl) (by kernel_rfl) (by kernel_rfl) (fun _ _ _ h => h) (Or.inl (And.intro (by kernel_rfl) ?q12_13)) hS0 ?r12_13; (case q12_13 => (rintro w (⟨hx0, hx1⟩); (try dsimp only); (try go_simp); (try with_reducible rfl)))
    try simp only [Act.put, putS]
    refine wpAnyH_take (i := 13) (v := ?v13_14) rfl (by kernel_rfl) (by kernel_rfl) (by kernel_rfl) (fun _ _ _ h => h) (Or.inl (And.intro (by kernel_rfl) ?q13_14)) hS0 ?r13_14; (case q13_14 => (rintro w (⟨hx0, hx1⟩); (try dsimp only); (try go_simp); (try with_reducible rfl)))
    try simp only [Act.put, putS]
    refine wpAnyH_done (by kernel_rfl) ?_ _
    go_wp2_with fail
    go_ret
    first | exact ⟨rfl, bJ1⟩ | exact ⟨rfl, bJ1.drew⟩

theorem ref_size (b : Int) (w : World) (h0 : 0 ≤ b) (h1 : b ≤ 32) :
    Calls Tryz.prog 147 #[.int .i64 b] w (fun e w' => e = .returned (.int .u64 (szN b : Nat)) ∧ w' = w) := by
  obtain ⟨n, hn⟩ : ∃ n : Nat, (n : Int) = 32 - b := ⟨(32 - b).toNat, by omega⟩
  have hz : szN b = 2 ^ n := by unfold szN; rw [show (32 - b).toNat = n from by omega]
  have HZ := hide hz; have HN := hide hn
  clear hz hn
  go_enter Tryz.func147, Tryz.ntmps147
  go_wp2_with fail
  go_loopw [3, 4] (fun v i wr => ∃ k : Nat, k ≤ n ∧ v = .int .u64 ((2 ^ k : Nat) : Int) ∧ i = .int .i64 (b + k) ∧ wr = w) (fun _ i _ => (32 - intOf i).toNat)
  case atStart => exact ⟨0, by omega, rfl, by simp, rfl⟩
  case round =>
    obtain ⟨k, hk, rfl, rfl, rfl⟩ := hrel
    have hn := HN.out
    by_cases hl : k < n
    · have q1 : decide (b + (k : Int) < 32) = true := decide_eq_true (by omega)
      have hp : 2 ^ k ≤ 2147483648 := Nat.le_trans (Nat.pow_le_pow_right (by omega) (show k ≤ 31 by omega)) (by decide)
      have he : 2 ^ (k + 1) = 2 * 2 ^ k := by rw [Nat.pow_succ, Nat.mul_comm]
      have HE := hide he
      clear he
      generalize hq : 2 ^ k = q at *
      have HQ := hide hq
      have hw : IntKind.u64.wrap (2 * (q : Int)) = 2 * (q : Int) := IntWalk.u64_in _ (by omega)
      have HP := hide hp
      clear hp hn hq
      go_wp2_with fail
      go_roundw
      case rel =>
        have hn := HN.out
        exact ⟨k + 1, by omega, v_int (by rw [HE.out]; push_cast; rfl), v_int (by rw [IntWalk.wrap64_in _ (by omega)]; push_cast; omega), trivial⟩
      case measure => simp [intOf]; have := HN.out; rw [IntWalk.wrap64_in _ (by omega)]; omega
    · have q1 : decide (b + (k : Int) < 32) = false := decide_eq_false (by omega)
      have e : k = n := by omega
      subst e
      clear hn hk hl
      go_wp2_with fail
      go_ret
      exact ⟨by rw [HZ.out]; push_cast; rfl, rfl⟩
theorem ref_size_ret (b : Int) (w : World) (h0 : 0 ≤ b) (h1 : b ≤ 32) : Calls Tryz.prog 147 #[.int .i64 b] w (Ret (.int .u64 (szN b : Nat)) w) :=
  (ref_size b w h0 h1).mono fun e w' h => ⟨h.1, by rw [h.2]; exact Below.refl _ _⟩

set_option maxHeartbeats 4000000 in
theorem ref_May (ip b : Int) (w : World) (hi : 0 ≤ ip ∧ ip ≤ 4294967295) :
    Calls Tryz.prog 91 #[.agg #[.int .u32 ip, .int .i64 b]] w (Ret (.bool (mayP ip b)) w) := by
  have hv : (b < 0 ∧ mayP ip b = false) ∨ (¬ b < 0 ∧ 32 < b ∧ mayP ip b = false) ∨ (0 ≤ b ∧ b ≤ 32 ∧ mayP ip b = decide (ip.tmod (szN b : Nat) = 0)) := by
    unfold mayP
    by_cases h0 : 0 ≤ b
    · by_cases h1 : b ≤ 32
      · refine Or.inr (Or.inr ⟨h0, h1, ?_⟩)
        rw [decide_eq_true h0, decide_eq_true h1]
        simp only [Bool.true_and]
        refine decide_eq_decide.2 ?_
        obtain ⟨n, rfl⟩ := Int.eq_ofNat_of_zero_le hi.1
        rw [Int.tmod_eq_emod_of_nonneg hi.1, Int.toNat_natCast]
        exact ⟨fun h => by exact_mod_cast h, fun h => by exact_mod_cast h⟩
      · exact Or.inr (Or.inl ⟨by omega, by omega, by simp; omega⟩)
    · exact Or.inl ⟨by omega, by simp; omega⟩
  rcases hv with ⟨h, e⟩ | ⟨h0, h1, e⟩ | ⟨h0, h1, e⟩
  · rw [e]
    clear e hi
    have q1 : decide (0 ≤ b) = false := decide_eq_false (by omega)
    go_enter Tryz.func91, Tryz.ntmps91
    have d0 := Cells.new w #[.int .u32 ip, .int .i64 b] 66
    have xd0_0 : ((w.alloc (.cells #[.int .u32 ip, .int .i64 b] 66))).cell? ⟨w.heap.size, 0, none⟩ = some (.int .u32 ip) := d0.at_ 0
    have xd0_1 : ((w.alloc (.cells #[.int .u32 ip, .int .i64 b] 66))).cell? ⟨w.heap.size, 1, none⟩ = some (.int .i64 b) := d0.at_ 1
    have l0 := fresh_below w (.cells #[.int .u32 ip, .int .i64 b] 66)
    have L0 := hide l0
    clear l0 d0
    go_wp2_with fail
    generalize (w.alloc (.cells #[.int .u32 ip, .int .i64 b] 66)) = w0 at *
    go_quiet (fail)
    go_wp2_with fail
    go_ret
    exact ⟨rfl, below_drewN L0.out _⟩
  · rw [e]
    clear e hi
    have q1 : decide (0 ≤ b) = true := decide_eq_true (by omega)
    have q2 : decide (b ≤ 32) = false := decide_eq_false (by omega)
    go_enter Tryz.func91, Tryz.ntmps91
    have d0 := Cells.new w #[.int .u32 ip, .int .i64 b] 66
    have xd0_0 : ((w.alloc (.cells #[.int .u32 ip, .int .i64 b] 66))).cell? ⟨w.heap.size, 0, none⟩ = some (.int .u32 ip) := d0.at_ 0
    have xd0_1 : ((w.alloc (.cells #[.int .u32 ip, .int .i64 b] 66))).cell? ⟨w.heap.size, 1, none⟩ = some (.int .i64 b) := d0.at_ 1
    have l0 := fresh_below w (.cells #[.int .u32 ip, .int .i64 b] 66)
    have L0 := hide l0
    clear l0 d0
    go_wp2_with fail
    generalize (w.alloc (.cells #[.int .u32 ip, .int .i64 b] 66)) = w0 at *
    go_quiet (fail)
    go_wp2_with fail
    go_ret
    exact ⟨rfl, below_drewN L0.out _⟩
  · rw [e]
    have c1 := fun W => ref_size b W h0 h1
    have hs := szN_bd h0 h1
    have C1 := hide c1
    clear c1 e
    have kw : IntKind.u64.wrap ip = ip := IntWalk.u64_in ip (by omega)
    generalize hm : ((szN b : Nat) : Int) = m at *
    have z0 : 1 ≤ m := by omega
    have z1 : ¬ m = 0 := by omega
    have z2 : (m == 0) = false := by simpa using z1
    have t0 : 0 ≤ ip.tmod m ∧ ip.tmod m ≤ 4294967295 := by
      rw [Int.tmod_eq_emod_of_nonneg hi.1]
      have := Int.emod_nonneg ip z1
      have h1 := Int.mul_nonneg (show 0 ≤ m by omega) (Int.ediv_nonneg hi.1 (show 0 ≤ m by omega))
      have h2 := Int.emod_def ip m
      omega
    have kt : IntKind.u64.wrap (ip.tmod m) = ip.tmod m := IntWalk.u64_in _ (by omega)
    have HS := hide hs; have T0 := hide t0; have HM := hide hm; have Z0 := hide z0
    clear hs t0 hi hm z0
    go_enter Tryz.func91, Tryz.ntmps91
    have d0 := Cells.new w #[.int .u32 ip, .int .i64 b] 66
    have xd0_0 : ((w.alloc (.cells #[.int .u32 ip, .int .i64 b] 66))).cell? ⟨w.heap.size, 0, none⟩ = some (.int .u32 ip) := d0.at_ 0
    have xd0_1 : ((w.alloc (.cells #[.int .u32 ip, .int .i64 b] 66))).cell? ⟨w.heap.size, 1, none⟩ = some (.int .i64 b) := d0.at_ 1
    have l0 := fresh_below w (.cells #[.int .u32 ip, .int .i64 b] 66)
    have L0 := hide l0
    clear l0 d0
    go_wp2_with fail
    generalize (w.alloc (.cells #[.int .u32 ip, .int .i64 b] 66)) = w0 at *
    go_quiet ((go_at_call 147; refine Calls.quiet_of_same (C1.out _)))
    go_wp2_with fail
    go_ret
    exact ⟨by first | rfl | (simp), below_drewN L0.out _⟩

set_option maxHeartbeats 4000000 in
theorem ref_Has (ip b a : Int) (w : World) (hi : 0 ≤ ip ∧ ip ≤ 4294967295) (ha : 0 ≤ a ∧ a ≤ 4294967295) :
    Calls Tryz.prog 92 #[.agg #[.int .u32 ip, .int .i64 b], .int .u32 a] w (Ret (.bool (hasP ip b a)) w) := by
  have c1 := fun W => ref_May ip b W hi
  by_cases hm : mayP ip b = true
  · have hb : 0 ≤ b ∧ b ≤ 32 := by unfold mayP at hm; simp at hm; omega
    have c2 := fun W => ref_size_ret b W hb.1 hb.2
    have hs := szN_bd hb.1 hb.2
    have hv : hasP ip b a = decide (a.tdiv ((szN b : Nat) : Int) = ip.tdiv ((szN b : Nat) : Int)) := by
      unfold hasP
      rw [hm]
      simp only [Bool.true_and]
      refine decide_eq_decide.2 ?_
      obtain ⟨n, rfl⟩ := Int.eq_ofNat_of_zero_le hi.1
      obtain ⟨k, rfl⟩ := Int.eq_ofNat_of_zero_le ha.1
      rw [Int.tdiv_eq_ediv_of_nonneg hi.1, Int.tdiv_eq_ediv_of_nonneg ha.1, Int.toNat_natCast, Int.toNat_natCast]
      exact ⟨fun h => by exact_mod_cast h, fun h => by exact_mod_cast h⟩
    have kw : IntKind.u64.wrap ip = ip := IntWalk.u64_in ip (by omega)
    have ka : IntKind.u64.wrap a = a := IntWalk.u64_in a (by omega)
    rw [hv]
    rw [hm] at c1
    generalize hq : ((szN b : Nat) : Int) = m at *
    have z0 : 1 ≤ m := by omega
    have z1 : ¬ m = 0 := by omega
    have z2 : (m == 0) = false := by simpa using z1
    have kd : ∀ x : Int, 0 ≤ x → x ≤ 4294967295 → IntKind.u64.wrap (x.tdiv m) = x.tdiv m := by
      intro x h0 h1
      rw [Int.tdiv_eq_ediv_of_nonneg h0]
      have h2 := Int.ediv_nonneg h0 (show 0 ≤ m by omega)
      have h3 := Int.ediv_le_self m h0
      exact IntWalk.u64_in _ (by omega)
    have k1 := kd ip hi.1 hi.2
    have k2 := kd a ha.1 ha.2
    have C2 := hide c2; have Z0 := hide z0; have HQ := hide hq; have HB := hide hb
    clear hv hm c2 hb hi ha hs hq z0 kd
    have C1 := hide c1
    clear c1
    go_enter Tryz.func92, Tryz.ntmps92
    have d0 := Cells.new w #[.int .u32 ip, .int .i64 b] 66
    have b0 := fresh_below w (.cells #[.int .u32 ip, .int .i64 b] 66)
    have L0 := hide b0; have D0 := hide d0
    clear b0 d0
    go_wp2_with fail
    have b0 := L0.out; have d0 := D0.out
    clear L0 D0
    generalize (w.alloc (.cells #[.int .u32 ip, .int .i64 b] 66)) = w0 at *
    have SK := hide (fun (zX zY : World) (zh : (Below w.heap.size w zX ∧ zX.cell? ⟨w.heap.size, 0, none⟩ = some (.int .u32 ip) ∧ zX.cell? ⟨w.heap.size, 1, none⟩ = some (.int .i64 b) ∧ True)) (zb : Below zX.heap.size zX zY) => (show (Below w.heap.size w zY ∧ zY.cell? ⟨w.heap.size, 0, none⟩ = some (.int .u32 ip) ∧ zY.cell? ⟨w.heap.size, 1, none⟩ = some (.int .i64 b) ∧ True) from ⟨bstep zh.1 zb, cellAt zb zh.2.1, cellAt zb zh.2.2.1, trivial⟩))
    have FS := hide (fun (zX : World) (zh : (Below w.heap.size w zX ∧ zX.cell? ⟨w.heap.size, 0, none⟩ = some (.int .u32 ip) ∧ zX.cell? ⟨w.heap.size, 1, none⟩ = some (.int .i64 b) ∧ True)) => zh.1)
    have GS := hide (fun (zX : World) (zh : (Below w.heap.size w zX ∧ zX.cell? ⟨w.heap.size, 0, none⟩ = some (.int .u32 ip) ∧ zX.cell? ⟨w.heap.size, 1, none⟩ = some (.int .i64 b) ∧ True)) => zh)
    have hS0 : (Below w.heap.size w w0 ∧ w0.cell? ⟨w.heap.size, 0, none⟩ = some (.int .u32 ip) ∧ w0.cell? ⟨w.heap.size, 1, none⟩ = some (.int .i64 b) ∧ True) := ⟨(by (repeat' (first | with_reducible exact b0 | with_reducible exact Below.refl _ _ | with_reducible refine Below.setCell ?_ (by first | exact Nat.le_refl _ | (dsimp only; omega)) _ | with_reducible refine bstep ?_ (fresh_below _ _) | with_reducible refine Below.drew ?_))), d0.at_ 0, d0.at_ 1, trivial⟩
    go_region_held3 (fun w' => (Below w.heap.size w w' ∧ w'.cell? ⟨w.heap.size, 0, none⟩ = some (.int .u32 ip) ∧ w'.cell? ⟨w.heap.size, 1, none⟩ = some (.int .i64 b) ∧ True)) (first | assumption | exact SK.out _ _ hS0 (Below.refl _ _).drew | exact SK.out _ _ hS0 (fresh_below _ _).drew | exact SK.out _ _ (by assumption) (fresh_below _ _) | (refine SK.out _ _ ?_ (by assumption); assumption))
      (first | (go_at_call 91; (with_reducible refine (C1.out _).mono ?_); rintro e wq ⟨rfl, bq⟩) | (go_at_call 147; (with_reducible refine (C2.out _).mono ?_); rintro e wq ⟨rfl, bq⟩))
    all_goals
      go_wp2_with fail
      go_ret
      exact ⟨by first | rfl | simp, (by first | exact FS.out _ (by assumption) | exact bstep (FS.out _ (by assumption)) (fresh_below _ _) | exact bstep (bstep (FS.out _ (by assumption)) (fresh_below _ _)) (fresh_below _ _))⟩
  · have hm : mayP ip b = false := by simpa using hm
    have hv : hasP ip b a = false := by unfold hasP; rw [hm]; rfl
    rw [hv]
    rw [hm] at c1
    clear hv hm hi ha
    have C1 := hide c1
    clear c1
    go_enter Tryz.func92, Tryz.ntmps92
    have d0 := Cells.new w #[.int .u32 ip, .int .i64 b] 66
    have b0 := fresh_below w (.cells #[.int .u32 ip, .int .i64 b] 66)
    have L0 := hide b0; have D0 := hide d0
    clear b0 d0
    go_wp2_with fail
    have b0 := L0.out; have d0 := D0.out
    clear L0 D0
    generalize (w.alloc (.cells #[.int .u32 ip, .int .i64 b] 66)) = w0 at *
    refine wp_region_held_drew (S := fun W => World.cell? W ⟨w.heap.size, 0, none⟩ = some (.int .u32 ip) ∧ World.cell? W ⟨w.heap.size, 1, none⟩ = some (.int .i64 b)) (by kernel_rfl) (⟨Cells.at_ d0 0, Cells.at_ d0 1⟩) (fun hS0 => ?_)
    refine wpAnyH_take (i := 0) (v := ?v0_15) rfl (by kernel_rfl) (by kernel_rfl) (by kernel_rfl) (fun _ _ _ h => h) (Or.inl (And.intro (by kernel_rfl) ?q0_15)) hS0 ?r0_15; (case q0_15 => (rintro w (⟨hx0, hx1⟩); (try dsimp only); (try go_simp); (try with_reducible rfl)))
    try simp only [Act.put, putS]
    refine wpAnyH_ready (rs := [1]) (by kernel_rfl) (by simp) ?_
    refine AllReadyH.cons rfl (fun K hK => ?_) AllReadyH.nil
    rw [if_pos (by kernel_rfl)]
    (try simp only [putG])
    go_simp
    (with_reducible refine (C1.out _).mono ?_)
    rintro e wJ1 ⟨rfl, bJ1⟩
    have rJ1 := bJ1
    replace bJ1 : Below w.heap.size w wJ1 := by (refine bstep ?_ bJ1); (repeat' (first | with_reducible exact b0 | with_reducible exact Below.refl _ _ | with_reducible refine Below.setCell ?_ (by first | exact Nat.le_refl _ | (dsimp only; omega)) _ | with_reducible refine bstep ?_ (fresh_below _ _) | with_reducible refine Below.drew ?_))
    replace d0 := Cells.below rJ1 (by first | exact d0 | exact Cells.drew d0)
    try go_wp2_with fail
    refine hK.out _ _ (⟨Cells.at_ d0 0, Cells.at_ d0 1⟩) (fun hS0 => ?_)
    clear hK K
    try simp only [Act.put, putS]
    refine wpAnyH_take (i := 2) (v := ?v2_17) rfl (by kernel_rfl) (by kernel_rfl) (by kernel_rfl) (fun _ _ _ h => h) (Or.inl (And.intro (by kernel_rfl) ?q2_17)) hS0 ?r2_17; (case q2_17 => (rintro w (⟨hx0, hx1⟩); (try dsimp only); (try go_simp); (try with_reducible rfl)))
    try simp only [Act.put, putS]
    refine wpAnyH_take (i := 3) (v := undef) rfl (by kernel_rfl) (by kernel_rfl) (by kernel_rfl) (fun _ _ _ h => h) (Or.inr (And.intro (by kernel_rfl) rfl)) hS0 ?r3_18
    try simp only [Act.put, putS]
    refine wpAnyH_take (i := 4) (v := undef) rfl (by kernel_rfl) (by kernel_rfl) (by kernel_rfl) (fun _ _ _ h => h) (Or.inr (And.intro (by kernel_rfl) rfl)) hS0 ?r4_19
    try simp only [Act.put, putS]
    refine wpAnyH_take (i := 5) (v := undef) rfl (by kernel_rfl) (by kernel_rfl) (by kernel_rfl) (fun _ _ _ h => h) (Or.inr (And.intro (by kernel_rfl) rfl)) hS0 ?r5_20
    try simp only [Act.put, putS]
    refine wpAnyH_take (i := 6) (v := undef) rfl (by kernel_rfl) (by kernel_rfl) (by kernel_rfl) (fun _ _ _ h => h) (Or.inr (And.intro (by kernel_rfl) rfl)) hS0 ?r6_21
    try simp only [Act.put, putS]
    refine wpAnyH_take (i := 7) (v := undef) rfl (by kernel_rfl) (by kernel_rfl) (by kernel_rfl) (fun _ _ _ h => h) (Or.inr (And.intro (by kernel_rfl) rfl)) hS0 ?r7_22
    try simp only [Act.put, putS]
    refine wpAnyH_take (i := 8) (v := undef) rfl (by kernel_rfl) (by kernel_rfl) (by kernel_rfl) (fun _ _ _ h => h) (Or.inr (And.intro (by kernel_rfl) rfl)) hS0 ?r8_23
    try simp only [Act.put, putS]
    refine wpAnyH_take (i := 9) (v := undef) rfl (by kernel_rfl) (by kernel_rfl) (by kernel_rfl) (fun _ _ _ h => h) (Or.inr (And.intro (by kernel_rfl) rfl)) hS0 ?r9_24
    try simp only [Act.put, putS]
    refine wpAnyH_take (i := 10) (v := undef) rfl (by kernel_rfl) (by kernel_rfl) (by kernel_rfl) (fun _ _ _ h => h) (Or.inr (And.intro (by kernel_rfl) rfl)) hS0 ?r10_25
    try simp only [Act.put, putS]
    refine wpAnyH_take (i := 11) (v := undef) rfl (by kernel_rfl) (by kernel_rfl) (by kernel_rfl) (fun _ _ _ h => h) (Or.inr (And.intro (by kernel_rfl) rfl)) hS0 ?r11_26
    try simp only [Act.put, putS]
    refine wpAnyH_take (i := 12) (v := undef) rfl (by kernel_rfl) (by kernel_rfl) (by kernel_rfl) (fun _ _ _ h => h) (Or.inr (And.intro (by kernel_rfl) rfl)) hS0 ?r12_27
    try simp only [Act.put, putS]
    refine wpAnyH_take (i := 13) (v := undef) rfl (by kernel_rfl) (by kernel_rfl) (by kernel_rfl) (fun _ _ _ h => h) (Or.inr (And.intro (by kernel_rfl) rfl)) hS0 ?r13_28
    try simp only [Act.put, putS]
    refine wpAnyH_take (i := 14) (v := undef) rfl (by kernel_rfl) (by kernel_rfl) (by kernel_rfl) (fun _ _ _ h => h) (Or.inr (And.intro (by kernel_rfl) rfl)) hS0 ?r14_29
    try simp only [Act.put, putS]
    refine wpAnyH_take (i := 15) (v := undef) rfl (by kernel_rfl) (by kernel_rfl) (by kernel_rfl) (fun _ _ _ h => h) (Or.inr (And.intro (by kernel_rfl) rfl)) hS0 ?r15_30
    try simp only [Act.put, putS]
    refine wpAnyH_take (i := 16) (v := undef) rfl (by kernel_rfl) (by kernel_rfl) (by kernel_rfl) (fun _ _ _ h => h) (Or.inr (And.intro (by kernel_rfl) rfl)) hS0 ?r16_31
    try simp only [Act.put, putS]
    refine wpAnyH_take (i := 17) (v := ?v17_32) rfl (by kernel_rfl) (by kernel_rfl) (by kernel_rfl) (fun _ _ _ h => h) (Or.inl (And.intro (by kernel_rfl) ?q17_32)) hS0 ?r17_32; (case q17_32 => (rintro w (⟨hx0, hx1⟩); (try dsimp only); (try go_simp); (try with_reducible rfl)))
    try simp only [Act.put, putS]
    refine wpAnyH_take (i := 18) (v := ?v18_33) rfl (by kernel_rfl) (by kernel_rfl) (by kernel_rfl) (fun _ _ _ h => h) (Or.inl (And.intro (by kernel_rfl) ?q18_33)) hS0 ?r18_33; (case q18_33 => (rintro w (⟨hx0, hx1⟩); (try dsimp only); (try go_simp); (try with_reducible rfl)))
    try simp only [Act.put, putS]
    refine wpAnyH_done (by kernel_rfl) ?_ _
    go_wp2_with fail
    go_ret
    first | exact ⟨rfl, bJ1⟩ | exact ⟨rfl, bJ1.drew⟩
end Go.Proofs.YtilfcikhipadpaaGreatDoor
end

section
/- rules: a rule, a table in memory; none, Inner, static. -/
set_option linter.unusedVariables false
set_option linter.unusedSimpArgs false
namespace Go.Proofs.YtilfcikhipadpaaGreatDoor
open Go.RowKit
attribute [local go_sem] Oper.semAt_some

/-- a rule: kind, protocol, source and destination prefix, outer address, ports from and to, inner endpoint -/
structure Rule where
  k : Int
  p : Int
  sa : Int
  sb : Int
  da : Int
  db : Int
  e : Int
  f : Int
  t : Int
  ia : Int
  ip : Int
deriving DecidableEq
def Rule.cells (r : Rule) : Array Value := #[.int .i64 r.k, .int .u8 r.p, .int .u32 r.sa, .int .i64 r.sb, .int .u32 r.da, .int .i64 r.db, .int .u32 r.e, .int .u16 r.f, .int .u16 r.t, .int .u32 r.ia, .int .u16 r.ip]
def Rule.Ok (r : Rule) : Prop := (0 ≤ r.p ∧ r.p ≤ 255) ∧ (0 ≤ r.sa ∧ r.sa ≤ 4294967295) ∧ (0 ≤ r.da ∧ r.da ≤ 4294967295) ∧ (0 ≤ r.e ∧ r.e ≤ 4294967295) ∧ (0 ≤ r.f ∧ r.f ≤ 65535) ∧ (0 ≤ r.t ∧ r.t ≤ 65535) ∧ (0 ≤ r.ia ∧ r.ia ≤ 4294967295) ∧ (0 ≤ r.ip ∧ r.ip ≤ 65535)
def stOk (ip b : Int) (r : Rule) : Bool := (decide (r.sa = 0) && decide (r.sb = 0) && decide (r.da = 0) && decide (r.db = 0)) && (decide (r.p = 6) || decide (r.p = 17)) && !hasP ip b r.e && decide (0 < r.f) && decide (r.t = r.f) && hasP ip b r.ia && decide (0 < r.ip)
def srOk (r : Rule) : Bool := (decide (r.p = 0) || decide (r.p = 1) || decide (r.p = 6) || decide (r.p = 17)) && decide (r.ia = 0) && decide (r.ip = 0) && mayP r.sa r.sb && mayP r.da r.db && decide (0 < r.f) && decide (r.f ≤ r.t)
def mayR (ip b : Int) (r : Rule) : Bool := if r.k = 1 then srOk r && !hasP ip b r.e else if r.k = 2 then srOk r && decide (r.e = 0) else if r.k = 3 then stOk ip b r else false

/-- the program's table at block B: its outer address, its inner prefix, its slice of rules -/
def Tbl (w : World) (B : Nat) (o ip b : Int) (v : Value) : Prop := Cells w B #[.bool true, .int .u32 o, .int .u32 ip, .int .i64 b, v] 130
theorem Tbl.below {w w' : World} {B : Nat} {o ip b : Int} {v : Value} (h : Tbl w B o ip b v) (k : Below w.heap.size w w') : Tbl w' B o ip b v := Cells.below k h

end Go.Proofs.YtilfcikhipadpaaGreatDoor
end
