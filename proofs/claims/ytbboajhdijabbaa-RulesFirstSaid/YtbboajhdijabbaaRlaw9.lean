/- rules: the law's in. -/
import Derived.Test.YtbboajhdijabbaaRlaw8
set_option linter.unusedVariables false
set_option linter.unusedSimpArgs false
namespace Go.Proofs.Ytbboajhdijabbaa
open Go.RowKit Go.Lib
attribute [local go_sem] Oper.semAt_some

theorem hasP_shift {ip b a : Int} (hi : 0 ≤ ip) (ha : 0 ≤ a) (hm : mayP ip b = true) : hasP ip b a = decide (ip / 2 ^ (32 - b).toNat = a / 2 ^ (32 - b).toNat) := by
  unfold hasP
  rw [hm, Bool.true_and]
  obtain ⟨n, rfl⟩ := Int.eq_ofNat_of_zero_le hi
  obtain ⟨m, rfl⟩ := Int.eq_ofNat_of_zero_le ha
  refine decide_eq_decide.2 ?_
  simp only [Int.toNat_natCast, szN]
  constructor
  · intro h; exact_mod_cast h.symm
  · intro h; have h' : n / 2 ^ (32 - b).toNat = m / 2 ^ (32 - b).toNat := by exact_mod_cast h
    exact h'.symm
theorem hasP_none {ip b a : Int} (hi : 0 ≤ ip ∧ ip ≤ 4294967295) (ha : 0 ≤ a ∧ a ≤ 4294967295) (hm : mayP ip b = true) (hb : b < 1) : hasP ip b a = true := by
  have h0 : b = 0 := by unfold mayP at hm; simp at hm; omega
  subst h0
  unfold hasP
  rw [hm, Bool.true_and]
  have e : szN 0 = 4294967296 := by decide
  rw [e]
  exact decide_eq_true (by omega)

set_option maxHeartbeats 4000000 in
set_option maxRecDepth 100000 in
theorem l_in (ip b a : Int) (w : World) (hi : 0 ≤ ip ∧ ip ≤ 4294967295) (ha : 0 ≤ a ∧ a ≤ 4294967295) (hm : mayP ip b = true) :
    Calls Try.prog 24 #[.agg #[.int .u32 ip, .int .i64 b], .int .u32 a] w (Ret (.bool (hasP ip b a)) w) := by
  by_cases hb : b < 1
  · rw [hasP_none hi ha hm hb]
    have q1 : decide (b < 1) = true := decide_eq_true hb
    clear hi ha hm hb
    go_enter Try.func24, Try.ntmps24
    have d0 := Cells.new w #[.int .u32 ip, .int .i64 b] 25
    have xd0_0 : ((w.alloc (.cells #[.int .u32 ip, .int .i64 b] 25))).cell? ⟨w.heap.size, 0, none⟩ = some (.int .u32 ip) := d0.at_ 0
    have xd0_1 : ((w.alloc (.cells #[.int .u32 ip, .int .i64 b] 25))).cell? ⟨w.heap.size, 1, none⟩ = some (.int .i64 b) := d0.at_ 1
    have l0 := fresh_below w (.cells #[.int .u32 ip, .int .i64 b] 25)
    have L0 := hide l0
    clear l0 d0
    go_wp2_with fail
    generalize (w.alloc (.cells #[.int .u32 ip, .int .i64 b] 25)) = w0 at *
    go_quiet (fail)
    go_wp2_with fail
    go_ret
    exact ⟨rfl, below_drewN L0.out _⟩
  · rw [hasP_shift hi.1 ha.1 hm]
    have hb32 : b ≤ 32 := by unfold mayP at hm; simp at hm; omega
    have q1 : decide (b < 1) = false := decide_eq_false hb
    have q2 : decide (b ≤ 32) = true := decide_eq_true hb32
    obtain ⟨s, hs⟩ : ∃ s, s = 32 - b := ⟨_, rfl⟩
    have hs' : 32 - b = s := hs.symm
    have h0 : 0 ≤ s := by omega
    have h64 : s ≤ 31 := by omega
    have kw : IntKind.i64.wrap s = s := IntWalk.i64_in s (by omega)
    have ki : IntKind.u64.wrap ip = ip := IntWalk.u64_in ip (by omega)
    have ka : IntKind.u64.wrap a = a := IntWalk.u64_in a (by omega)
    rw [hs']
    have HS := hide hs
    clear hi ha hm hb hb32 hs
    go_enter Try.func24, Try.ntmps24
    have d0 := Cells.new w #[.int .u32 ip, .int .i64 b] 25
    have xd0_0 : ((w.alloc (.cells #[.int .u32 ip, .int .i64 b] 25))).cell? ⟨w.heap.size, 0, none⟩ = some (.int .u32 ip) := d0.at_ 0
    have xd0_1 : ((w.alloc (.cells #[.int .u32 ip, .int .i64 b] 25))).cell? ⟨w.heap.size, 1, none⟩ = some (.int .i64 b) := d0.at_ 1
    have l0 := fresh_below w (.cells #[.int .u32 ip, .int .i64 b] 25)
    have L0 := hide l0
    clear l0 d0
    go_wp2_with fail
    generalize (w.alloc (.cells #[.int .u32 ip, .int .i64 b] 25)) = w0 at *
    go_quiet (fail)
    go_wp2_with fail
    go_ret
    exact ⟨by first | rfl | (simp), below_drewN L0.out _⟩
end Go.Proofs.Ytbboajhdijabbaa
