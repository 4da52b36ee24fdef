/- with: a tuple in which one byte is another one, over this program. -/
import Derived.Test.YtcghhnehmddoeaaLaw12r
import Derived.Test.YtcghhnehmddoeaaUnlike
set_option linter.unusedVariables false
namespace Go.Proofs.Ytcghhnehmddoeaa
open Go.RowKit
attribute [local go_sem] Oper.semAt_some

/-- t, but for byte c -/
def Tup.put (t : Tup) (b : Int) : Nat → Tup
  | 0 => { t with p := xor_ t.p (b * 1) }
  | 1 => { t with si := xor_ t.si (b * 1) }
  | 2 => { t with si := xor_ t.si (b * 256) }
  | 3 => { t with si := xor_ t.si (b * 65536) }
  | 4 => { t with si := xor_ t.si (b * 16777216) }
  | 5 => { t with sp := xor_ t.sp (b * 1) }
  | 6 => { t with sp := xor_ t.sp (b * 256) }
  | 7 => { t with di := xor_ t.di (b * 1) }
  | 8 => { t with di := xor_ t.di (b * 256) }
  | 9 => { t with di := xor_ t.di (b * 65536) }
  | 10 => { t with di := xor_ t.di (b * 16777216) }
  | 11 => { t with dp := xor_ t.dp (b * 1) }
  | _ => { t with dp := xor_ t.dp (b * 256) }

theorem xor_in {m a b : Nat} (h1 : a < 2 ^ m) (h2 : b < 2 ^ m) : a ^^^ b < 2 ^ m := Nat.xor_lt_two_pow h1 h2
theorem xor_u8 {a b : Int} (h1 : 0 ≤ a ∧ a ≤ 255) (h2 : 0 ≤ b ∧ b ≤ 255) : bits .xor .u8 a b = xor_ a b := by
  rw [u8_xor a b h1.1 (by omega) h2.1 (by omega)]; rfl
theorem xor_u16 {a b : Int} (h1 : 0 ≤ a ∧ a ≤ 65535) (h2 : 0 ≤ b ∧ b ≤ 65535) : bits .xor .u16 a b = xor_ a b := by
  rw [u16_xor a b h1.1 (by omega) h2.1 (by omega)]; rfl
theorem xor_u32 {a b : Int} (h1 : 0 ≤ a ∧ a ≤ 4294967295) (h2 : 0 ≤ b ∧ b ≤ 4294967295) : bits .xor .u32 a b = xor_ a b := by
  rw [u32_xor a b h1.1 (by omega) h2.1 (by omega)]; rfl
theorem xor_bd8 {a b : Int} (h1 : 0 ≤ a ∧ a ≤ 255) (h2 : 0 ≤ b ∧ b ≤ 255) : 0 ≤ xor_ a b ∧ xor_ a b ≤ 255 := by
  have := xor_in (m := 8) (a := a.toNat) (b := b.toNat) (by omega) (by omega); unfold xor_; omega
theorem xor_bd16 {a b : Int} (h1 : 0 ≤ a ∧ a ≤ 65535) (h2 : 0 ≤ b ∧ b ≤ 65535) : 0 ≤ xor_ a b ∧ xor_ a b ≤ 65535 := by
  have := xor_in (m := 16) (a := a.toNat) (b := b.toNat) (by omega) (by omega); unfold xor_; omega
theorem xor_bd32 {a b : Int} (h1 : 0 ≤ a ∧ a ≤ 4294967295) (h2 : 0 ≤ b ∧ b ≤ 4294967295) : 0 ≤ xor_ a b ∧ xor_ a b ≤ 4294967295 := by
  have := xor_in (m := 32) (a := a.toNat) (b := b.toNat) (by omega) (by omega); unfold xor_; omega

theorem with_0 (t : Tup) (ht : t.Ok) (a b : Int) (w : World) (ha : 0 ≤ a ∧ a ≤ 255) (hb : 0 ≤ b ∧ b ≤ 255) (hk : a % 13 = 0) :
    Calls Try.prog 39 #[.agg t.cells, .int .u8 a, .int .u8 b] w (Ret (.agg (t.put b 0).cells) w) := by
  obtain ⟨⟨p0, p1⟩, ⟨si0, si1⟩, ⟨sp0, sp1⟩, ⟨di0, di1⟩, ⟨dp0, dp1⟩⟩ := ht
  obtain ⟨a0, a1⟩ := ha
  obtain ⟨b0, b1⟩ := hb
  have hx : bits .xor .u8 t.p b = xor_ t.p (b * 1) := by rw [xor_u8 (by omega) (by omega)]; simp
  have HX := hide hx
  clear hx
  unfold Tup.cells
  dsimp only [Tup.put]
  go_enter Try.func39, Try.ntmps39
  go_wp2_with fail
  (try simp only [Exit.inBlock, Exit.then]); refine bodyPost_ret (by simp [results, Try.results39, go_sem]; try rfl) rfl ?_
  exact ⟨by rw [HX.out], bstep (fresh_below _ _) (fresh_below _ _)⟩
theorem with_1 (t : Tup) (ht : t.Ok) (a b : Int) (w : World) (ha : 0 ≤ a ∧ a ≤ 255) (hb : 0 ≤ b ∧ b ≤ 255) (hk : a % 13 = 1) :
    Calls Try.prog 39 #[.agg t.cells, .int .u8 a, .int .u8 b] w (Ret (.agg (t.put b 1).cells) w) := by
  obtain ⟨⟨p0, p1⟩, ⟨si0, si1⟩, ⟨sp0, sp1⟩, ⟨di0, di1⟩, ⟨dp0, dp1⟩⟩ := ht
  obtain ⟨a0, a1⟩ := ha
  obtain ⟨b0, b1⟩ := hb
  have hx : bits .xor .u32 t.si b = xor_ t.si (b * 1) := by rw [xor_u32 (by omega) (by omega)]; simp
  have HX := hide hx
  clear hx
  unfold Tup.cells
  dsimp only [Tup.put]
  go_enter Try.func39, Try.ntmps39
  go_wp2_with fail
  (try simp only [Exit.inBlock, Exit.then]); refine bodyPost_ret (by simp [results, Try.results39, go_sem]; try rfl) rfl ?_
  exact ⟨by rw [HX.out], bstep (fresh_below _ _) (fresh_below _ _)⟩
theorem with_2 (t : Tup) (ht : t.Ok) (a b : Int) (w : World) (ha : 0 ≤ a ∧ a ≤ 255) (hb : 0 ≤ b ∧ b ≤ 255) (hk : a % 13 = 2) :
    Calls Try.prog 39 #[.agg t.cells, .int .u8 a, .int .u8 b] w (Ret (.agg (t.put b 2).cells) w) := by
  obtain ⟨⟨p0, p1⟩, ⟨si0, si1⟩, ⟨sp0, sp1⟩, ⟨di0, di1⟩, ⟨dp0, dp1⟩⟩ := ht
  obtain ⟨a0, a1⟩ := ha
  obtain ⟨b0, b1⟩ := hb
  have hx : bits .xor .u32 t.si (b * 256) = xor_ t.si (b * 256) := by rw [xor_u32 (by omega) (by omega)]
  have HX := hide hx
  clear hx
  unfold Tup.cells
  dsimp only [Tup.put]
  go_enter Try.func39, Try.ntmps39
  go_wp2_with fail
  (try simp only [Exit.inBlock, Exit.then]); refine bodyPost_ret (by simp [results, Try.results39, go_sem]; try rfl) rfl ?_
  exact ⟨by rw [HX.out], bstep (fresh_below _ _) (fresh_below _ _)⟩
theorem with_3 (t : Tup) (ht : t.Ok) (a b : Int) (w : World) (ha : 0 ≤ a ∧ a ≤ 255) (hb : 0 ≤ b ∧ b ≤ 255) (hk : a % 13 = 3) :
    Calls Try.prog 39 #[.agg t.cells, .int .u8 a, .int .u8 b] w (Ret (.agg (t.put b 3).cells) w) := by
  obtain ⟨⟨p0, p1⟩, ⟨si0, si1⟩, ⟨sp0, sp1⟩, ⟨di0, di1⟩, ⟨dp0, dp1⟩⟩ := ht
  obtain ⟨a0, a1⟩ := ha
  obtain ⟨b0, b1⟩ := hb
  have hx : bits .xor .u32 t.si (b * 65536) = xor_ t.si (b * 65536) := by rw [xor_u32 (by omega) (by omega)]
  have HX := hide hx
  clear hx
  unfold Tup.cells
  dsimp only [Tup.put]
  go_enter Try.func39, Try.ntmps39
  go_wp2_with fail
  (try simp only [Exit.inBlock, Exit.then]); refine bodyPost_ret (by simp [results, Try.results39, go_sem]; try rfl) rfl ?_
  exact ⟨by rw [HX.out], bstep (fresh_below _ _) (fresh_below _ _)⟩
theorem with_4 (t : Tup) (ht : t.Ok) (a b : Int) (w : World) (ha : 0 ≤ a ∧ a ≤ 255) (hb : 0 ≤ b ∧ b ≤ 255) (hk : a % 13 = 4) :
    Calls Try.prog 39 #[.agg t.cells, .int .u8 a, .int .u8 b] w (Ret (.agg (t.put b 4).cells) w) := by
  obtain ⟨⟨p0, p1⟩, ⟨si0, si1⟩, ⟨sp0, sp1⟩, ⟨di0, di1⟩, ⟨dp0, dp1⟩⟩ := ht
  obtain ⟨a0, a1⟩ := ha
  obtain ⟨b0, b1⟩ := hb
  have hx : bits .xor .u32 t.si (b * 16777216) = xor_ t.si (b * 16777216) := by rw [xor_u32 (by omega) (by omega)]
  have HX := hide hx
  clear hx
  unfold Tup.cells
  dsimp only [Tup.put]
  go_enter Try.func39, Try.ntmps39
  go_wp2_with fail
  (try simp only [Exit.inBlock, Exit.then]); refine bodyPost_ret (by simp [results, Try.results39, go_sem]; try rfl) rfl ?_
  exact ⟨by rw [HX.out], bstep (fresh_below _ _) (fresh_below _ _)⟩
theorem with_5 (t : Tup) (ht : t.Ok) (a b : Int) (w : World) (ha : 0 ≤ a ∧ a ≤ 255) (hb : 0 ≤ b ∧ b ≤ 255) (hk : a % 13 = 5) :
    Calls Try.prog 39 #[.agg t.cells, .int .u8 a, .int .u8 b] w (Ret (.agg (t.put b 5).cells) w) := by
  obtain ⟨⟨p0, p1⟩, ⟨si0, si1⟩, ⟨sp0, sp1⟩, ⟨di0, di1⟩, ⟨dp0, dp1⟩⟩ := ht
  obtain ⟨a0, a1⟩ := ha
  obtain ⟨b0, b1⟩ := hb
  have hx : bits .xor .u16 t.sp b = xor_ t.sp (b * 1) := by rw [xor_u16 (by omega) (by omega)]; simp
  have HX := hide hx
  clear hx
  unfold Tup.cells
  dsimp only [Tup.put]
  go_enter Try.func39, Try.ntmps39
  go_wp2_with fail
  (try simp only [Exit.inBlock, Exit.then]); refine bodyPost_ret (by simp [results, Try.results39, go_sem]; try rfl) rfl ?_
  exact ⟨by rw [HX.out], bstep (fresh_below _ _) (fresh_below _ _)⟩
theorem with_6 (t : Tup) (ht : t.Ok) (a b : Int) (w : World) (ha : 0 ≤ a ∧ a ≤ 255) (hb : 0 ≤ b ∧ b ≤ 255) (hk : a % 13 = 6) :
    Calls Try.prog 39 #[.agg t.cells, .int .u8 a, .int .u8 b] w (Ret (.agg (t.put b 6).cells) w) := by
  obtain ⟨⟨p0, p1⟩, ⟨si0, si1⟩, ⟨sp0, sp1⟩, ⟨di0, di1⟩, ⟨dp0, dp1⟩⟩ := ht
  obtain ⟨a0, a1⟩ := ha
  obtain ⟨b0, b1⟩ := hb
  have hx : bits .xor .u16 t.sp (b * 256) = xor_ t.sp (b * 256) := by rw [xor_u16 (by omega) (by omega)]
  have HX := hide hx
  clear hx
  unfold Tup.cells
  dsimp only [Tup.put]
  go_enter Try.func39, Try.ntmps39
  go_wp2_with fail
  (try simp only [Exit.inBlock, Exit.then]); refine bodyPost_ret (by simp [results, Try.results39, go_sem]; try rfl) rfl ?_
  exact ⟨by rw [HX.out], bstep (fresh_below _ _) (fresh_below _ _)⟩
theorem with_7 (t : Tup) (ht : t.Ok) (a b : Int) (w : World) (ha : 0 ≤ a ∧ a ≤ 255) (hb : 0 ≤ b ∧ b ≤ 255) (hk : a % 13 = 7) :
    Calls Try.prog 39 #[.agg t.cells, .int .u8 a, .int .u8 b] w (Ret (.agg (t.put b 7).cells) w) := by
  obtain ⟨⟨p0, p1⟩, ⟨si0, si1⟩, ⟨sp0, sp1⟩, ⟨di0, di1⟩, ⟨dp0, dp1⟩⟩ := ht
  obtain ⟨a0, a1⟩ := ha
  obtain ⟨b0, b1⟩ := hb
  have hx : bits .xor .u32 t.di b = xor_ t.di (b * 1) := by rw [xor_u32 (by omega) (by omega)]; simp
  have HX := hide hx
  clear hx
  unfold Tup.cells
  dsimp only [Tup.put]
  go_enter Try.func39, Try.ntmps39
  go_wp2_with fail
  (try simp only [Exit.inBlock, Exit.then]); refine bodyPost_ret (by simp [results, Try.results39, go_sem]; try rfl) rfl ?_
  exact ⟨by rw [HX.out], bstep (fresh_below _ _) (fresh_below _ _)⟩
theorem with_8 (t : Tup) (ht : t.Ok) (a b : Int) (w : World) (ha : 0 ≤ a ∧ a ≤ 255) (hb : 0 ≤ b ∧ b ≤ 255) (hk : a % 13 = 8) :
    Calls Try.prog 39 #[.agg t.cells, .int .u8 a, .int .u8 b] w (Ret (.agg (t.put b 8).cells) w) := by
  obtain ⟨⟨p0, p1⟩, ⟨si0, si1⟩, ⟨sp0, sp1⟩, ⟨di0, di1⟩, ⟨dp0, dp1⟩⟩ := ht
  obtain ⟨a0, a1⟩ := ha
  obtain ⟨b0, b1⟩ := hb
  have hx : bits .xor .u32 t.di (b * 256) = xor_ t.di (b * 256) := by rw [xor_u32 (by omega) (by omega)]
  have HX := hide hx
  clear hx
  unfold Tup.cells
  dsimp only [Tup.put]
  go_enter Try.func39, Try.ntmps39
  go_wp2_with fail
  (try simp only [Exit.inBlock, Exit.then]); refine bodyPost_ret (by simp [results, Try.results39, go_sem]; try rfl) rfl ?_
  exact ⟨by rw [HX.out], bstep (fresh_below _ _) (fresh_below _ _)⟩
theorem with_9 (t : Tup) (ht : t.Ok) (a b : Int) (w : World) (ha : 0 ≤ a ∧ a ≤ 255) (hb : 0 ≤ b ∧ b ≤ 255) (hk : a % 13 = 9) :
    Calls Try.prog 39 #[.agg t.cells, .int .u8 a, .int .u8 b] w (Ret (.agg (t.put b 9).cells) w) := by
  obtain ⟨⟨p0, p1⟩, ⟨si0, si1⟩, ⟨sp0, sp1⟩, ⟨di0, di1⟩, ⟨dp0, dp1⟩⟩ := ht
  obtain ⟨a0, a1⟩ := ha
  obtain ⟨b0, b1⟩ := hb
  have hx : bits .xor .u32 t.di (b * 65536) = xor_ t.di (b * 65536) := by rw [xor_u32 (by omega) (by omega)]
  have HX := hide hx
  clear hx
  unfold Tup.cells
  dsimp only [Tup.put]
  go_enter Try.func39, Try.ntmps39
  go_wp2_with fail
  (try simp only [Exit.inBlock, Exit.then]); refine bodyPost_ret (by simp [results, Try.results39, go_sem]; try rfl) rfl ?_
  exact ⟨by rw [HX.out], bstep (fresh_below _ _) (fresh_below _ _)⟩
theorem with_10 (t : Tup) (ht : t.Ok) (a b : Int) (w : World) (ha : 0 ≤ a ∧ a ≤ 255) (hb : 0 ≤ b ∧ b ≤ 255) (hk : a % 13 = 10) :
    Calls Try.prog 39 #[.agg t.cells, .int .u8 a, .int .u8 b] w (Ret (.agg (t.put b 10).cells) w) := by
  obtain ⟨⟨p0, p1⟩, ⟨si0, si1⟩, ⟨sp0, sp1⟩, ⟨di0, di1⟩, ⟨dp0, dp1⟩⟩ := ht
  obtain ⟨a0, a1⟩ := ha
  obtain ⟨b0, b1⟩ := hb
  have hx : bits .xor .u32 t.di (b * 16777216) = xor_ t.di (b * 16777216) := by rw [xor_u32 (by omega) (by omega)]
  have HX := hide hx
  clear hx
  unfold Tup.cells
  dsimp only [Tup.put]
  go_enter Try.func39, Try.ntmps39
  go_wp2_with fail
  (try simp only [Exit.inBlock, Exit.then]); refine bodyPost_ret (by simp [results, Try.results39, go_sem]; try rfl) rfl ?_
  exact ⟨by rw [HX.out], bstep (fresh_below _ _) (fresh_below _ _)⟩
theorem with_11 (t : Tup) (ht : t.Ok) (a b : Int) (w : World) (ha : 0 ≤ a ∧ a ≤ 255) (hb : 0 ≤ b ∧ b ≤ 255) (hk : a % 13 = 11) :
    Calls Try.prog 39 #[.agg t.cells, .int .u8 a, .int .u8 b] w (Ret (.agg (t.put b 11).cells) w) := by
  obtain ⟨⟨p0, p1⟩, ⟨si0, si1⟩, ⟨sp0, sp1⟩, ⟨di0, di1⟩, ⟨dp0, dp1⟩⟩ := ht
  obtain ⟨a0, a1⟩ := ha
  obtain ⟨b0, b1⟩ := hb
  have hx : bits .xor .u16 t.dp b = xor_ t.dp (b * 1) := by rw [xor_u16 (by omega) (by omega)]; simp
  have HX := hide hx
  clear hx
  unfold Tup.cells
  dsimp only [Tup.put]
  go_enter Try.func39, Try.ntmps39
  go_wp2_with fail
  (try simp only [Exit.inBlock, Exit.then]); refine bodyPost_ret (by simp [results, Try.results39, go_sem]; try rfl) rfl ?_
  exact ⟨by rw [HX.out], bstep (fresh_below _ _) (fresh_below _ _)⟩
theorem with_12 (t : Tup) (ht : t.Ok) (a b : Int) (w : World) (ha : 0 ≤ a ∧ a ≤ 255) (hb : 0 ≤ b ∧ b ≤ 255) (hk : a % 13 = 12) :
    Calls Try.prog 39 #[.agg t.cells, .int .u8 a, .int .u8 b] w (Ret (.agg (t.put b 12).cells) w) := by
  obtain ⟨⟨p0, p1⟩, ⟨si0, si1⟩, ⟨sp0, sp1⟩, ⟨di0, di1⟩, ⟨dp0, dp1⟩⟩ := ht
  obtain ⟨a0, a1⟩ := ha
  obtain ⟨b0, b1⟩ := hb
  have hx : bits .xor .u16 t.dp (b * 256) = xor_ t.dp (b * 256) := by rw [xor_u16 (by omega) (by omega)]
  have HX := hide hx
  clear hx
  unfold Tup.cells
  dsimp only [Tup.put]
  go_enter Try.func39, Try.ntmps39
  go_wp2_with fail
  (try simp only [Exit.inBlock, Exit.then]); refine bodyPost_ret (by simp [results, Try.results39, go_sem]; try rfl) rfl ?_
  exact ⟨by rw [HX.out], bstep (fresh_below _ _) (fresh_below _ _)⟩

theorem with_any (t : Tup) (ht : t.Ok) (a b : Int) (ha : 0 ≤ a ∧ a ≤ 255) (hb : 0 ≤ b ∧ b ≤ 255) (c : Nat) (hk : a % 13 = c) (hc : c < 13) (w : World) :
    Calls Try.prog 39 #[.agg t.cells, .int .u8 a, .int .u8 b] w (Ret (.agg (t.put b c).cells) w) := by
  match c, hc, hk with
  | 0, _, hk => exact with_0 t ht a b w ha hb hk
  | 1, _, hk => exact with_1 t ht a b w ha hb hk
  | 2, _, hk => exact with_2 t ht a b w ha hb hk
  | 3, _, hk => exact with_3 t ht a b w ha hb hk
  | 4, _, hk => exact with_4 t ht a b w ha hb hk
  | 5, _, hk => exact with_5 t ht a b w ha hb hk
  | 6, _, hk => exact with_6 t ht a b w ha hb hk
  | 7, _, hk => exact with_7 t ht a b w ha hb hk
  | 8, _, hk => exact with_8 t ht a b w ha hb hk
  | 9, _, hk => exact with_9 t ht a b w ha hb hk
  | 10, _, hk => exact with_10 t ht a b w ha hb hk
  | 11, _, hk => exact with_11 t ht a b w ha hb hk
  | 12, _, hk => exact with_12 t ht a b w ha hb hk

/-- the bytes of a number that was changed in one byte -/
theorem byte_xor (n b i j : Nat) (hb : b < 256) : (n ^^^ (b * 2 ^ (8 * j))) / 2 ^ (8 * i) % 2 ^ 8 = if i = j then (n / 2 ^ (8 * i) % 2 ^ 8) ^^^ b else n / 2 ^ (8 * i) % 2 ^ 8 := by
  apply Nat.eq_of_testBit_eq
  intro k
  have hbk : ∀ k, 8 ≤ k → b.testBit k = false := fun k hk => Nat.testBit_lt_two_pow (Nat.lt_of_lt_of_le (show b < 2 ^ 8 from hb) (Nat.pow_le_pow_right (by omega) hk))
  by_cases h : i = j
  · subst h
    rw [if_pos rfl]
    simp only [Nat.testBit_mod_two_pow, Nat.testBit_div_two_pow, Nat.testBit_xor, Nat.testBit_mul_two_pow]
    by_cases hk : k < 8
    · simp [hk]
    · simp [hk, hbk k (by omega)]
  · rw [if_neg h]
    simp only [Nat.testBit_mod_two_pow, Nat.testBit_div_two_pow, Nat.testBit_xor, Nat.testBit_mul_two_pow]
    by_cases hk : k < 8
    · by_cases hl : i < j
      · have : ¬ 8 * j ≤ k + 8 * i := by omega
        simp [hk, this]
      · have : b.testBit (k + 8 * i - 8 * j) = false := hbk _ (by omega)
        simp [hk, this]
    · simp [hk]
theorem byte_int (n b : Int) (i j : Nat) (hn : 0 ≤ n) (hb : 0 ≤ b ∧ b ≤ 255) : xor_ n (b * ((2 ^ (8 * j) : Nat) : Int)) / ((2 ^ (8 * i) : Nat) : Int) % 256 = if i = j then xor_ (n / ((2 ^ (8 * i) : Nat) : Int) % 256) b else n / ((2 ^ (8 * i) : Nat) : Int) % 256 := by
  obtain ⟨x, rfl⟩ : ∃ x : Nat, n = x := ⟨n.toNat, by omega⟩
  obtain ⟨y, rfl⟩ : ∃ x : Nat, b = x := ⟨b.toNat, by omega⟩
  have h := byte_xor x y i j (by omega)
  unfold xor_
  rw [← Int.natCast_mul, ← Int.natCast_ediv, Int.toNat_natCast, Int.toNat_natCast, Int.toNat_natCast, ← Int.natCast_ediv]
  rw [show (256 : Int) = ((2 ^ 8 : Nat) : Int) from rfl, ← Int.natCast_emod, ← Int.natCast_emod, Int.toNat_natCast, h]
  split <;> rfl
theorem xor_ne {x b : Int} (hx : 0 ≤ x) (hb : 0 ≤ b) : x = xor_ x b ↔ b = 0 := by
  obtain ⟨x, rfl⟩ : ∃ k : Nat, x = k := ⟨x.toNat, by omega⟩
  obtain ⟨b, rfl⟩ : ∃ k : Nat, b = k := ⟨b.toNat, by omega⟩
  unfold xor_
  rw [Int.toNat_natCast, Int.toNat_natCast]
  constructor
  · intro h
    have h2 : x = x ^^^ b := by exact_mod_cast h
    have h3 : x ^^^ x = x ^^^ (x ^^^ b) := by rw [← h2]
    rw [← Nat.xor_assoc, Nat.xor_self, Nat.zero_xor] at h3
    omega
  · intro h
    have : b = 0 := by omega
    subst this; simp
end Go.Proofs.Ytcghhnehmddoeaa
