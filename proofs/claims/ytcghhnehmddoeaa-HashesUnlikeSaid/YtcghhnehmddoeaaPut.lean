/- (Plain.) Two tuples that are unlike in one byte, plainly. -/
import Derived.Test.YtcghhnehmddoeaaWith
set_option linter.unusedVariables false
namespace Go.Proofs.Ytcghhnehmddoeaa
open Go.RowKit

theorem all_list (t : Tup) (ht : t.Ok) : t.all = [t.p, t.si / 16777216 % 256, t.si / 65536 % 256, t.si / 256 % 256, t.si / 1 % 256, t.sp / 256 % 256, t.sp / 1 % 256, t.di / 16777216 % 256, t.di / 65536 % 256, t.di / 256 % 256, t.di / 1 % 256, t.dp / 256 % 256, t.dp / 1 % 256] := by
  obtain ⟨⟨p0, p1⟩, ⟨si0, si1⟩, ⟨sp0, sp1⟩, ⟨di0, di1⟩, ⟨dp0, dp1⟩⟩ := ht
  show [t.p, ((byt (t.si / 65536 / 256)).toNat : Int), ((byt (t.si / 65536)).toNat : Int), ((byt (t.si % 65536 / 256)).toNat : Int), ((byt (t.si % 65536)).toNat : Int), ((byt (t.sp / 256)).toNat : Int), ((byt t.sp).toNat : Int),
    ((byt (t.di / 65536 / 256)).toNat : Int), ((byt (t.di / 65536)).toNat : Int), ((byt (t.di % 65536 / 256)).toNat : Int), ((byt (t.di % 65536)).toNat : Int), ((byt (t.dp / 256)).toNat : Int), ((byt t.dp).toNat : Int)] = _
  rw [byt_int _ (show 0 ≤ t.si / 65536 / 256 by omega), byt_int _ (show 0 ≤ t.si / 65536 by omega), byt_int _ (show 0 ≤ t.si % 65536 / 256 by omega), byt_int _ (show 0 ≤ t.si % 65536 by omega), byt_int _ (show 0 ≤ t.sp / 256 by omega), byt_int _ sp0,
    byt_int _ (show 0 ≤ t.di / 65536 / 256 by omega), byt_int _ (show 0 ≤ t.di / 65536 by omega), byt_int _ (show 0 ≤ t.di % 65536 / 256 by omega), byt_int _ (show 0 ≤ t.di % 65536 by omega), byt_int _ (show 0 ≤ t.dp / 256 by omega), byt_int _ dp0]
  simp only [List.cons.injEq, and_true, true_and]
  repeat' apply And.intro
  all_goals omega

theorem num_put_0 (t : Tup) (ht : t.Ok) (b : Int) (hb : 0 ≤ b ∧ b ≤ 255) : (t.num = ({ t with p := xor_ t.p (b * 1) } : Tup).num ↔ b = 0) ∧ ({ t with p := xor_ t.p (b * 1) } : Tup).Ok := by
  have ht' := ht
  obtain ⟨⟨p0, p1⟩, ⟨si0, si1⟩, ⟨sp0, sp1⟩, ⟨di0, di1⟩, ⟨dp0, dp1⟩⟩ := ht
  have hu : ({ t with p := xor_ t.p (b * 1) } : Tup).Ok := ⟨xor_bd8 ⟨p0, p1⟩ ⟨by omega, by omega⟩, ⟨si0, si1⟩, ⟨sp0, sp1⟩, ⟨di0, di1⟩, ⟨dp0, dp1⟩⟩
  refine ⟨?_, hu⟩
  have hl := all_list _ hu
  dsimp only at hl
  have hx : 0 ≤ t.p ∧ t.p ≤ 255 := by omega
  exact (num_one (u := ({ t with p := xor_ t.p (b * 1) } : Tup)) [] [t.si / 16777216 % 256, t.si / 65536 % 256, t.si / 256 % 256, t.si / 1 % 256, t.sp / 256 % 256, t.sp / 1 % 256, t.di / 16777216 % 256, t.di / 65536 % 256, t.di / 256 % 256, t.di / 1 % 256, t.dp / 256 % 256, t.dp / 1 % 256] (all_list t ht') hl hx (xor_bd8 hx (by omega))).trans ((xor_ne hx.1 (by omega)).trans (by omega))
theorem num_put_1 (t : Tup) (ht : t.Ok) (b : Int) (hb : 0 ≤ b ∧ b ≤ 255) : (t.num = ({ t with si := xor_ t.si (b * 1) } : Tup).num ↔ b = 0) ∧ ({ t with si := xor_ t.si (b * 1) } : Tup).Ok := by
  have ht' := ht
  obtain ⟨⟨p0, p1⟩, ⟨si0, si1⟩, ⟨sp0, sp1⟩, ⟨di0, di1⟩, ⟨dp0, dp1⟩⟩ := ht
  have hu : ({ t with si := xor_ t.si (b * 1) } : Tup).Ok := ⟨⟨p0, p1⟩, xor_bd32 ⟨si0, si1⟩ ⟨by omega, by omega⟩, ⟨sp0, sp1⟩, ⟨di0, di1⟩, ⟨dp0, dp1⟩⟩
  refine ⟨?_, hu⟩
  have hl := all_list _ hu
  dsimp only at hl
  have e3 := byte_int t.si b 3 0 si0 hb
  simp only [show ((2 ^ (8 * 0) : Nat) : Int) = 1 from rfl, show ((2 ^ (8 * 3) : Nat) : Int) = 16777216 from rfl, show ¬ ((3 : Nat) = 0) from by decide, if_false] at e3
  have e2 := byte_int t.si b 2 0 si0 hb
  simp only [show ((2 ^ (8 * 0) : Nat) : Int) = 1 from rfl, show ((2 ^ (8 * 2) : Nat) : Int) = 65536 from rfl, show ¬ ((2 : Nat) = 0) from by decide, if_false] at e2
  have e1 := byte_int t.si b 1 0 si0 hb
  simp only [show ((2 ^ (8 * 0) : Nat) : Int) = 1 from rfl, show ((2 ^ (8 * 1) : Nat) : Int) = 256 from rfl, show ¬ ((1 : Nat) = 0) from by decide, if_false] at e1
  have e0 := byte_int t.si b 0 0 si0 hb
  simp only [show ((2 ^ (8 * 0) : Nat) : Int) = 1 from rfl, if_true] at e0
  rw [e3, e2, e1, e0] at hl
  have hx : 0 ≤ t.si / 1 % 256 ∧ t.si / 1 % 256 ≤ 255 := by omega
  exact (num_one (u := ({ t with si := xor_ t.si (b * 1) } : Tup)) [t.p, t.si / 16777216 % 256, t.si / 65536 % 256, t.si / 256 % 256] [t.sp / 256 % 256, t.sp / 1 % 256, t.di / 16777216 % 256, t.di / 65536 % 256, t.di / 256 % 256, t.di / 1 % 256, t.dp / 256 % 256, t.dp / 1 % 256] (all_list t ht') hl hx (xor_bd8 hx hb)).trans (xor_ne hx.1 hb.1)
theorem num_put_2 (t : Tup) (ht : t.Ok) (b : Int) (hb : 0 ≤ b ∧ b ≤ 255) : (t.num = ({ t with si := xor_ t.si (b * 256) } : Tup).num ↔ b = 0) ∧ ({ t with si := xor_ t.si (b * 256) } : Tup).Ok := by
  have ht' := ht
  obtain ⟨⟨p0, p1⟩, ⟨si0, si1⟩, ⟨sp0, sp1⟩, ⟨di0, di1⟩, ⟨dp0, dp1⟩⟩ := ht
  have hu : ({ t with si := xor_ t.si (b * 256) } : Tup).Ok := ⟨⟨p0, p1⟩, xor_bd32 ⟨si0, si1⟩ ⟨by omega, by omega⟩, ⟨sp0, sp1⟩, ⟨di0, di1⟩, ⟨dp0, dp1⟩⟩
  refine ⟨?_, hu⟩
  have hl := all_list _ hu
  dsimp only at hl
  have e3 := byte_int t.si b 3 1 si0 hb
  simp only [show ((2 ^ (8 * 1) : Nat) : Int) = 256 from rfl, show ((2 ^ (8 * 3) : Nat) : Int) = 16777216 from rfl, show ¬ ((3 : Nat) = 1) from by decide, if_false] at e3
  have e2 := byte_int t.si b 2 1 si0 hb
  simp only [show ((2 ^ (8 * 1) : Nat) : Int) = 256 from rfl, show ((2 ^ (8 * 2) : Nat) : Int) = 65536 from rfl, show ¬ ((2 : Nat) = 1) from by decide, if_false] at e2
  have e1 := byte_int t.si b 1 1 si0 hb
  simp only [show ((2 ^ (8 * 1) : Nat) : Int) = 256 from rfl, if_true] at e1
  have e0 := byte_int t.si b 0 1 si0 hb
  simp only [show ((2 ^ (8 * 1) : Nat) : Int) = 256 from rfl, show ((2 ^ (8 * 0) : Nat) : Int) = 1 from rfl, show ¬ ((0 : Nat) = 1) from by decide, if_false] at e0
  rw [e3, e2, e1, e0] at hl
  have hx : 0 ≤ t.si / 256 % 256 ∧ t.si / 256 % 256 ≤ 255 := by omega
  exact (num_one (u := ({ t with si := xor_ t.si (b * 256) } : Tup)) [t.p, t.si / 16777216 % 256, t.si / 65536 % 256] [t.si / 1 % 256, t.sp / 256 % 256, t.sp / 1 % 256, t.di / 16777216 % 256, t.di / 65536 % 256, t.di / 256 % 256, t.di / 1 % 256, t.dp / 256 % 256, t.dp / 1 % 256] (all_list t ht') hl hx (xor_bd8 hx hb)).trans (xor_ne hx.1 hb.1)
theorem num_put_3 (t : Tup) (ht : t.Ok) (b : Int) (hb : 0 ≤ b ∧ b ≤ 255) : (t.num = ({ t with si := xor_ t.si (b * 65536) } : Tup).num ↔ b = 0) ∧ ({ t with si := xor_ t.si (b * 65536) } : Tup).Ok := by
  have ht' := ht
  obtain ⟨⟨p0, p1⟩, ⟨si0, si1⟩, ⟨sp0, sp1⟩, ⟨di0, di1⟩, ⟨dp0, dp1⟩⟩ := ht
  have hu : ({ t with si := xor_ t.si (b * 65536) } : Tup).Ok := ⟨⟨p0, p1⟩, xor_bd32 ⟨si0, si1⟩ ⟨by omega, by omega⟩, ⟨sp0, sp1⟩, ⟨di0, di1⟩, ⟨dp0, dp1⟩⟩
  refine ⟨?_, hu⟩
  have hl := all_list _ hu
  dsimp only at hl
  have e3 := byte_int t.si b 3 2 si0 hb
  simp only [show ((2 ^ (8 * 2) : Nat) : Int) = 65536 from rfl, show ((2 ^ (8 * 3) : Nat) : Int) = 16777216 from rfl, show ¬ ((3 : Nat) = 2) from by decide, if_false] at e3
  have e2 := byte_int t.si b 2 2 si0 hb
  simp only [show ((2 ^ (8 * 2) : Nat) : Int) = 65536 from rfl, if_true] at e2
  have e1 := byte_int t.si b 1 2 si0 hb
  simp only [show ((2 ^ (8 * 2) : Nat) : Int) = 65536 from rfl, show ((2 ^ (8 * 1) : Nat) : Int) = 256 from rfl, show ¬ ((1 : Nat) = 2) from by decide, if_false] at e1
  have e0 := byte_int t.si b 0 2 si0 hb
  simp only [show ((2 ^ (8 * 2) : Nat) : Int) = 65536 from rfl, show ((2 ^ (8 * 0) : Nat) : Int) = 1 from rfl, show ¬ ((0 : Nat) = 2) from by decide, if_false] at e0
  rw [e3, e2, e1, e0] at hl
  have hx : 0 ≤ t.si / 65536 % 256 ∧ t.si / 65536 % 256 ≤ 255 := by omega
  exact (num_one (u := ({ t with si := xor_ t.si (b * 65536) } : Tup)) [t.p, t.si / 16777216 % 256] [t.si / 256 % 256, t.si / 1 % 256, t.sp / 256 % 256, t.sp / 1 % 256, t.di / 16777216 % 256, t.di / 65536 % 256, t.di / 256 % 256, t.di / 1 % 256, t.dp / 256 % 256, t.dp / 1 % 256] (all_list t ht') hl hx (xor_bd8 hx hb)).trans (xor_ne hx.1 hb.1)
theorem num_put_4 (t : Tup) (ht : t.Ok) (b : Int) (hb : 0 ≤ b ∧ b ≤ 255) : (t.num = ({ t with si := xor_ t.si (b * 16777216) } : Tup).num ↔ b = 0) ∧ ({ t with si := xor_ t.si (b * 16777216) } : Tup).Ok := by
  have ht' := ht
  obtain ⟨⟨p0, p1⟩, ⟨si0, si1⟩, ⟨sp0, sp1⟩, ⟨di0, di1⟩, ⟨dp0, dp1⟩⟩ := ht
  have hu : ({ t with si := xor_ t.si (b * 16777216) } : Tup).Ok := ⟨⟨p0, p1⟩, xor_bd32 ⟨si0, si1⟩ ⟨by omega, by omega⟩, ⟨sp0, sp1⟩, ⟨di0, di1⟩, ⟨dp0, dp1⟩⟩
  refine ⟨?_, hu⟩
  have hl := all_list _ hu
  dsimp only at hl
  have e3 := byte_int t.si b 3 3 si0 hb
  simp only [show ((2 ^ (8 * 3) : Nat) : Int) = 16777216 from rfl, if_true] at e3
  have e2 := byte_int t.si b 2 3 si0 hb
  simp only [show ((2 ^ (8 * 3) : Nat) : Int) = 16777216 from rfl, show ((2 ^ (8 * 2) : Nat) : Int) = 65536 from rfl, show ¬ ((2 : Nat) = 3) from by decide, if_false] at e2
  have e1 := byte_int t.si b 1 3 si0 hb
  simp only [show ((2 ^ (8 * 3) : Nat) : Int) = 16777216 from rfl, show ((2 ^ (8 * 1) : Nat) : Int) = 256 from rfl, show ¬ ((1 : Nat) = 3) from by decide, if_false] at e1
  have e0 := byte_int t.si b 0 3 si0 hb
  simp only [show ((2 ^ (8 * 3) : Nat) : Int) = 16777216 from rfl, show ((2 ^ (8 * 0) : Nat) : Int) = 1 from rfl, show ¬ ((0 : Nat) = 3) from by decide, if_false] at e0
  rw [e3, e2, e1, e0] at hl
  have hx : 0 ≤ t.si / 16777216 % 256 ∧ t.si / 16777216 % 256 ≤ 255 := by omega
  exact (num_one (u := ({ t with si := xor_ t.si (b * 16777216) } : Tup)) [t.p] [t.si / 65536 % 256, t.si / 256 % 256, t.si / 1 % 256, t.sp / 256 % 256, t.sp / 1 % 256, t.di / 16777216 % 256, t.di / 65536 % 256, t.di / 256 % 256, t.di / 1 % 256, t.dp / 256 % 256, t.dp / 1 % 256] (all_list t ht') hl hx (xor_bd8 hx hb)).trans (xor_ne hx.1 hb.1)
theorem num_put_5 (t : Tup) (ht : t.Ok) (b : Int) (hb : 0 ≤ b ∧ b ≤ 255) : (t.num = ({ t with sp := xor_ t.sp (b * 1) } : Tup).num ↔ b = 0) ∧ ({ t with sp := xor_ t.sp (b * 1) } : Tup).Ok := by
  have ht' := ht
  obtain ⟨⟨p0, p1⟩, ⟨si0, si1⟩, ⟨sp0, sp1⟩, ⟨di0, di1⟩, ⟨dp0, dp1⟩⟩ := ht
  have hu : ({ t with sp := xor_ t.sp (b * 1) } : Tup).Ok := ⟨⟨p0, p1⟩, ⟨si0, si1⟩, xor_bd16 ⟨sp0, sp1⟩ ⟨by omega, by omega⟩, ⟨di0, di1⟩, ⟨dp0, dp1⟩⟩
  refine ⟨?_, hu⟩
  have hl := all_list _ hu
  dsimp only at hl
  have e1 := byte_int t.sp b 1 0 sp0 hb
  simp only [show ((2 ^ (8 * 0) : Nat) : Int) = 1 from rfl, show ((2 ^ (8 * 1) : Nat) : Int) = 256 from rfl, show ¬ ((1 : Nat) = 0) from by decide, if_false] at e1
  have e0 := byte_int t.sp b 0 0 sp0 hb
  simp only [show ((2 ^ (8 * 0) : Nat) : Int) = 1 from rfl, if_true] at e0
  rw [e1, e0] at hl
  have hx : 0 ≤ t.sp / 1 % 256 ∧ t.sp / 1 % 256 ≤ 255 := by omega
  exact (num_one (u := ({ t with sp := xor_ t.sp (b * 1) } : Tup)) [t.p, t.si / 16777216 % 256, t.si / 65536 % 256, t.si / 256 % 256, t.si / 1 % 256, t.sp / 256 % 256] [t.di / 16777216 % 256, t.di / 65536 % 256, t.di / 256 % 256, t.di / 1 % 256, t.dp / 256 % 256, t.dp / 1 % 256] (all_list t ht') hl hx (xor_bd8 hx hb)).trans (xor_ne hx.1 hb.1)
theorem num_put_6 (t : Tup) (ht : t.Ok) (b : Int) (hb : 0 ≤ b ∧ b ≤ 255) : (t.num = ({ t with sp := xor_ t.sp (b * 256) } : Tup).num ↔ b = 0) ∧ ({ t with sp := xor_ t.sp (b * 256) } : Tup).Ok := by
  have ht' := ht
  obtain ⟨⟨p0, p1⟩, ⟨si0, si1⟩, ⟨sp0, sp1⟩, ⟨di0, di1⟩, ⟨dp0, dp1⟩⟩ := ht
  have hu : ({ t with sp := xor_ t.sp (b * 256) } : Tup).Ok := ⟨⟨p0, p1⟩, ⟨si0, si1⟩, xor_bd16 ⟨sp0, sp1⟩ ⟨by omega, by omega⟩, ⟨di0, di1⟩, ⟨dp0, dp1⟩⟩
  refine ⟨?_, hu⟩
  have hl := all_list _ hu
  dsimp only at hl
  have e1 := byte_int t.sp b 1 1 sp0 hb
  simp only [show ((2 ^ (8 * 1) : Nat) : Int) = 256 from rfl, if_true] at e1
  have e0 := byte_int t.sp b 0 1 sp0 hb
  simp only [show ((2 ^ (8 * 1) : Nat) : Int) = 256 from rfl, show ((2 ^ (8 * 0) : Nat) : Int) = 1 from rfl, show ¬ ((0 : Nat) = 1) from by decide, if_false] at e0
  rw [e1, e0] at hl
  have hx : 0 ≤ t.sp / 256 % 256 ∧ t.sp / 256 % 256 ≤ 255 := by omega
  exact (num_one (u := ({ t with sp := xor_ t.sp (b * 256) } : Tup)) [t.p, t.si / 16777216 % 256, t.si / 65536 % 256, t.si / 256 % 256, t.si / 1 % 256] [t.sp / 1 % 256, t.di / 16777216 % 256, t.di / 65536 % 256, t.di / 256 % 256, t.di / 1 % 256, t.dp / 256 % 256, t.dp / 1 % 256] (all_list t ht') hl hx (xor_bd8 hx hb)).trans (xor_ne hx.1 hb.1)
theorem num_put_7 (t : Tup) (ht : t.Ok) (b : Int) (hb : 0 ≤ b ∧ b ≤ 255) : (t.num = ({ t with di := xor_ t.di (b * 1) } : Tup).num ↔ b = 0) ∧ ({ t with di := xor_ t.di (b * 1) } : Tup).Ok := by
  have ht' := ht
  obtain ⟨⟨p0, p1⟩, ⟨si0, si1⟩, ⟨sp0, sp1⟩, ⟨di0, di1⟩, ⟨dp0, dp1⟩⟩ := ht
  have hu : ({ t with di := xor_ t.di (b * 1) } : Tup).Ok := ⟨⟨p0, p1⟩, ⟨si0, si1⟩, ⟨sp0, sp1⟩, xor_bd32 ⟨di0, di1⟩ ⟨by omega, by omega⟩, ⟨dp0, dp1⟩⟩
  refine ⟨?_, hu⟩
  have hl := all_list _ hu
  dsimp only at hl
  have e3 := byte_int t.di b 3 0 di0 hb
  simp only [show ((2 ^ (8 * 0) : Nat) : Int) = 1 from rfl, show ((2 ^ (8 * 3) : Nat) : Int) = 16777216 from rfl, show ¬ ((3 : Nat) = 0) from by decide, if_false] at e3
  have e2 := byte_int t.di b 2 0 di0 hb
  simp only [show ((2 ^ (8 * 0) : Nat) : Int) = 1 from rfl, show ((2 ^ (8 * 2) : Nat) : Int) = 65536 from rfl, show ¬ ((2 : Nat) = 0) from by decide, if_false] at e2
  have e1 := byte_int t.di b 1 0 di0 hb
  simp only [show ((2 ^ (8 * 0) : Nat) : Int) = 1 from rfl, show ((2 ^ (8 * 1) : Nat) : Int) = 256 from rfl, show ¬ ((1 : Nat) = 0) from by decide, if_false] at e1
  have e0 := byte_int t.di b 0 0 di0 hb
  simp only [show ((2 ^ (8 * 0) : Nat) : Int) = 1 from rfl, if_true] at e0
  rw [e3, e2, e1, e0] at hl
  have hx : 0 ≤ t.di / 1 % 256 ∧ t.di / 1 % 256 ≤ 255 := by omega
  exact (num_one (u := ({ t with di := xor_ t.di (b * 1) } : Tup)) [t.p, t.si / 16777216 % 256, t.si / 65536 % 256, t.si / 256 % 256, t.si / 1 % 256, t.sp / 256 % 256, t.sp / 1 % 256, t.di / 16777216 % 256, t.di / 65536 % 256, t.di / 256 % 256] [t.dp / 256 % 256, t.dp / 1 % 256] (all_list t ht') hl hx (xor_bd8 hx hb)).trans (xor_ne hx.1 hb.1)
theorem num_put_8 (t : Tup) (ht : t.Ok) (b : Int) (hb : 0 ≤ b ∧ b ≤ 255) : (t.num = ({ t with di := xor_ t.di (b * 256) } : Tup).num ↔ b = 0) ∧ ({ t with di := xor_ t.di (b * 256) } : Tup).Ok := by
  have ht' := ht
  obtain ⟨⟨p0, p1⟩, ⟨si0, si1⟩, ⟨sp0, sp1⟩, ⟨di0, di1⟩, ⟨dp0, dp1⟩⟩ := ht
  have hu : ({ t with di := xor_ t.di (b * 256) } : Tup).Ok := ⟨⟨p0, p1⟩, ⟨si0, si1⟩, ⟨sp0, sp1⟩, xor_bd32 ⟨di0, di1⟩ ⟨by omega, by omega⟩, ⟨dp0, dp1⟩⟩
  refine ⟨?_, hu⟩
  have hl := all_list _ hu
  dsimp only at hl
  have e3 := byte_int t.di b 3 1 di0 hb
  simp only [show ((2 ^ (8 * 1) : Nat) : Int) = 256 from rfl, show ((2 ^ (8 * 3) : Nat) : Int) = 16777216 from rfl, show ¬ ((3 : Nat) = 1) from by decide, if_false] at e3
  have e2 := byte_int t.di b 2 1 di0 hb
  simp only [show ((2 ^ (8 * 1) : Nat) : Int) = 256 from rfl, show ((2 ^ (8 * 2) : Nat) : Int) = 65536 from rfl, show ¬ ((2 : Nat) = 1) from by decide, if_false] at e2
  have e1 := byte_int t.di b 1 1 di0 hb
  simp only [show ((2 ^ (8 * 1) : Nat) : Int) = 256 from rfl, if_true] at e1
  have e0 := byte_int t.di b 0 1 di0 hb
  simp only [show ((2 ^ (8 * 1) : Nat) : Int) = 256 from rfl, show ((2 ^ (8 * 0) : Nat) : Int) = 1 from rfl, show ¬ ((0 : Nat) = 1) from by decide, if_false] at e0
  rw [e3, e2, e1, e0] at hl
  have hx : 0 ≤ t.di / 256 % 256 ∧ t.di / 256 % 256 ≤ 255 := by omega
  exact (num_one (u := ({ t with di := xor_ t.di (b * 256) } : Tup)) [t.p, t.si / 16777216 % 256, t.si / 65536 % 256, t.si / 256 % 256, t.si / 1 % 256, t.sp / 256 % 256, t.sp / 1 % 256, t.di / 16777216 % 256, t.di / 65536 % 256] [t.di / 1 % 256, t.dp / 256 % 256, t.dp / 1 % 256] (all_list t ht') hl hx (xor_bd8 hx hb)).trans (xor_ne hx.1 hb.1)
theorem num_put_9 (t : Tup) (ht : t.Ok) (b : Int) (hb : 0 ≤ b ∧ b ≤ 255) : (t.num = ({ t with di := xor_ t.di (b * 65536) } : Tup).num ↔ b = 0) ∧ ({ t with di := xor_ t.di (b * 65536) } : Tup).Ok := by
  have ht' := ht
  obtain ⟨⟨p0, p1⟩, ⟨si0, si1⟩, ⟨sp0, sp1⟩, ⟨di0, di1⟩, ⟨dp0, dp1⟩⟩ := ht
  have hu : ({ t with di := xor_ t.di (b * 65536) } : Tup).Ok := ⟨⟨p0, p1⟩, ⟨si0, si1⟩, ⟨sp0, sp1⟩, xor_bd32 ⟨di0, di1⟩ ⟨by omega, by omega⟩, ⟨dp0, dp1⟩⟩
  refine ⟨?_, hu⟩
  have hl := all_list _ hu
  dsimp only at hl
  have e3 := byte_int t.di b 3 2 di0 hb
  simp only [show ((2 ^ (8 * 2) : Nat) : Int) = 65536 from rfl, show ((2 ^ (8 * 3) : Nat) : Int) = 16777216 from rfl, show ¬ ((3 : Nat) = 2) from by decide, if_false] at e3
  have e2 := byte_int t.di b 2 2 di0 hb
  simp only [show ((2 ^ (8 * 2) : Nat) : Int) = 65536 from rfl, if_true] at e2
  have e1 := byte_int t.di b 1 2 di0 hb
  simp only [show ((2 ^ (8 * 2) : Nat) : Int) = 65536 from rfl, show ((2 ^ (8 * 1) : Nat) : Int) = 256 from rfl, show ¬ ((1 : Nat) = 2) from by decide, if_false] at e1
  have e0 := byte_int t.di b 0 2 di0 hb
  simp only [show ((2 ^ (8 * 2) : Nat) : Int) = 65536 from rfl, show ((2 ^ (8 * 0) : Nat) : Int) = 1 from rfl, show ¬ ((0 : Nat) = 2) from by decide, if_false] at e0
  rw [e3, e2, e1, e0] at hl
  have hx : 0 ≤ t.di / 65536 % 256 ∧ t.di / 65536 % 256 ≤ 255 := by omega
  exact (num_one (u := ({ t with di := xor_ t.di (b * 65536) } : Tup)) [t.p, t.si / 16777216 % 256, t.si / 65536 % 256, t.si / 256 % 256, t.si / 1 % 256, t.sp / 256 % 256, t.sp / 1 % 256, t.di / 16777216 % 256] [t.di / 256 % 256, t.di / 1 % 256, t.dp / 256 % 256, t.dp / 1 % 256] (all_list t ht') hl hx (xor_bd8 hx hb)).trans (xor_ne hx.1 hb.1)
theorem num_put_10 (t : Tup) (ht : t.Ok) (b : Int) (hb : 0 ≤ b ∧ b ≤ 255) : (t.num = ({ t with di := xor_ t.di (b * 16777216) } : Tup).num ↔ b = 0) ∧ ({ t with di := xor_ t.di (b * 16777216) } : Tup).Ok := by
  have ht' := ht
  obtain ⟨⟨p0, p1⟩, ⟨si0, si1⟩, ⟨sp0, sp1⟩, ⟨di0, di1⟩, ⟨dp0, dp1⟩⟩ := ht
  have hu : ({ t with di := xor_ t.di (b * 16777216) } : Tup).Ok := ⟨⟨p0, p1⟩, ⟨si0, si1⟩, ⟨sp0, sp1⟩, xor_bd32 ⟨di0, di1⟩ ⟨by omega, by omega⟩, ⟨dp0, dp1⟩⟩
  refine ⟨?_, hu⟩
  have hl := all_list _ hu
  dsimp only at hl
  have e3 := byte_int t.di b 3 3 di0 hb
  simp only [show ((2 ^ (8 * 3) : Nat) : Int) = 16777216 from rfl, if_true] at e3
  have e2 := byte_int t.di b 2 3 di0 hb
  simp only [show ((2 ^ (8 * 3) : Nat) : Int) = 16777216 from rfl, show ((2 ^ (8 * 2) : Nat) : Int) = 65536 from rfl, show ¬ ((2 : Nat) = 3) from by decide, if_false] at e2
  have e1 := byte_int t.di b 1 3 di0 hb
  simp only [show ((2 ^ (8 * 3) : Nat) : Int) = 16777216 from rfl, show ((2 ^ (8 * 1) : Nat) : Int) = 256 from rfl, show ¬ ((1 : Nat) = 3) from by decide, if_false] at e1
  have e0 := byte_int t.di b 0 3 di0 hb
  simp only [show ((2 ^ (8 * 3) : Nat) : Int) = 16777216 from rfl, show ((2 ^ (8 * 0) : Nat) : Int) = 1 from rfl, show ¬ ((0 : Nat) = 3) from by decide, if_false] at e0
  rw [e3, e2, e1, e0] at hl
  have hx : 0 ≤ t.di / 16777216 % 256 ∧ t.di / 16777216 % 256 ≤ 255 := by omega
  exact (num_one (u := ({ t with di := xor_ t.di (b * 16777216) } : Tup)) [t.p, t.si / 16777216 % 256, t.si / 65536 % 256, t.si / 256 % 256, t.si / 1 % 256, t.sp / 256 % 256, t.sp / 1 % 256] [t.di / 65536 % 256, t.di / 256 % 256, t.di / 1 % 256, t.dp / 256 % 256, t.dp / 1 % 256] (all_list t ht') hl hx (xor_bd8 hx hb)).trans (xor_ne hx.1 hb.1)
theorem num_put_11 (t : Tup) (ht : t.Ok) (b : Int) (hb : 0 ≤ b ∧ b ≤ 255) : (t.num = ({ t with dp := xor_ t.dp (b * 1) } : Tup).num ↔ b = 0) ∧ ({ t with dp := xor_ t.dp (b * 1) } : Tup).Ok := by
  have ht' := ht
  obtain ⟨⟨p0, p1⟩, ⟨si0, si1⟩, ⟨sp0, sp1⟩, ⟨di0, di1⟩, ⟨dp0, dp1⟩⟩ := ht
  have hu : ({ t with dp := xor_ t.dp (b * 1) } : Tup).Ok := ⟨⟨p0, p1⟩, ⟨si0, si1⟩, ⟨sp0, sp1⟩, ⟨di0, di1⟩, xor_bd16 ⟨dp0, dp1⟩ ⟨by omega, by omega⟩⟩
  refine ⟨?_, hu⟩
  have hl := all_list _ hu
  dsimp only at hl
  have e1 := byte_int t.dp b 1 0 dp0 hb
  simp only [show ((2 ^ (8 * 0) : Nat) : Int) = 1 from rfl, show ((2 ^ (8 * 1) : Nat) : Int) = 256 from rfl, show ¬ ((1 : Nat) = 0) from by decide, if_false] at e1
  have e0 := byte_int t.dp b 0 0 dp0 hb
  simp only [show ((2 ^ (8 * 0) : Nat) : Int) = 1 from rfl, if_true] at e0
  rw [e1, e0] at hl
  have hx : 0 ≤ t.dp / 1 % 256 ∧ t.dp / 1 % 256 ≤ 255 := by omega
  exact (num_one (u := ({ t with dp := xor_ t.dp (b * 1) } : Tup)) [t.p, t.si / 16777216 % 256, t.si / 65536 % 256, t.si / 256 % 256, t.si / 1 % 256, t.sp / 256 % 256, t.sp / 1 % 256, t.di / 16777216 % 256, t.di / 65536 % 256, t.di / 256 % 256, t.di / 1 % 256, t.dp / 256 % 256] [] (all_list t ht') hl hx (xor_bd8 hx hb)).trans (xor_ne hx.1 hb.1)
theorem num_put_12 (t : Tup) (ht : t.Ok) (b : Int) (hb : 0 ≤ b ∧ b ≤ 255) : (t.num = ({ t with dp := xor_ t.dp (b * 256) } : Tup).num ↔ b = 0) ∧ ({ t with dp := xor_ t.dp (b * 256) } : Tup).Ok := by
  have ht' := ht
  obtain ⟨⟨p0, p1⟩, ⟨si0, si1⟩, ⟨sp0, sp1⟩, ⟨di0, di1⟩, ⟨dp0, dp1⟩⟩ := ht
  have hu : ({ t with dp := xor_ t.dp (b * 256) } : Tup).Ok := ⟨⟨p0, p1⟩, ⟨si0, si1⟩, ⟨sp0, sp1⟩, ⟨di0, di1⟩, xor_bd16 ⟨dp0, dp1⟩ ⟨by omega, by omega⟩⟩
  refine ⟨?_, hu⟩
  have hl := all_list _ hu
  dsimp only at hl
  have e1 := byte_int t.dp b 1 1 dp0 hb
  simp only [show ((2 ^ (8 * 1) : Nat) : Int) = 256 from rfl, if_true] at e1
  have e0 := byte_int t.dp b 0 1 dp0 hb
  simp only [show ((2 ^ (8 * 1) : Nat) : Int) = 256 from rfl, show ((2 ^ (8 * 0) : Nat) : Int) = 1 from rfl, show ¬ ((0 : Nat) = 1) from by decide, if_false] at e0
  rw [e1, e0] at hl
  have hx : 0 ≤ t.dp / 256 % 256 ∧ t.dp / 256 % 256 ≤ 255 := by omega
  exact (num_one (u := ({ t with dp := xor_ t.dp (b * 256) } : Tup)) [t.p, t.si / 16777216 % 256, t.si / 65536 % 256, t.si / 256 % 256, t.si / 1 % 256, t.sp / 256 % 256, t.sp / 1 % 256, t.di / 16777216 % 256, t.di / 65536 % 256, t.di / 256 % 256, t.di / 1 % 256] [t.dp / 1 % 256] (all_list t ht') hl hx (xor_bd8 hx hb)).trans (xor_ne hx.1 hb.1)
theorem num_put (t : Tup) (ht : t.Ok) (b : Int) (hb : 0 ≤ b ∧ b ≤ 255) (c : Nat) (hc : c < 13) : (t.num = (t.put b c).num ↔ b = 0) ∧ (t.put b c).Ok := by
  match c, hc with
  | 0, _ => exact num_put_0 t ht b hb
  | 1, _ => exact num_put_1 t ht b hb
  | 2, _ => exact num_put_2 t ht b hb
  | 3, _ => exact num_put_3 t ht b hb
  | 4, _ => exact num_put_4 t ht b hb
  | 5, _ => exact num_put_5 t ht b hb
  | 6, _ => exact num_put_6 t ht b hb
  | 7, _ => exact num_put_7 t ht b hb
  | 8, _ => exact num_put_8 t ht b hb
  | 9, _ => exact num_put_9 t ht b hb
  | 10, _ => exact num_put_10 t ht b hb
  | 11, _ => exact num_put_11 t ht b hb
  | 12, _ => exact num_put_12 t ht b hb
end Go.Proofs.Ytcghhnehmddoeaa
