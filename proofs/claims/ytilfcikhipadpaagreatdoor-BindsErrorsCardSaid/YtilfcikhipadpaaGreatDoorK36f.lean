/- Several texts of this claim, one behind the other. -/
import Derived.Test.YtilfcikhipadpaaGreatDoorK35d

section
/- icmp.Put over this program, and the chapter's examples. -/
set_option linter.unusedVariables false
namespace Go.Proofs.YtilfcikhipadpaaGreatDoor
open Go.RowKit Go.Maps
attribute [local go_sem] Oper.semAt_some

end Go.Proofs.YtilfcikhipadpaaGreatDoor
end

section
/- IcmpBack walked: it returns true and leaves what lay there as it lay. -/
set_option linter.unusedVariables false
namespace Go.Proofs.YtilfcikhipadpaaGreatDoor
open Go.RowKit Go.Maps
attribute [local go_sem] Oper.semAt_some

theorem msgPut_length (m : Msg) : (msgPut m).length = 4 + m.r.size + m.d.size := by
  unfold msgPut; simp [put16, L_length]; omega
theorem msg_put_parse {m : Msg} (ho : m.Ok) (h : m.r.size = 4) : msgOf (S (msgPut m)) = m := by
  obtain ⟨⟨t0, t1⟩, ⟨c0, c1⟩, ⟨n0, n1⟩, hr, hd⟩ := ho
  obtain ⟨t, c, n, r, d⟩ := m
  simp only at t0 t1 c0 c1 n0 n1 h
  have hl : (S (msgPut ⟨t, c, n, r, d⟩)).size = 8 + d.size := by rw [S_size, msgPut_length]; simp only; omega
  have e0 : at_ (msgPut ⟨t, c, n, r, d⟩) 0 = t := by
    show ((byt t).toNat : Int) = t
    rw [byt_int _ t0]; omega
  have e1 : at_ (msgPut ⟨t, c, n, r, d⟩) 1 = c := by
    show ((byt c).toNat : Int) = c
    rw [byt_int _ c0]; omega
  have e2 : be16 (msgPut ⟨t, c, n, r, d⟩) 2 = n := by
    show be16 ([byt t, byt c] ++ put16 n ++ L r ++ L d) 2 = n
    rw [List.append_assoc, List.append_assoc, be16_right (by simp)]
    exact be16_put n _ n0 n1
  have hd4 : (msgPut ⟨t, c, n, r, d⟩).drop 4 = L r ++ L d := by
    show ([byt t, byt c] ++ put16 n ++ L r ++ L d).drop 4 = _
    rw [List.append_assoc ([byt t, byt c] ++ put16 n)]
    rfl
  have e3 : (S (msgPut ⟨t, c, n, r, d⟩)).extract 4 8 = r := by
    apply L_inj
    rw [L_extract, L_S, hd4, List.take_append_of_le_length (by rw [L_length]; omega), List.take_of_length_le (by rw [L_length]; omega)]
  have e4 : (S (msgPut ⟨t, c, n, r, d⟩)).extract 8 (S (msgPut ⟨t, c, n, r, d⟩)).size = d := by
    apply L_inj
    rw [L_from, L_S, show (8 : Nat) = 4 + 4 from rfl, ← List.drop_drop, hd4, List.drop_append_of_le_length (by rw [L_length]; omega), List.drop_of_length_le (by rw [L_length]; omega), List.nil_append]
  unfold msgOf
  rw [L_S, e0, e1, e2, e3, e4]
end Go.Proofs.YtilfcikhipadpaaGreatDoor
end

section
/- What is seen of a packet that porterref08.Made makes. -/
set_option linter.unusedVariables false
set_option linter.unusedSimpArgs false
namespace Go.Proofs.YtilfcikhipadpaaGreatDoor
open Go.RowKit
theorem be16_eq {P Q : List UInt8} {k : Nat} (h0 : at_ Q k = at_ P k) (h1 : at_ Q (k + 1) = at_ P (k + 1)) : be16 Q k = be16 P k := by unfold be16; rw [h0, h1]
end Go.Proofs.YtilfcikhipadpaaGreatDoor
end

section
/- BindsGoes: its walk. -/
set_option linter.unusedVariables false
set_option linter.unusedSimpArgs false
namespace Go.Proofs.YtilfcikhipadpaaGreatDoor
open Go.RowKit Go.Lib Rx
/-- what is seen, and by what: nothing, or what the packet says -/
theorem see_cases (s : ByteArray) : (∃ e, e ≠ 0 ∧ seeV (seenOf s) (seenWhy s) (inTup s) (emsWhy s) = glanceV seenNone tup0 e) ∨ (seenWhy s = 0 ∧ 1 < (seenOf s).l ∧ ∃ y, seeV (seenOf s) (seenWhy s) (inTup s) (emsWhy s) = glanceV (seenOf s) y 0 ∧ ((seenOf s).k ≠ 3 → y = (seenOf s).t)) := by
  unfold seeV
  by_cases h1 : seenWhy s = 0
  rotate_left
  · exact .inl ⟨_, h1, by rw [if_pos h1]⟩
  rw [if_neg (by omega)]
  by_cases h2 : (seenOf s).l < 2
  · exact .inl ⟨8, by decide, by rw [if_pos h2]⟩
  rw [if_neg h2]
  by_cases h3 : (seenOf s).k = 3
  rotate_left
  · exact .inr ⟨h1, by omega, _, by rw [if_pos h3], fun _ => rfl⟩
  rw [if_neg (by omega)]
  by_cases h4 : emsWhy s = 0
  rotate_left
  · exact .inl ⟨_, h4, by rw [if_pos h4]⟩
  rw [if_neg (by omega)]
  split
  · exact .inl ⟨15, by decide, rfl⟩
  · exact .inr ⟨h1, by omega, _, rfl, fun h => absurd h3 h⟩
theorem loadSeen_is {h : Hd} {l : ByteArray} (hw : loadWhy h.p l = 0) : (0 ≤ h.s ∧ h.s ≤ 4294967295) → (0 ≤ h.d ∧ h.d ≤ 4294967295) → ((loadSeen h l).t.p = 6 ∨ (loadSeen h l).t.p = 17 ∨ ((loadSeen h l).t.p = 1 ∧ ((loadSeen h l).q = true → (loadSeen h l).t.d = 0))) ∧ (0 ≤ (loadSeen h l).t.a ∧ (loadSeen h l).t.a ≤ 4294967295) ∧ (0 ≤ (loadSeen h l).t.b ∧ (loadSeen h l).t.b ≤ 65535) ∧ (0 ≤ (loadSeen h l).t.c ∧ (loadSeen h l).t.c ≤ 4294967295) ∧ (0 ≤ (loadSeen h l).t.d ∧ (loadSeen h l).t.d ≤ 65535) := fun hs hd => by
  have z : (0 : Int) ≤ 0 ∧ (0 : Int) ≤ 65535 := by decide
  have g := fun k : Int => get16_bd (L l) k
  have g2 := fun k : Int => get16_bd (L (msgOf l).r) k
  unfold loadWhy at hw
  unfold loadSeen segOf
  generalize qAsk (msgOf l) = b1 at *
  generalize qIs (msgOf l) = b2 at *
  by_cases h1 : h.p = 6
  · simp only [if_pos h1]; exact ⟨.inl trivial, hs, g 0, hd, g 2⟩
  by_cases h2 : h.p = 17
  · simp only [if_neg h1, if_pos h2]; exact ⟨.inr (.inl trivial), hs, g 0, hd, g 2⟩
  cases b1
  · cases b2
    · simp only [if_neg h1, if_neg h2]; exact ⟨.inr (.inr ⟨rfl, fun _ => rfl⟩), hs, z, hd, z⟩
    · simp only [if_neg h1, if_neg h2]; exact ⟨.inr (.inr ⟨rfl, fun e => by cases e⟩), hs, z, hd, g2 0⟩
  · simp only [if_neg h1, if_neg h2]; exact ⟨.inr (.inr ⟨rfl, fun _ => rfl⟩), hs, g2 0, hd, z⟩
/-- whose packet it is -/
theorem seen_is {s : ByteArray} (h : seenWhy s = 0) : ((seenOf s).t.p = 6 ∨ (seenOf s).t.p = 17 ∨ ((seenOf s).t.p = 1 ∧ ((seenOf s).q = true → (seenOf s).t.d = 0))) ∧ (0 ≤ (seenOf s).t.a ∧ (seenOf s).t.a ≤ 4294967295) ∧ (0 ≤ (seenOf s).t.b ∧ (seenOf s).t.b ≤ 65535) ∧ (0 ≤ (seenOf s).t.c ∧ (seenOf s).t.c ≤ 4294967295) ∧ (0 ≤ (seenOf s).t.d ∧ (seenOf s).t.d ≤ 65535) := by
  have hw : ipWhy s = 0 := Decidable.byContradiction fun hn => hn (by unfold seenWhy at h; rw [if_neg hn] at h; exact h)
  have h1 : loadWhy (hdOf s).p (ipRest s) = 0 := by unfold seenWhy at h; rw [if_pos hw] at h; exact h
  have h2 : seenOf s = loadSeen (hdOf s) (ipRest s) := by unfold seenOf; rw [if_pos h]
  rw [h2]
  exact loadSeen_is h1 (get32_bd _ _) (get32_bd _ _)
@[reducible] def chV (a b c d : Int) : Value := .agg #[.int .u32 a, .int .u16 b, .int .u32 c, .int .u16 d]
@[reducible] def seV (p a b c d k f : Int) (q : Bool) (l : Int) : Value := .tuple #[.agg #[.int .u8 p, .int .u32 a, .int .u16 b, .int .u32 c, .int .u16 d, .int .i64 k, .int .u8 f, .bool q, .int .u8 l], .int .i64 0]
@[reducible] def glV (p a b c d k f : Int) (q : Bool) (l : Int) : Value := .tuple #[.agg #[.int .u8 p, .int .u32 a, .int .u16 b, .int .u32 c, .int .u16 d, .int .i64 k, .int .u8 f, .bool q, .int .u8 l, .int .u8 p, .int .u32 a, .int .u16 b, .int .u32 c, .int .u16 d], .int .i64 0]
/-- a number of a port out of a range -/
theorem port_in {f t b : Int} (hf : 1 ≤ f ∧ f ≤ t ∧ t ≤ 65535) (hb : 0 ≤ b) : ∃ (mm : Nat) (pt : Int), (f ≤ pt ∧ pt ≤ t) ∧ IntKind.wrap .u16 (IntKind.wrap .u16 (t - f) + 1) = Int.ofNat (mm + 1) ∧ IntKind.wrap .u16 (f + b.tmod (Int.ofNat (mm + 1))) = pt := by
  have hm : ((t - f).toNat : Int) = t - f := Int.toNat_of_nonneg (by omega)
  have he : (Int.ofNat ((t - f).toNat + 1) : Int) = t - f + 1 := by show (((t - f).toNat + 1 : Nat) : Int) = _; omega
  have h1 : 0 ≤ b.tmod (Int.ofNat ((t - f).toNat + 1)) := Int.tmod_nonneg _ hb
  have h2 : b.tmod (Int.ofNat ((t - f).toNat + 1)) < Int.ofNat ((t - f).toNat + 1) := Int.tmod_lt_of_pos _ (by rw [he]; omega)
  have h3 : b.tmod (Int.ofNat ((t - f).toNat + 1)) < t - f + 1 := by omega
  clear h2
  refine ⟨(t - f).toNat, f + b.tmod (Int.ofNat ((t - f).toNat + 1)), by omega, ?_, ?_⟩
  · rw [he, IntKind.wrap_u16, IntKind.wrap_u16]; omega
  · rw [IntKind.wrap_u16]; omega
theorem tm_240 (q : Int) (st : Int) : 0 ≤ timeV (flowV q) st ∧ timeV (flowV q) st ≤ 7440 := by
  unfold timeV
  repeat' split
  all_goals omega
theorem first_time {f g : Int} (h : firstV f g = true) : 0 < timeV f 1 := by
  unfold firstV at h
  simp at h
  exact h.1
end Go.Proofs.YtilfcikhipadpaaGreatDoor
end
