/- Several texts of this claim, one behind the other. -/
import Derived.Test.YtilfcikhipadpaaGreatDoorK35c
import Derived.ProofKit
import Derived.LaidMore
import Derived.OpenShut
import Derived.Stop.Joined
import Derived.MakeChecks

section
/- IcmpBack walked: it returns true and leaves what lay there as it lay. -/
set_option linter.unusedVariables false
namespace Go.Proofs.YtilfcikhipadpaaGreatDoor
open Go.RowKit Go.Maps
attribute [local go_sem] Oper.semAt_some

theorem msgPut_length (m : Msg) : (msgPut m).length = 4 + m.r.size + m.d.size := by
  unfold msgPut; simp [put16, L_length]; omega
theorem msg_put_parse {m : Msg} (ho : m.Ok) (h : m.r.size = 4) : msgOf (S (msgPut m)) = m := by
  obtain ⟨⟨t0, t1⟩, ⟨c0, c1⟩, ⟨n0, n1⟩, hr, hd⟩ := ho
  obtain ⟨t, c, n, r, d⟩ := m
  simp only at t0 t1 c0 c1 n0 n1 h
  have hl : (S (msgPut ⟨t, c, n, r, d⟩)).size = 8 + d.size := by rw [S_size, msgPut_length]; simp only; omega
  have e0 : at_ (msgPut ⟨t, c, n, r, d⟩) 0 = t := by
    show ((byt t).toNat : Int) = t
    rw [byt_int _ t0]; omega
  have e1 : at_ (msgPut ⟨t, c, n, r, d⟩) 1 = c := by
    show ((byt c).toNat : Int) = c
    rw [byt_int _ c0]; omega
  have e2 : be16 (msgPut ⟨t, c, n, r, d⟩) 2 = n := by
    show be16 ([byt t, byt c] ++ put16 n ++ L r ++ L d) 2 = n
    rw [List.append_assoc, List.append_assoc, be16_right (by simp)]
    exact be16_put n _ n0 n1
  have hd4 : (msgPut ⟨t, c, n, r, d⟩).drop 4 = L r ++ L d := by
    show ([byt t, byt c] ++ put16 n ++ L r ++ L d).drop 4 = _
    rw [List.append_assoc ([byt t, byt c] ++ put16 n)]
    rfl
  have e3 : (S (msgPut ⟨t, c, n, r, d⟩)).extract 4 8 = r := by
    apply L_inj
    rw [L_extract, L_S, hd4, List.take_append_of_le_length (by rw [L_length]; omega), List.take_of_length_le (by rw [L_length]; omega)]
  have e4 : (S (msgPut ⟨t, c, n, r, d⟩)).extract 8 (S (msgPut ⟨t, c, n, r, d⟩)).size = d := by
    apply L_inj
    rw [L_from, L_S, show (8 : Nat) = 4 + 4 from rfl, ← List.drop_drop, hd4, List.drop_append_of_le_length (by rw [L_length]; omega), List.drop_of_length_le (by rw [L_length]; omega), List.nil_append]
  unfold msgOf
  rw [L_S, e0, e1, e2, e3, e4]
end Go.Proofs.YtilfcikhipadpaaGreatDoor
end

section
/- What is seen of a packet that porterref08.Made makes. -/
set_option linter.unusedVariables false
set_option linter.unusedSimpArgs false
namespace Go.Proofs.YtilfcikhipadpaaGreatDoor
open Go.RowKit
theorem be16_eq {P Q : List UInt8} {k : Nat} (h0 : at_ Q k = at_ P k) (h1 : at_ Q (k + 1) = at_ P (k + 1)) : be16 Q k = be16 P k := by unfold be16; rw [h0, h1]
theorem lay_16 {P : List UInt8} {k i : Nat} {n : Int} (h : k + 2 ≤ P.length) (hi : i + 2 ≤ k ∨ k + 2 ≤ i) : be16 (lay P k n) i = be16 P i := be16_eq (at_lay h (by omega)) (at_lay h (by omega))
theorem putW_16 {a b : Int} {l : List Int} {r : List UInt8} (ha : 0 ≤ a ∧ a ≤ 65535) (hb : 0 ≤ b ∧ b ≤ 65535) : be16 (putW (a :: b :: l) ++ r) 0 = a ∧ be16 (putW (a :: b :: l) ++ r) 2 = b := by
  have e : putW (a :: b :: l) ++ r = put16 a ++ (put16 b ++ (putW l ++ r)) := by simp [putW]
  rw [e]
  refine ⟨be16_put a _ ha.1 ha.2, ?_⟩
  show be16 (put16 b ++ (putW l ++ r)) 0 = b
  exact be16_put b _ hb.1 hb.2
/-- what a load says -/
def LoadSays (p b d : Int) (l1 : ByteArray) : Prop := loadWhy p l1 = 0 ∧ ∀ h : Hd, h.p = p → (loadSeen h l1).t = ⟨p, h.s, b, h.d, d⟩ ∧ (loadSeen h l1).k ≠ 3 ∧ (loadSeen h l1).l = h.l ∧ (p = 1 → (loadSeen h l1).q = false)
theorem loadS (p a b c d f : Int) (data : ByteArray) (hp : p = 6 ∨ p = 17 ∨ (p = 1 ∧ b = 0 ∧ d ≠ 0)) (ha : 0 ≤ a ∧ a ≤ 4294967295) (hb : 0 ≤ b ∧ b ≤ 65535) (hc : 0 ≤ c ∧ c ≤ 4294967295) (hd : 0 ≤ d ∧ d ≤ 65535) (hf : 0 ≤ f ∧ f ≤ 255) (hz : data.size ≤ 1000) :
    ∃ l1 : ByteArray, l1.size ≤ data.size + 20 ∧ LoadSays p b d l1 ∧ ∀ W, Calls Tryz.prog 77 #[.agg #[.int .u8 p, .int .u32 a, .int .u16 b, .int .u32 c, .int .u16 d], .int .u8 f, .string data] W (Ret (.string l1) W) := by
  have hL := L_length data
  rcases hp with rfl | rfl | ⟨rfl, h⟩
  · have ho : (Seg.mk b d 1000 2000 0 f 512 0 0 { data := #[] }).Ok := by
      refine ⟨hb, hd, ?_, ?_, ?_, hf, ?_, ?_, ?_, ?_⟩ <;> (dsimp only; decide)
    have hz1 : ((Seg.mk b d 1000 2000 0 f 512 0 0 { data := #[] }).put data).length = data.size + 20 := by
      unfold Seg.put Seg.head
      simp only [List.length_append, putW_length, put32_length, L_length, List.length_cons, List.length_nil]
      have e0 : ({ data := #[] } : ByteArray).size = 0 := rfl
      omega
    have c1 := fun W => r6_Put_yes b d 1000 2000 0 f 512 0 0 { data := #[] } data W ho (by omega) rfl
    have c2 := fun W => r6_Seal a c (S ((Seg.mk b d 1000 2000 0 f 512 0 0 { data := #[] }).put data)) W ha hc (by rw [S_size]; omega)
    obtain ⟨_, t1, t2, _⟩ := tcp_back (Seg.mk b d 1000 2000 0 f 512 0 0 { data := #[] }) data ho rfl
    refine ⟨_, by rw [S_size, tcpSeal_len, L_S, hz1]; exact Nat.le_refl _, ?_, fun W => load_tcp a b c d f data _ _ W c1 c2⟩
    rw [L_S]
    generalize hZ : (Seg.mk b d 1000 2000 0 f 512 0 0 { data := #[] }).put data = Z at *
    have e : tcpSeal a c Z = lay Z 16 (tcpSum a c Z) := by unfold tcpSeal; rw [if_neg (by omega)]
    rw [e]
    have t3 := tcpIs_of (Q := lay Z 16 (tcpSum a c Z)) t1 (by rw [lay_length (by omega)]) (at_lay (by omega) (by omega))
    have s0 : be16 Z 0 = b := by
      have q := congrArg Seg.s t2
      rw [show (segOf (S Z)).s = get16 Z ((0 : Nat) : Int) from rfl, get16_nat (by omega)] at q
      exact q
    have s2 : be16 Z 2 = d := by
      have q := congrArg Seg.d t2
      rw [show (segOf (S Z)).d = get16 Z ((2 : Nat) : Int) from rfl, get16_nat (by omega)] at q
      exact q
    refine ⟨by unfold loadWhy; rw [if_pos rfl, if_pos t3], fun h hp => ?_⟩
    rw [seen_tcp hp (by rw [lay_length (by omega)]; omega), lay_16 (by omega) (by omega), lay_16 (by omega) (by omega), s0, s2]
    refine ⟨rfl, ?_, rfl, fun e => absurd e (by decide)⟩
    simp only
    split <;> decide
  · have hz1 : (udpWords b d ((8 + (data.size : Int)) % 65536) 0 ++ L data).length = data.size + 8 := by
      unfold udpWords
      simp only [List.length_append, putW_length, L_length, List.length_cons, List.length_nil]; omega
    have c1 := fun W => r5_Put b d 0 0 data W hb hd (by decide) (by omega)
    have c2 := fun W => r5_Seal a c (S (udpWords b d ((8 + data.size) % 65536) 0 ++ L data)) W ha hc (by rw [S_size]; omega)
    refine ⟨_, by rw [S_size, udpSeal_len, L_S, hz1]; omega, ?_, fun W => load_udp a b c d f data _ _ W c1 c2⟩
    rw [L_S]
    have p0 := putW_16 (l := [(8 + (data.size : Int)) % 65536, 0]) (r := L data) hb hd
    have p4 : be16 (udpWords b d ((8 + (data.size : Int)) % 65536) 0 ++ L data) 4 = 8 + data.size := by
      have h := be16_put ((8 + (data.size : Int)) % 65536) (put16 0 ++ L data) (by omega) (by omega)
      have e : udpWords b d ((8 + (data.size : Int)) % 65536) 0 ++ L data = put16 b ++ (put16 d ++ (put16 ((8 + (data.size : Int)) % 65536) ++ (put16 0 ++ L data))) := by simp [udpWords, putW]
      rw [e]
      show be16 (put16 ((8 + (data.size : Int)) % 65536) ++ (put16 0 ++ L data)) 0 = _
      rw [h]; omega
    have q0 : be16 (udpWords b d ((8 + (data.size : Int)) % 65536) 0 ++ L data) 0 = b ∧ be16 (udpWords b d ((8 + (data.size : Int)) % 65536) 0 ++ L data) 2 = d := p0
    clear p0 c1 c2
    generalize udpWords b d ((8 + (data.size : Int)) % 65536) 0 ++ L data = Z at *
    have e : udpSeal a c Z = lay Z 6 (udpSum a c Z) := by unfold udpSeal; rw [if_neg (by omega)]; unfold lay; rw [List.append_assoc]
    rw [e]
    have u1 : udpIs (S Z) = true := by
      unfold udpIs
      rw [S_size, L_S, show get16 Z 4 = be16 Z 4 from get16_nat (k := 4) (by omega), p4, hz1]
      simp; omega
    have u2 := udpIs_of (Q := lay Z 6 (udpSum a c Z)) u1 (by rw [lay_length (by omega)]) (lay_16 (by omega) (by omega))
    refine ⟨by unfold loadWhy; rw [if_neg (by decide), if_pos rfl, if_pos u2], fun h hp => ?_⟩
    rw [seen_udp hp (by rw [lay_length (by omega)]; omega), lay_16 (by omega) (by omega), lay_16 (by omega) (by omega), q0.1, q0.2]
    exact ⟨rfl, (by decide : (2 : Int) ≠ 3), rfl, fun e => absurd e (by decide)⟩
  · obtain ⟨rfl, hd0⟩ := h
    have z4 : ({ data := #[0, 0, 0, 1] } : ByteArray).size = 4 := rfl
    have rs : ∀ (m : Msg) (id : Int), m.r.size = 4 → (msgID m id).r.size = 4 := by
      intro m id h4
      show (if 2 ≤ m.r.size then S (lay (L m.r) 0 id) else m.r).size = 4
      rw [if_pos (by omega), S_size, lay_length (by rw [L_length]; omega), L_length, h4]
    have o1 : (Msg.mk 8 0 0 { data := #[0, 0, 0, 1] } data).Ok := ⟨⟨(by decide : (0 : Int) ≤ 8), (by decide : (8 : Int) ≤ 255)⟩, ⟨(by decide : (0 : Int) ≤ 0), (by decide : (0 : Int) ≤ 255)⟩, ⟨(by decide : (0 : Int) ≤ 0), (by decide : (0 : Int) ≤ 65535)⟩, by rw [z4]; decide, by dsimp only; omega⟩
    have r1 := rs ⟨8, 0, 0, { data := #[0, 0, 0, 1] }, data⟩ 0 rfl
    obtain ⟨y3, hy3⟩ : ∃ y, y = (msgID ⟨8, 0, 0, { data := #[0, 0, 0, 1] }, data⟩ 0).r := ⟨_, rfl⟩
    rw [← hy3] at r1
    have c1 := fun W => r7_WithID ⟨8, 0, 0, { data := #[0, 0, 0, 1] }, data⟩ 0 W o1 (by decide)
    rw [← hy3] at c1
    have o2 : (Msg.mk 0 0 0 y3 data).Ok := ⟨⟨(by decide : (0 : Int) ≤ 0), (by decide : (0 : Int) ≤ 255)⟩, o1.2.1, o1.2.2.1, by rw [r1]; decide, o1.2.2.2.2⟩
    have r2 := rs ⟨0, 0, 0, y3, data⟩ d r1
    have o3 : (msgID ⟨0, 0, 0, y3, data⟩ d).Ok := ⟨o2.1, o2.2.1, o2.2.2.1, by rw [r2]; decide, o2.2.2.2.2⟩
    have c2 := fun W => r7_WithID ⟨0, 0, 0, y3, data⟩ d W o2 hd
    have c3 := fun W => r7_Put_yes (msgID ⟨0, 0, 0, y3, data⟩ d) W o3 r2
    have hz1 : (msgPut (msgID ⟨0, 0, 0, y3, data⟩ d)).length = data.size + 8 := by
      rw [msgPut_length, r2]; show 4 + 4 + data.size = _; omega
    have c4 := fun W => r7_Seal (S (msgPut (msgID ⟨0, 0, 0, y3, data⟩ d))) W (by rw [S_size]; omega)
    have mp := msg_put_parse o3 r2
    refine ⟨_, by rw [S_size, icmpSeal_len, L_S, hz1]; omega, ?_, fun W => load_told a c d f data _ _ _ _ _ _ _ _ _ _ _ _ W hd0 c1 c2 c3 c4⟩
    rw [L_S]
    have i4 : be16 (msgPut (msgID ⟨0, 0, 0, y3, data⟩ d)) 4 = d := by
      rw [← msg_id (by omega), mp]
      show get16 (L (if 2 ≤ y3.size then S (lay (L y3) 0 d) else y3)) ((0 : Nat) : Int) = d
      rw [if_pos (by omega), L_S, get16_nat (by rw [lay_length (by rw [L_length]; omega), L_length]; omega)]
      unfold lay
      exact be16_put d _ hd.1 hd.2
    have i0 : at_ (msgPut (msgID ⟨0, 0, 0, y3, data⟩ d)) 0 = 0 := by rw [← msg_t, mp]; rfl
    have i1 : at_ (msgPut (msgID ⟨0, 0, 0, y3, data⟩ d)) 1 = 0 := by rw [← msg_c, mp]; rfl
    clear c1 c2 c3 c4 mp
    generalize msgPut (msgID ⟨0, 0, 0, y3, data⟩ d) = Z at *
    have e : icmpSeal Z = lay Z 2 (icmpSum Z) := by unfold icmpSeal; rw [if_neg (by omega)]
    rw [e]
    have j0 : (msgOf (S (lay Z 2 (icmpSum Z)))).t = 0 := by rw [msg_t, at_lay (by omega) (by omega), i0]
    have j1 : (msgOf (S (lay Z 2 (icmpSum Z)))).c = 0 := by rw [msg_c, at_lay (by omega) (by omega), i1]
    have qa : qAsk (msgOf (S (lay Z 2 (icmpSum Z)))) = false := by unfold qAsk; rw [j0, j1]; rfl
    have qi : qIs (msgOf (S (lay Z 2 (icmpSum Z)))) = true := by unfold qIs; rw [j0, j1]; rfl
    refine ⟨by unfold loadWhy; rw [if_neg (by decide), if_neg (by decide), if_pos rfl, if_neg (by rw [S_size, lay_length (by omega)]; omega), if_pos (Or.inl qi)], fun h hp => ?_⟩
    rw [seen_msg hp (by rw [lay_length (by omega)]; omega), qa, qi, if_neg (by decide), if_pos rfl, lay_16 (by omega) (by omega), i4]
    exact ⟨rfl, (by decide : (2 : Int) ≠ 3), rfl, fun _ => rfl⟩
/-- a packet that is made: what is seen of it -/
theorem madeS (p a b c d f l : Int) (data : ByteArray) (hp : p = 6 ∨ p = 17 ∨ (p = 1 ∧ b = 0 ∧ d ≠ 0)) (ha : 0 ≤ a ∧ a ≤ 4294967295) (hb : 0 ≤ b ∧ b ≤ 65535) (hc : 0 ≤ c ∧ c ≤ 4294967295) (hd : 0 ≤ d ∧ d ≤ 65535) (hf : 0 ≤ f ∧ f ≤ 255) (hl : 0 ≤ l ∧ l ≤ 255) (hz : data.size ≤ 1000) :
    ∃ out : ByteArray, out.size ≤ 140737488351232 ∧ (seenWhy out = 0 ∧ (seenOf out).t = ⟨p, a, b, c, d⟩ ∧ (seenOf out).k ≠ 3 ∧ (seenOf out).l = l ∧ (p = 1 → (seenOf out).q = false)) ∧ ∀ W, Calls Tryz.prog 28 #[.agg #[.int .u8 p, .int .u32 a, .int .u16 b, .int .u32 c, .int .u16 d], .int .u8 f, .int .u8 l, .string data] W (Ret (.string out) W) := by
  obtain ⟨l1, h1, h2, c1⟩ := loadS p a b c d f data hp ha hb hc hd hf hz
  have ho : (Hd.mk 0 0 false l p a c { data := #[] }).Ok := by
    refine ⟨?_, ?_, hl, ?_, ha, hc, ?_⟩
    · dsimp only; decide
    · dsimp only; decide
    · dsimp only; omega
    · dsimp only; decide
  have c2 := fun W => r4_Put 0 0 l p a c false { data := #[] } l1 W ho (by omega)
  have e0 : ({ data := #[] } : ByteArray).size = 0 := rfl
  have he : ipErr (Hd.mk 0 0 false l p a c { data := #[] }) l1 = 0 := by
    unfold ipErr
    rw [if_neg (by rw [e0]; omega), if_neg (by rw [e0]; omega)]
  rw [he] at c2
  refine ⟨ipText (Hd.mk 0 0 false l p a c { data := #[] }) l1, ?_, ?_, fun W => made p a b c d f l data l1 _ W c1 c2⟩
  · unfold ipText
    rw [if_pos he, S_size]
    unfold Hd.put Hd.bytes
    simp only [Hd.words, List.length_append, putW_length, put32_length, L_length, List.length_cons, List.length_nil]
    omega
  · obtain ⟨_, _, w0, hh, hr⟩ := ip_back (Hd.mk 0 0 false l p a c { data := #[] }) l1 { data := #[] } ho he
    have ea : ∀ x : ByteArray, x ++ ({ data := #[] } : ByteArray) = x := fun x => by
      have := ByteArray.append_empty (b := x)
      exact this
    rw [ea] at w0 hh hr
    have et : ipText (Hd.mk 0 0 false l p a c { data := #[] }) l1 = S ((Hd.mk 0 0 false l p a c { data := #[] }).put l1) := by unfold ipText; rw [if_pos he]
    rw [et]
    generalize S ((Hd.mk 0 0 false l p a c { data := #[] }).put l1) = o at *
    have hr' : ipRest o = l1 := by unfold ipRest; rw [if_pos w0]; exact hr
    have ws : seenWhy o = 0 := by unfold seenWhy; rw [if_pos w0, hh, hr']; exact h2.1
    have so : seenOf o = loadSeen (Hd.mk 0 0 false l p a c { data := #[] }) l1 := by unfold seenOf; rw [if_pos ws, hh, hr']
    obtain ⟨k1, k2, k3, k4⟩ := h2.2 (Hd.mk 0 0 false l p a c { data := #[] }) rfl
    exact ⟨ws, by rw [so, k1], by rw [so]; exact k2, by rw [so, k3], by rw [so]; exact k4⟩
end Go.Proofs.YtilfcikhipadpaaGreatDoor
end

section
/- BindsGoes: its walk. -/
set_option linter.unusedVariables false
set_option linter.unusedSimpArgs false
namespace Go.Proofs.YtilfcikhipadpaaGreatDoor
open Go.RowKit Go.Lib Rx
/-- what is seen, and by what: nothing, or what the packet says -/
theorem see_cases (s : ByteArray) : (∃ e, e ≠ 0 ∧ seeV (seenOf s) (seenWhy s) (inTup s) (emsWhy s) = glanceV seenNone tup0 e) ∨ (seenWhy s = 0 ∧ 1 < (seenOf s).l ∧ ∃ y, seeV (seenOf s) (seenWhy s) (inTup s) (emsWhy s) = glanceV (seenOf s) y 0 ∧ ((seenOf s).k ≠ 3 → y = (seenOf s).t)) := by
  unfold seeV
  by_cases h1 : seenWhy s = 0
  rotate_left
  · exact .inl ⟨_, h1, by rw [if_pos h1]⟩
  rw [if_neg (by omega)]
  by_cases h2 : (seenOf s).l < 2
  · exact .inl ⟨8, by decide, by rw [if_pos h2]⟩
  rw [if_neg h2]
  by_cases h3 : (seenOf s).k = 3
  rotate_left
  · exact .inr ⟨h1, by omega, _, by rw [if_pos h3], fun _ => rfl⟩
  rw [if_neg (by omega)]
  by_cases h4 : emsWhy s = 0
  rotate_left
  · exact .inl ⟨_, h4, by rw [if_pos h4]⟩
  rw [if_neg (by omega)]
  split
  · exact .inl ⟨15, by decide, rfl⟩
  · exact .inr ⟨h1, by omega, _, rfl, fun h => absurd h3 h⟩
theorem loadSeen_is {h : Hd} {l : ByteArray} (hw : loadWhy h.p l = 0) : (0 ≤ h.s ∧ h.s ≤ 4294967295) → (0 ≤ h.d ∧ h.d ≤ 4294967295) → ((loadSeen h l).t.p = 6 ∨ (loadSeen h l).t.p = 17 ∨ ((loadSeen h l).t.p = 1 ∧ ((loadSeen h l).q = true → (loadSeen h l).t.d = 0))) ∧ (0 ≤ (loadSeen h l).t.a ∧ (loadSeen h l).t.a ≤ 4294967295) ∧ (0 ≤ (loadSeen h l).t.b ∧ (loadSeen h l).t.b ≤ 65535) ∧ (0 ≤ (loadSeen h l).t.c ∧ (loadSeen h l).t.c ≤ 4294967295) ∧ (0 ≤ (loadSeen h l).t.d ∧ (loadSeen h l).t.d ≤ 65535) := fun hs hd => by
  have z : (0 : Int) ≤ 0 ∧ (0 : Int) ≤ 65535 := by decide
  have g := fun k : Int => get16_bd (L l) k
  have g2 := fun k : Int => get16_bd (L (msgOf l).r) k
  unfold loadWhy at hw
  unfold loadSeen segOf
  generalize qAsk (msgOf l) = b1 at *
  generalize qIs (msgOf l) = b2 at *
  by_cases h1 : h.p = 6
  · simp only [if_pos h1]; exact ⟨.inl trivial, hs, g 0, hd, g 2⟩
  by_cases h2 : h.p = 17
  · simp only [if_neg h1, if_pos h2]; exact ⟨.inr (.inl trivial), hs, g 0, hd, g 2⟩
  cases b1
  · cases b2
    · simp only [if_neg h1, if_neg h2]; exact ⟨.inr (.inr ⟨rfl, fun _ => rfl⟩), hs, z, hd, z⟩
    · simp only [if_neg h1, if_neg h2]; exact ⟨.inr (.inr ⟨rfl, fun e => by cases e⟩), hs, z, hd, g2 0⟩
  · simp only [if_neg h1, if_neg h2]; exact ⟨.inr (.inr ⟨rfl, fun _ => rfl⟩), hs, g2 0, hd, z⟩
/-- whose packet it is -/
theorem seen_is {s : ByteArray} (h : seenWhy s = 0) : ((seenOf s).t.p = 6 ∨ (seenOf s).t.p = 17 ∨ ((seenOf s).t.p = 1 ∧ ((seenOf s).q = true → (seenOf s).t.d = 0))) ∧ (0 ≤ (seenOf s).t.a ∧ (seenOf s).t.a ≤ 4294967295) ∧ (0 ≤ (seenOf s).t.b ∧ (seenOf s).t.b ≤ 65535) ∧ (0 ≤ (seenOf s).t.c ∧ (seenOf s).t.c ≤ 4294967295) ∧ (0 ≤ (seenOf s).t.d ∧ (seenOf s).t.d ≤ 65535) := by
  have hw : ipWhy s = 0 := Decidable.byContradiction fun hn => hn (by unfold seenWhy at h; rw [if_neg hn] at h; exact h)
  have h1 : loadWhy (hdOf s).p (ipRest s) = 0 := by unfold seenWhy at h; rw [if_pos hw] at h; exact h
  have h2 : seenOf s = loadSeen (hdOf s) (ipRest s) := by unfold seenOf; rw [if_pos h]
  rw [h2]
  exact loadSeen_is h1 (get32_bd _ _) (get32_bd _ _)
@[reducible] def chV (a b c d : Int) : Value := .agg #[.int .u32 a, .int .u16 b, .int .u32 c, .int .u16 d]
@[reducible] def seV (p a b c d k f : Int) (q : Bool) (l : Int) : Value := .tuple #[.agg #[.int .u8 p, .int .u32 a, .int .u16 b, .int .u32 c, .int .u16 d, .int .i64 k, .int .u8 f, .bool q, .int .u8 l], .int .i64 0]
@[reducible] def glV (p a b c d k f : Int) (q : Bool) (l : Int) : Value := .tuple #[.agg #[.int .u8 p, .int .u32 a, .int .u16 b, .int .u32 c, .int .u16 d, .int .i64 k, .int .u8 f, .bool q, .int .u8 l, .int .u8 p, .int .u32 a, .int .u16 b, .int .u32 c, .int .u16 d], .int .i64 0]
/-- what is sent, what answers it, what becomes of that -/
theorem go_leg {o : ByteArray} {q si sp di dp k1 f1 l1 : Int} {a1 : Bool} (hx : seenOf o = ⟨⟨q, si, sp, di, dp⟩, k1, f1, a1, l1⟩) (hs : o.size ≤ 140737488351232) (h0 : seenWhy o = 0) (hl : 1 < l1) (hk : k1 ≠ 3) (hq : q = 6 ∨ q = 17 ∨ (q = 1 ∧ (a1 = true → dp = 0))) (ha : q = 1 → a1 = true)
    (r1 : 0 ≤ si ∧ si ≤ 4294967295) (r2 : 0 ≤ sp ∧ sp ≤ 65535) (r3 : 0 ≤ di ∧ di ≤ 4294967295) (r4 : 0 ≤ dp ∧ dp ≤ 65535) (SA SB DA DB : Int) (s1 : 0 ≤ SA ∧ SA ≤ 4294967295) (s2 : 0 ≤ SB ∧ SB ≤ 65535) (s3 : 0 ≤ DA ∧ DA ≤ 4294967295) (s4 : 0 ≤ DB ∧ DB ≤ 65535) (h1 : q = 1 → DB = 0 ∧ SB ≠ 0) :
    ∃ (sn md an : ByteArray) (k2 f2 l2 k3 f3 l3 k4 f4 l4 : Int) (a2 a3 a4 : Bool), k3 ≠ 3 ∧
      (∀ W, Kinds W → Calls Tryz.prog 65 #[.string o, chV SA SB DA DB] W (Ret (.tuple #[.string sn, .int .i64 0]) W)) ∧
      (∀ W, Kinds W → Calls Tryz.prog 27 #[.string sn] W (Ret (seV q SA SB DA DB k2 f2 a2 l2) W)) ∧
      (∀ W, Calls Tryz.prog 28 #[.agg #[.int .u8 q, .int .u32 DA, .int .u16 DB, .int .u32 SA, .int .u16 SB], .int .u8 18, .int .u8 64, .string { data := #[97, 110, 115, 119, 101, 114] }] W (Ret (.string md) W)) ∧
      (∀ W, Kinds W → Calls Tryz.prog 11 #[.string md] W (Ret (glV q DA DB SA SB k3 f3 a3 l3) W)) ∧
      (∀ W, Kinds W → Calls Tryz.prog 65 #[.string md, chV di dp si sp] W (Ret (.tuple #[.string an, .int .i64 0]) W)) ∧
      (∀ W, Kinds W → Calls Tryz.prog 27 #[.string an] W (Ret (seV q di dp si sp k4 f4 a4 l4) W)) := by
  obtain ⟨w0, w1, w2, _, wz, _⟩ := rw_seen (a := SA) (b := SB) (c := DA) (d := DB) h0 (by rw [hx]; exact hl) s1 s2 s3 s4 _ rfl
  have e2 : seenTo (seenOf o) SA SB DA DB = ⟨⟨q, SA, SB, DA, DB⟩, k1, f1, a1, l1 - 1⟩ := by
    rw [hx]
    unfold seenTo
    simp only
    rw [if_neg hk]
    by_cases e : q = 1
    · rw [if_neg (by omega), ha e, if_pos rfl]
      have : dp = 0 := by rcases hq with h | h | h; · omega
                          · omega
                          · exact h.2 (ha e)
      rw [this, (h1 e).1]
    · rw [if_pos e]
  obtain ⟨md, mz, ⟨m0, m1, m2, m3, m4⟩, mc⟩ := madeS q DA DB SA SB 18 64 { data := #[97, 110, 115, 119, 101, 114] } (by rcases hq with h | h | h; exact .inl h; exact .inr (.inl h); exact .inr (.inr ⟨h.1, h1 h.1⟩)) s3 s4 s1 s2 (by decide) (by decide) (by decide)
  obtain ⟨v0, v1, v2, _, vz, _⟩ := rw_seen (a := di) (b := dp) (c := si) (d := sp) m0 (by rw [m3]; decide) r3 r4 r1 r2 _ rfl
  generalize hX : seenOf md = M at *
  obtain ⟨⟨mp, ma, mb, mc2, md2⟩, k3, f3, a3, l3⟩ := M
  simp only [Tup.mk.injEq] at m1 m2 m3 m4
  obtain ⟨rfl, rfl, rfl, rfl, rfl⟩ := m1
  have e4 : seenTo ⟨⟨mp, ma, mb, mc2, md2⟩, k3, f3, a3, l3⟩ di dp si sp = ⟨⟨mp, di, dp, si, sp⟩, k3, f3, a3, l3 - 1⟩ := by
    unfold seenTo
    simp only
    rw [if_neg m2]
    by_cases e : mp = 1
    · rw [if_neg (by omega), m4 e, if_neg (by decide)]
      have : dp = 0 := by rcases hq with h | h | h; · omega
                          · omega
                          · exact h.2 (ha e)
      rw [this, (h1 e).1]
    · rw [if_pos e]
  refine ⟨rwOut o mc2 md2 ma mb, md, rwOut md di dp si sp, k1, f1, l1 - 1, k3, f3, l3, k3, f3, l3 - 1, a1, a3, a3, m2, fun W K => ?_, fun W K => ?_, mc, fun W K => ?_, fun W K => ?_, fun W K => ?_⟩
  · have c := rw_Apply mc2 md2 ma mb o W K s1 s2 s3 s4 hs
    rw [w0] at c
    exact c
  · have c := tu_Of (rwOut o mc2 md2 ma mb) W K (by omega)
    rw [w2, e2, w1] at c
    exact c
  · have c := b_See md W K mz
    unfold seeV at c
    rw [m0, if_neg (by decide), hX] at c
    simp only at c
    rw [if_neg (by omega), if_pos m2] at c
    exact c
  · have c := rw_Apply di dp si sp md W K r3 r4 r1 r2 mz
    rw [v0] at c
    exact c
  · have c := tu_Of (rwOut md di dp si sp) W K (by omega)
    rw [v2, e4, v1] at c
    exact c
/-- a number of a port out of a range -/
theorem port_in {f t b : Int} (hf : 1 ≤ f ∧ f ≤ t ∧ t ≤ 65535) (hb : 0 ≤ b) : ∃ (mm : Nat) (pt : Int), (f ≤ pt ∧ pt ≤ t) ∧ IntKind.wrap .u16 (IntKind.wrap .u16 (t - f) + 1) = Int.ofNat (mm + 1) ∧ IntKind.wrap .u16 (f + b.tmod (Int.ofNat (mm + 1))) = pt := by
  have hm : ((t - f).toNat : Int) = t - f := Int.toNat_of_nonneg (by omega)
  have he : (Int.ofNat ((t - f).toNat + 1) : Int) = t - f + 1 := by show (((t - f).toNat + 1 : Nat) : Int) = _; omega
  have h1 : 0 ≤ b.tmod (Int.ofNat ((t - f).toNat + 1)) := Int.tmod_nonneg _ hb
  have h2 : b.tmod (Int.ofNat ((t - f).toNat + 1)) < Int.ofNat ((t - f).toNat + 1) := Int.tmod_lt_of_pos _ (by rw [he]; omega)
  have h3 : b.tmod (Int.ofNat ((t - f).toNat + 1)) < t - f + 1 := by omega
  clear h2
  refine ⟨(t - f).toNat, f + b.tmod (Int.ofNat ((t - f).toNat + 1)), by omega, ?_, ?_⟩
  · rw [he, IntKind.wrap_u16, IntKind.wrap_u16]; omega
  · rw [IntKind.wrap_u16]; omega
theorem tm_240 (q : Int) (st : Int) : 0 ≤ timeV (flowV q) st ∧ timeV (flowV q) st ≤ 7440 := by
  unfold timeV
  repeat' split
  all_goals omega
theorem first_time {f g : Int} (h : firstV f g = true) : 0 < timeV f 1 := by
  unfold firstV at h
  simp at h
  exact h.1
set_option maxHeartbeats 2000000 in
theorem BindsGoes_walk (X : Option Addr) (n c : Nat) (l : List Rulg) (k p f t b p0 p1 fl : Int) (s : ByteArray) (b0 b1 : Int) (w : World) (K0 : Lasts w ∧ Kinds w ∧ Wds w) (hl : n = l.length ∧ n ≤ c ∧ rulgK.Has w X l ∧ rulgK.Read w (.slice X n c) l ∧ (∀ d ∈ l, d.Ok) ∧ n ≤ 9223372036854775807) (hX : RealA X)
    (hk : 0 ≤ k ∧ k ≤ 255) (hp : 0 ≤ p ∧ p ≤ 255) (hf : 0 ≤ f ∧ f ≤ 255) (ht : 0 ≤ t ∧ t ≤ 255) (hb : 0 ≤ b ∧ b ≤ 255) (h0 : 0 ≤ p0 ∧ p0 ≤ 255) (h1 : 0 ≤ p1 ∧ p1 ≤ 255) (hfl : 0 ≤ fl ∧ fl ≤ 255) (hs : s.size ≤ 140737488351232) (hb0 : 0 ≤ b0 ∧ b0 ≤ 65535) (hb1 : 0 ≤ b1 ∧ b1 ≤ 65535) :
    Calls Tryz.prog 7 #[.slice X n c, wireV k p f t b p0 p1 fl s, .agg #[.int .u16 b0, .int .u16 b1]] w (Ret (.bool true) w) := by
  have hL : ∀ W, (Amb.of w).S W → Lasts W := fun W h => K0.1.below h
  have hK : ∀ W, Below w.heap.size w W → Kinds W := fun W h => K0.2.1.below h
  have hW : ∀ W, Below w.heap.size w W → Wds W := fun W h => K0.2.2.below h
  have bd : ∀ W, Below w.heap.size w W → Calls Tryz.prog 9 #[] W (Ret (.bool true) W) := fun W h => rx_bound W (K0.1.below h)
  by_cases h22 : s.size ≤ 2200
  rotate_left
  · rcases hX with rfl | ⟨g, of, rfl⟩ <;> exact run (args := [.slice _ n c, wireV k p f t b p0 p1 fl s, .agg #[.int .u16 b0, .int .u16 b1]]) [yes 7 (b := decide ((s.size : Int) > 2200)) (by simp; omega), does 8 (args := []) bd]
  have g7 : decide ((s.size : Int) > 2200) = false := by simp; omega
  obtain ⟨o, z, ct⟩ := w_Text k p f t b p0 p1 fl s w ⟨hp.1, hf.1, ht.1, h0.1, h1.1, hfl.1⟩ hb.1 hfl.2 hs
  have T := tabs_at (c := c) hX hl.1 hl.2.2.1 hl.2.2.2.2.1
  let te : Ev Tryz.prog (Amb.of w) := does 26 (args := [wireV k p f t b p0 p1 fl s]) ct
  have cs : ∀ W, Below w.heap.size w W → _ := fun W h => b_See o W (hK W h) z
  rcases see_cases o with ⟨e, he, hv⟩ | ⟨sw, sl, y, hv, hy⟩
  · rw [hv] at cs
    have g38 : (e != 0) = true := by simpa using he
    rcases T with h | ⟨rs, hR, h⟩
    · have k4 := tabs_nil h hX 2
      rcases hX with rfl | ⟨g, of, rfl⟩ <;> exact run (args := [.slice _ n c, wireV k p f t b p0 p1 fl s, .agg #[.int .u16 b0, .int .u16 b1]]) [no 7 g7, calls 9 2 2 k4, te, does 29 (args := [.string o]) cs, yes 38 g38, does 68 (args := []) bd]
    · have k4 := tabs_ne h hX 2
      rcases hX with rfl | ⟨g, of, rfl⟩ <;> exact run (args := [.slice _ n c, wireV k p f t b p0 p1 fl s, .agg #[.int .u16 b0, .int .u16 b1]]) [no 7 g7, calls 9 2 4 k4, te, does 29 (args := [.string o]) cs, yes 38 g38, does 68 (args := []) bd]
  rw [hv] at cs
  obtain ⟨hq, r1, r2, r3, r4⟩ := seen_is sw
  generalize hx : seenOf o = x at *
  obtain ⟨⟨q, si, sp, di, dp⟩, k1, f1, a1, l1⟩ := x
  simp only at sl hy hq r1 r2 r3 r4
  rcases T with h | ⟨rs, hR, h⟩
  · have k4 := tabs_nil h hX 2
    obtain ⟨r, hr, hr3⟩ := of_none (o := oC) (ip := ipC) (b := 8) q si sp di dp k1 f1 a1
    have k42 := b_Of0 (A := Amb.of w) (by decide : (0 : Int) ≤ ipC ∧ ipC ≤ 4294967295) q si sp di dp k1 f1 l1 a1 r1 r3 hL 2 9 rfl hr
    rcases hr3 with rfl | rfl | rfl <;> rcases hX with rfl | ⟨g, of, rfl⟩ <;> exact run (args := [.slice _ n c, wireV k p f t b p0 p1 fl s, .agg #[.int .u16 b0, .int .u16 b1]]) [no 7 g7, calls 9 2 2 k4, te, does 29 (args := [.string o]) cs, calls 42 9 0 k42, does 80 (args := []) bd]
  have k4 := tabs_ne h hX 2
  have k42 := b_OfN (A := Amb.of w) (rs := rs) (o := oC) (b := 8) (by have := hR.2.1; omega) (fun r hr => (hR.2.2 r hr).2) (by decide : (0 : Int) ≤ ipC ∧ ipC ≤ 4294967295) q si sp di dp k1 f1 l1 a1 r1 r3 hL 2 4 11 rfl rfl
  rcases of_fail (o := oC) (ip := ipC) (b := 8) rs q si sp di dp k1 f1 a1 with hz | hz
  · rcases hz with hz | hz | hz <;> rw [hz] at k42 <;> rcases hX with rfl | ⟨g, of, rfl⟩ <;> exact run (args := [.slice _ n c, wireV k p f t b p0 p1 fl s, .agg #[.int .u16 b0, .int .u16 b1]]) [no 7 g7, calls 9 2 4 k4, te, does 29 (args := [.string o]) cs, calls 42 11 0 k42, does 80 (args := []) bd]
  obtain ⟨hk3, hask, hfirst, shape⟩ := of_shape hR.2.2 q si sp di dp k1 f1 a1 hz
  have hy := hy hk3
  subst hy
  have hp255 : 0 ≤ q ∧ q ≤ 255 := by rcases hq with h | h | h <;> omega
  have hP : isProto q = true := by unfold isProto; rcases hq with h | h | h <;> simp [h]
  have cF := fun W (_ : Below w.heap.size w W) => tk_Flow W q
  have cT := fun W (h : Below w.heap.size w W) => tk_Timeout W (flowV q) 1 (K0.1.below h)
  have cM := fun W (h : Below w.heap.size w W) => tk_May W (flowV q) 1 (K0.1.below h)
  rw [decide_eq_true (first_time hfirst)] at cM
  have tm := tm_240 q 1
  have may : ∀ a b c d : Int, (q = 1 → b = 0 ∨ d = 0) → ∀ W, Below w.heap.size w W → Calls Tryz.prog 176 #[.agg #[.int .u8 q, .int .u32 a, .int .u16 b, .int .u32 c, .int .u16 d]] W (Ret (.bool true) W) := fun a b c d hq W h => by
    have e : tupMay q b d = true := by
      unfold tupMay
      rw [hP, Bool.true_and]
      by_cases h1 : q = 1
      · rcases hq h1 with h | h <;> simp [h]
      · simp [h1]
    have k := tu_May W q a b c d (hW W h) hp255
    rw [e] at k
    exact k
  have hd0 : q = 1 → dp = 0 := fun e => by rcases hq with h | h | h; · omega
                                           · omega
                                           · exact h.2 (hask e)
  have m1 := may si sp di dp (fun e => .inr (hd0 e))
  have Q := fun SA SB DA DB s1 s2 s3 s4 hh => go_leg hx z sw sl hk3 hq hask r1 r2 r3 r4 SA SB DA DB s1 s2 s3 s4 hh
  rcases shape with ⟨e, fp, hr, he, hfp, hq1, hne⟩ | ⟨e, fp, tp, hr, he, hfp, hne⟩ | ⟨a, ap, e, fp, hr, ha, hap, he, hfp, hq1, hne⟩ | ⟨a, ap, e, fp, tp, hr, ha, hap, he, hfp, hq1, hne⟩ | ⟨a, ap, hr, ha, hap, hq1, hne⟩
  · obtain ⟨sn, md, an, k2, f2, l2, k3, f3, l3, k5, f5, l5, a2, a3, a4, hk4, c1, c2, c3, c5, c6, c7⟩ := Q e fp di dp he hfp r3 r4 (fun e => absurd e hq1)
    rw [hr] at k42
    exact go_A q si sp di dp e fp (flowV q) _ k1 f1 l1 k2 f2 l2 k3 f3 l3 k5 f5 l5 k p f t b p0 p1 fl b0 b1 a1 a2 a3 a4 n c hX s o sn md an w g7 tm hk3 hk4 (by omega) k4 k42 ct cs cF cT cM m1 (may _ _ _ _ (fun e => absurd e hq1)) (fun W h => c1 W (hK W h)) (fun W h => c2 W (hK W h)) (fun W _ => c3 W) (fun W h => c5 W (hK W h)) (fun W h => c6 W (hK W h)) (fun W h => c7 W (hK W h)) bd
  · obtain ⟨mm, pt, hpt, e0, e1⟩ := port_in hfp hb0.1
    obtain ⟨sn, md, an, k2, f2, l2, k3, f3, l3, k5, f5, l5, a2, a3, a4, hk4, c1, c2, c3, c5, c6, c7⟩ := Q e pt di dp he (by omega) r3 r4 (fun e => ⟨hd0 e, by omega⟩)
    rw [hr] at k42
    exact go_B q si sp di dp e pt fp tp (flowV q) _ k1 f1 l1 k2 f2 l2 k3 f3 l3 k5 f5 l5 k p f t b p0 p1 fl b0 b1 a1 a2 a3 a4 mm ⟨hfp.1, hfp.2.1⟩ hpt e0 e1 n c hX s o sn md an w g7 tm hk3 hk4 (by omega) k4 k42 ct cs cF cT cM m1 (may _ _ _ _ (fun e => .inl (hd0 e))) (fun W h => c1 W (hK W h)) (fun W h => c2 W (hK W h)) (fun W _ => c3 W) (fun W h => c5 W (hK W h)) (fun W h => c6 W (hK W h)) (fun W h => c7 W (hK W h)) bd
  · obtain ⟨sn, md, an, k2, f2, l2, k3, f3, l3, k5, f5, l5, a2, a3, a4, hk4, c1, c2, c3, c5, c6, c7⟩ := Q e fp a ap he hfp ha hap (fun e => absurd e hq1)
    rw [hr] at k42
    exact go_CA q si sp di dp e fp a ap (flowV q) _ k1 f1 l1 k2 f2 l2 k3 f3 l3 k5 f5 l5 k p f t b p0 p1 fl b0 b1 a1 a2 a3 a4 n c hX s o sn md an w g7 tm hk3 hk4 (by omega) k4 k42 ct cs cF cT cM m1 (may _ _ _ _ (fun e => absurd e hq1)) (fun W h => c1 W (hK W h)) (fun W h => c2 W (hK W h)) (fun W _ => c3 W) (fun W h => c5 W (hK W h)) (fun W h => c6 W (hK W h)) (fun W h => c7 W (hK W h)) bd
  · obtain ⟨mm, pt, hpt, e0, e1⟩ := port_in hfp hb0.1
    obtain ⟨sn, md, an, k2, f2, l2, k3, f3, l3, k5, f5, l5, a2, a3, a4, hk4, c1, c2, c3, c5, c6, c7⟩ := Q e pt a ap he (by omega) ha hap (fun e => absurd e hq1)
    rw [hr] at k42
    exact go_CB q si sp di dp e pt a ap fp tp (flowV q) _ k1 f1 l1 k2 f2 l2 k3 f3 l3 k5 f5 l5 k p f t b p0 p1 fl b0 b1 a1 a2 a3 a4 mm ⟨hfp.1, hfp.2.1⟩ hpt e0 e1 n c hX s o sn md an w g7 tm hk3 hk4 (by omega) k4 k42 ct cs cF cT cM m1 (may _ _ _ _ (fun e => absurd e hq1)) (fun W h => c1 W (hK W h)) (fun W h => c2 W (hK W h)) (fun W _ => c3 W) (fun W h => c5 W (hK W h)) (fun W h => c6 W (hK W h)) (fun W h => c7 W (hK W h)) bd
  · obtain ⟨sn, md, an, k2, f2, l2, k3, f3, l3, k5, f5, l5, a2, a3, a4, hk4, c1, c2, c3, c5, c6, c7⟩ := Q si sp a ap r1 r2 ha hap (fun e => absurd e hq1)
    rw [hr] at k42
    exact go_D q si sp di dp a ap (flowV q) _ k1 f1 l1 k2 f2 l2 k3 f3 l3 k5 f5 l5 k p f t b p0 p1 fl b0 b1 a1 a2 a3 a4 n c hX s o sn md an w g7 tm hk3 hk4 (by omega) k4 k42 ct cs cF cT cM m1 (may _ _ _ _ (fun e => absurd e hq1)) (fun W h => c1 W (hK W h)) (fun W h => c2 W (hK W h)) (fun W _ => c3 W) (fun W h => c5 W (hK W h)) (fun W h => c6 W (hK W h)) (fun W h => c7 W (hK W h)) bd
end Go.Proofs.YtilfcikhipadpaaGreatDoor
end

section
/- What the cards of binds (Goes, Errors) list, out of what the row lists; the heap that the program's own door leaves meets it. -/
set_option linter.unusedVariables false
namespace Go.Proofs.YtilfcikhipadpaaGreatDoor
open Go.ChangeShapes Go.WideShapes Go.ChangeAt Go.WideMaps Go.WideElems Go.RowKit Go.Maps

def lastsTab : List (List Int) := [[0, 0, 0, 0, 0, 0, 0, 0], [0, 120, 300, 0, 0, 0, 0, 0], [0, 60, 60, 0, 0, 0, 0, 0], [0, 240, 240, 7440, 240, 240, 240, 240]]
theorem lasts_is : (Rows.laid_porter_track_lasts : DataW Unit) = .agg (lastsTab.map fun r => .agg (r.map fun n => .lit (.int .i64 n))) := rfl
theorem lasts_time : ∀ i : Fin 4, ∀ j : Fin 8, (lastsTab.getD i.val []).getD j.val 0 = timeV (i.val : Nat) (j.val : Nat) := by decide
theorem lasts_size : lastsTab.length = 4 ∧ ∀ i : Fin 4, (lastsTab.getD i.val []).length = 8 := by decide
theorem map_fst_at {α β γ : Type} {xs : List (α × β)} {l : List γ} {f : γ → α} (h : xs.map (·.1) = l.map f) {i : Nat} (hi : i < l.length) : ∃ y, xs[i]? = some (f l[i], y) := by
  have hx : i < xs.length := by have := congrArg List.length h; simp at this; omega
  refine ⟨xs[i].2, ?_⟩
  rw [List.getElem?_eq_getElem hx]
  have h1 : (xs.map (·.1))[i]? = (l.map f)[i]? := by rw [h]
  rw [List.getElem?_map, List.getElem?_map, List.getElem?_eq_getElem hx, List.getElem?_eq_getElem hi] at h1
  simp only [Option.map_some, Option.some.injEq] at h1
  rw [← h1]
theorem lasts_cells {w : World} {base : Nat} {spare : Nat → Bool} {held : Bool} {fuel : Nat} {enc : TypeId × Value → Unit} {cs : List Value} {ps : List MemPlace}
    (h : DataW.trod enc Tryz.prog w base spare held fuel 273 cs = some (Rows.laid_porter_track_lasts, ps)) (i j : Nat) (hi : i < 4) (hj : j < 8) : cs[i * 8 + j]? = some (.int .i64 (timeV i j)) := by
  obtain ⟨xs, m, _, hx, _, _, hg⟩ := DataW.trod_array (n := 4) (e := 272) (by kernel_rfl) h
  rw [lasts_is] at hx
  simp only [Prod.mk.injEq, DataW.agg.injEq] at hx
  obtain ⟨y, hy⟩ := map_fst_at (i := i) hx.1.symm (by rw [lasts_size.1]; exact hi)
  have h1 := hg i hi
  rw [hy, show Tryz.prog.cellsOf 272 = 8 from by kernel_rfl] at h1
  obtain ⟨zs, m2, _, hz, _, _, hg2⟩ := DataW.trod_array (n := 8) (e := 3) (by kernel_rfl) h1
  simp only [Prod.mk.injEq, DataW.agg.injEq] at hz
  have e1 : lastsTab[i]'(by rw [lasts_size.1]; exact hi) = lastsTab.getD i [] := by rw [List.getD_eq_getElem?_getD, List.getElem?_eq_getElem (by rw [lasts_size.1]; exact hi)]; rfl
  have e2 := lasts_size.2 ⟨i, hi⟩
  rw [e1] at hz
  obtain ⟨u, hu⟩ := map_fst_at (i := j) hz.1.symm (by rw [e2]; exact hj)
  have h2 := hg2 j hj
  rw [hu, show Tryz.prog.cellsOf 3 = 1 from by kernel_rfl] at h2
  obtain ⟨k, hk, hv, _⟩ := DataW.trod_int Tryz.underlying3 h2
  simp only [Prod.mk.injEq, DataW.lit.injEq, Lit.int.injEq, true_and] at hv
  have e3 := lasts_time ⟨i, hi⟩ ⟨j, hj⟩
  simp only at e3
  rw [List.getD_eq_getElem?_getD (l := lastsTab.getD i []), List.getElem?_eq_getElem (by rw [e2]; exact hj), Option.getD_some] at e3
  have hcell : (((cs.drop (i * 8)).take 8).drop (j * 1))[0]? = some (.int .i64 k) := by
    have := congrArg (fun l => l[0]?) hk
    simpa using this
  rw [List.getElem?_drop, Nat.mul_one, Nat.add_zero, List.getElem?_take_of_lt hj, List.getElem?_drop] at hcell
  rw [hcell, ← hv.1, e3]
def laidG : List (String × DataW Unit) := [("porter/track.lasts", Rows.laid_porter_track_lasts), ("porter/icmp.kinds", Rows.laid_porter_icmp_kinds), ("porter/tuples.words", Rows.laid_porter_tuples_words)]
theorem gLasts : Tryz.prog.globalNamed "porter/track.lasts" = some 0 := by kernel_rfl
theorem tLasts : (Tryz.prog.globals[0]?).map (·.type) = some 273 := by kernel_rfl
theorem gWords : Tryz.prog.globalNamed "porter/tuples.words" = some 1 := by kernel_rfl
theorem tWords : (Tryz.prog.globals[1]?).map (·.type) = some 299 := by kernel_rfl
theorem gKinds : Tryz.prog.globalNamed "porter/icmp.kinds" = some 2 := by kernel_rfl
theorem tKinds : (Tryz.prog.globals[2]?).map (·.type) = some 303 := by kernel_rfl
set_option maxRecDepth 100000 in
theorem g_of_laid {W : World} (h : laidMetH Tryz.prog laidG W) : Lasts W ∧ Kinds W ∧ Wds W := by
  rw [MakeChecks.laidMetH_plain _ _ _ (by kernel_rfl)] at h
  obtain ⟨ps, ⟨g0, t0, cs0, f0, p0, q0, hg0, ht0, hv0, hd0, ⟨g2, t2, cs2, f2, p2, q2, hg2, ht2, hv2, hd2, ⟨g1, t1, cs1, f1, p1, q1, hg1, ht1, hv1, hd1, _, _⟩, _⟩, _⟩, _, _⟩ := h
  refine ⟨fun i j hi hj => ?_, ?_, ?_⟩
  · obtain rfl := Option.some.inj (gLasts.symm.trans hg0)
    obtain rfl := Option.some.inj (tLasts.symm.trans ht0)
    have h1 := lasts_cells hd0 i j hi hj
    rw [World.var?_cell hg0 hv0]
    simpa using h1
  · obtain rfl := Option.some.inj (gKinds.symm.trans hg2)
    obtain rfl := Option.some.inj (tKinds.symm.trans ht2)
    rcases open_map Tryz.underlying303 hd2 with ⟨_, hx⟩ | ⟨bm, es, clock, m, rfl, hcs, hb, _, F, hx⟩
    · simp [Rows.laid_porter_icmp_kinds] at hx
    simp only [Prod.mk.injEq] at hx
    have hcell : W.cell? ⟨2, 0, none⟩ = some (.map (some bm)) := by
      have := World.var?_cell hg2 hv2 0
      rw [Array.eq_one_of_toList hcs] at this
      simpa using this
    have hown := World.ownsMap_of_fit (R := plainElem Tryz.prog 3) hb F (fun x _ z hz => elemAt_plainElem_int Tryz.underlying3 hz)
    rw [← hx.1] at hown
    exact ⟨bm, _, hcell, hown⟩
  · obtain rfl := Option.some.inj (gWords.symm.trans hg1)
    obtain rfl := Option.some.inj (tWords.symm.trans ht1)
    rcases open_map Tryz.underlying299 hd1 with ⟨_, hx⟩ | ⟨bm, es, clock, m, rfl, hcs, hb, _, F, hx⟩
    · simp [Rows.laid_porter_tuples_words] at hx
    simp only [Prod.mk.injEq] at hx
    have hcell : W.cell? ⟨1, 0, none⟩ = some (.map (some bm)) := by
      have := World.var?_cell hg1 hv1 0
      rw [Array.eq_one_of_toList hcs] at this
      simpa using this
    have hown := World.ownsMap_of_fit (R := plainElem Tryz.prog 9) hb F (fun x _ z hz => elemAt_plainElem_string Tryz.underlying9 hz)
    rw [← hx.1] at hown
    exact ⟨bm, _, hcell, hown⟩
theorem g_met (os : Os) (args : Array Value) : laidMetH Tryz.prog laidG ((World.doorLaid Tryz.prog 400 os).forCall (fun _ _ => 0) ⟨#[], args, []⟩).memory :=
  laidMetH_of_parts3 (fuel := 8) (laidMet_of_run' 8 (by kernel_rfl) (by kernel_rfl)) (by kernel_rfl) (by kernel_rfl)
end Go.Proofs.YtilfcikhipadpaaGreatDoor
end
