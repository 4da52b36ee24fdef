/- Several texts of this claim, one behind the other. -/
import Derived.Test.YtilfcikhipadpaaGreatDoorK30a
import Derived.KernelRfl

section
/- Packets, changed: what the statements say of them, plain. No walk. -/
set_option linter.unusedVariables false
namespace Go.Proofs.YtilfcikhipadpaaGreatDoor
open Go.RowKit

theorem load_ends (h : Hd) (l : ByteArray) : (loadSeen h l).t.a = h.s ∧ (loadSeen h l).t.c = h.d ∧ (loadSeen h l).l = h.l := by
  unfold loadSeen
  split
  · exact ⟨rfl, rfl, rfl⟩
  split
  · exact ⟨rfl, rfl, rfl⟩
  split
  · exact ⟨rfl, rfl, rfl⟩
  split <;> exact ⟨rfl, rfl, rfl⟩
theorem taken_whole {s : ByteArray} (h : seenWhy s = 0) : ∃ H P R, s = S (H ++ P ++ R) ∧ Whole H P ∧ loadWhy (at_ H 9) (S P) = 0 ∧ seenOf s = loadSeen (hdL H) (S P) ∧ (seenOf s).l = at_ H 8 := by
  have hip : ipWhy s = 0 := by
    unfold seenWhy at h
    by_cases hi : ipWhy s = 0
    · exact hi
    · rw [if_neg hi] at h; exact h
  obtain ⟨H, P, R, rfl, w⟩ := whole_of hip
  obtain ⟨e1, e2, _⟩ := seen_whole R w
  rw [e1] at h
  exact ⟨H, P, R, rfl, w, h, e2 h, by rw [e2 h]; exact (load_ends _ _).2.2⟩
/-- what a whole packet is, changed -/
theorem out_whole {H P : List UInt8} (R : List UInt8) {a b c d : Int} (w : Whole H P) (hw : loadWhy (at_ H 9) (S P) = 0) (h8 : 2 ≤ at_ H 8) (ha : 0 ≤ a ∧ a ≤ 4294967295) (hb : 0 ≤ b ∧ b ≤ 65535) (hc : 0 ≤ c ∧ c ≤ 4294967295) (hd : 0 ≤ d ∧ d ≤ 65535) :
    ∃ G Q, Whole G Q ∧ G = headNew H a c ∧ Q = loadNew (loadSeen (hdL H) (S P)) P ((H.drop 12).take 8) a b c d ∧ rwWhy (S (H ++ P ++ R)) = 0 ∧ rwOut (S (H ++ P ++ R)) a b c d = S (G ++ Q) ∧ G.length = H.length ∧ Q.length = P.length ∧ at_ G 8 = at_ H 8 - 1 ∧ at_ G 9 = at_ H 9 ∧
      loadWhy (at_ G 9) (S Q) = 0 ∧ loadSeen (hdL G) (S Q) = seenTo (loadSeen (hdL H) (S P)) a b c d ∧ (G.drop 12).take 8 = ipsOf a c := by
  obtain ⟨c1, c2, c3, c4, c5, c6⟩ := change w hw (by omega) ha hb hc hd
  obtain ⟨e1, e2, e3⟩ := seen_whole R w
  have hy : rwWhy (S (H ++ P ++ R)) = 0 := by
    unfold rwWhy
    rw [e1, if_neg (by omega), e2 hw, if_neg]
    rw [(load_ends _ _).2.2]
    show ¬ at_ H 8 < 2
    omega
  refine ⟨_, _, c1, rfl, rfl, hy, ?_, headNew_length a c w.h20, c2, c4, c3, by rw [c3]; exact c5, c6, ips_new a c w.h20⟩
  unfold rwOut
  rw [if_pos hy, e3, e2 hw]
end Go.Proofs.YtilfcikhipadpaaGreatDoor
end

section
/- Errors, and what they are about: plain laws of their sizes. No walk. -/
set_option linter.unusedVariables false
set_option linter.unusedSimpArgs false
namespace Go.Proofs.YtilfcikhipadpaaGreatDoor
open Go.RowKit

theorem seen_err {h : Hd} {l : ByteArray} (hw : loadWhy h.p l = 0) (hk : (loadSeen h l).k = 3) : h.p = 1 ∧ 8 ≤ l.size ∧ qErr (msgOf l) = true ∧ qIs (msgOf l) = false := by
  have p6 : h.p ≠ 6 := fun e => by unfold loadSeen at hk; rw [if_pos e] at hk; simp only at hk; split at hk <;> omega
  have p17 : h.p ≠ 17 := fun e => by unfold loadSeen at hk; rw [if_neg p6, if_pos e] at hk; simp only at hk; omega
  unfold loadWhy at hw
  rw [if_neg p6, if_neg p17] at hw
  by_cases p1 : h.p = 1
  · rw [if_pos p1] at hw
    by_cases h8 : l.size < 8
    · rw [if_pos h8] at hw; omega
    rw [if_neg h8] at hw
    unfold loadSeen at hk
    rw [if_neg p6, if_neg p17] at hk
    have hq : qIs (msgOf l) = false := by
      cases hq : qIs (msgOf l) with
      | false => rfl
      | true =>
        rw [hq] at hk
        split at hk
        · simp only at hk; omega
        · simp only [if_true] at hk; omega
    refine ⟨p1, by omega, ?_, hq⟩
    by_cases h : qIs (msgOf l) = true ∨ qErr (msgOf l) = true
    · rcases h with h | h
      · rw [hq] at h; cases h
      · exact h
    · rw [if_neg h] at hw; omega
  · rw [if_neg p1] at hw; omega
/-- an error, taken apart -/
theorem err_whole {s : ByteArray} (h : seenWhy s = 0) (hk : (seenOf s).k = 3) : ∃ H P R, s = S (H ++ P ++ R) ∧ Whole H P ∧ loadWhy (at_ H 9) (S P) = 0 ∧ seenOf s = loadSeen (hdL H) (S P) ∧ (seenOf s).l = at_ H 8 ∧ ipRest s = S P ∧ at_ H 9 = 1 ∧ 8 ≤ P.length ∧ qErr (msgOf (S P)) = true ∧ qIs (msgOf (S P)) = false := by
  obtain ⟨H, P, R, rfl, w, h1, h2, h3⟩ := taken_whole h
  obtain ⟨_, _, e3⟩ := whole_to R w
  rw [h2] at hk
  obtain ⟨q1, q2, q3, q4⟩ := seen_err (h := hdL H) (l := S P) h1 hk
  exact ⟨H, P, R, rfl, w, h1, h2, h3, e3, q1, by rwa [S_size] at q2, q3, q4⟩
theorem ems_seen {s : ByteArray} (h : emsWhy s = 0) : seenWhy s = 0 ∧ (seenOf s).k = 3 ∧ emWhy (L (emData s)) = 0 := by
  unfold emsWhy at h
  by_cases h1 : seenWhy s = 0
  · rw [if_neg (by omega)] at h
    by_cases h2 : (seenOf s).k = 3
    · rw [if_neg (by omega)] at h
      exact ⟨h1, h2, h⟩
    · rw [if_pos h2] at h; omega
  · rw [if_pos h1] at h; omega
theorem emData_of {s : ByteArray} {P : List UInt8} (h : ipRest s = S P) : emData s = S (P.drop 8) ∧ (msgOf (ipRest s)).n = be16 P 2 := by
  unfold emData
  rw [h]
  refine ⟨?_, rfl⟩
  show (S P).extract 8 (S P).size = _
  exact eq_S (by rw [L_from, L_S])
theorem emWhy_parts {d : List UInt8} (h : emWhy d = 0) : 20 ≤ emAt d ∧ emAt d ≤ 60 ∧ emAt d + 8 ≤ d.length ∧ at_ d 0 / 16 = 4 ∧ be16 d 6 % 8192 = 0 ∧ (at_ d 9 = 6 ∨ at_ d 9 = 17 ∨ (at_ d 9 = 1 ∧ qIs (emMsg d) = true)) := by
  have hb := at_bd d 0
  have he : ((emAt d : Nat) : Int) = emEnd d := by unfold emAt emEnd; omega
  have he2 : emEnd d ≤ 60 := by unfold emEnd; omega
  unfold emWhy at h
  by_cases h1 : (d.length : Int) < 20 ∨ at_ d 0 / 16 ≠ 4
  · rw [if_pos h1] at h; omega
  rw [if_neg h1] at h
  by_cases h2 : emEnd d < 20 ∨ (d.length : Int) - 8 < emEnd d ∨ be16 d 6 % 8192 ≠ 0
  · rw [if_pos h2] at h; omega
  rw [if_neg h2] at h
  refine ⟨by omega, by omega, by omega, by omega, by omega, ?_⟩
  by_cases h3 : at_ d 9 = 6 ∨ at_ d 9 = 17
  · omega
  rw [if_neg h3] at h
  by_cases h4 : at_ d 9 = 1
  · rw [if_neg (by omega)] at h
    cases hq : qIs (emMsg d) with
    | true => exact Or.inr (Or.inr ⟨h4, rfl⟩)
    | false => rw [hq, if_neg (by decide)] at h; omega
  · rw [if_pos h4] at h; omega
theorem emTup_ok (d : List UInt8) : (emTup d).Ok := by
  have h9 := at_bd d 9
  have z : (0 : Int) ≤ 0 ∧ (0 : Int) ≤ 65535 := by decide
  unfold emTup
  split
  · exact ⟨h9, be32_bd _ _, be16_bd _ _, be32_bd _ _, be16_bd _ _⟩
  · split
    · exact ⟨h9, be32_bd _ _, be16_bd _ _, be32_bd _ _, z⟩
    · exact ⟨h9, be32_bd _ _, z, be32_bd _ _, be16_bd _ _⟩
theorem emTup_p (d : List UInt8) : (emTup d).p = at_ d 9 := by unfold emTup; split; rfl; split <;> rfl
theorem emNew_len {d : List UInt8} (h : emWhy d = 0) (a b c dd : Int) : (emNew d a b c dd).length = d.length := by
  obtain ⟨h1, h2, h3, _⟩ := emWhy_parts h
  exact emCh_len h3 (by omega)
/-- how long the changed error is -/
theorem tr_size0 {s : ByteArray} {a b c d : Int} (e1 : seenWhy s = 0) (e2 : (seenOf s).k = 3) (hrw : rwWhy s = 0) (ha : 0 ≤ a ∧ a ≤ 4294967295) (hb : 0 ≤ b ∧ b ≤ 65535) (hc : 0 ≤ c ∧ c ≤ 4294967295) (hd : 0 ≤ d ∧ d ≤ 65535) :
    ∃ k : Nat, ((k : Nat) : Int) = at_ (L s) 0 % 16 * 4 ∧ 20 ≤ k ∧ k ≤ 60 ∧ (rwOut s a b c d).size = k + 8 + (emData s).size ∧ (rwOut s a b c d).size ≤ 2048 ∧ 1 ≤ s.size := by
  obtain ⟨H, P, R, hs, w, h1, h2, h3, h4, h5, h6, h7, h8⟩ := err_whole e1 e2
  have hl : 2 ≤ at_ H 8 := by
    unfold rwWhy at hrw
    rw [if_neg (by omega)] at hrw
    by_cases hz : (seenOf s).l < 2
    · rw [if_pos hz] at hrw; omega
    · omega
  subst hs
  obtain ⟨G, Q, _, _, _, _, ho, hg, hq, _⟩ := out_whole R w h1 hl ha hb hc hd
  have h60 := w.h60
  have h20 := w.h20
  have hbig := w.big
  have hown := w.own
  refine ⟨H.length, ?_, h20, h60, ?_, ?_, ?_⟩
  · rw [← hown, L_S, List.append_assoc]
    unfold ipOwn
    rw [at_left (by omega)]
  · rw [ho, S_size, (emData_of h4).1, S_size, List.length_append, List.length_drop, hg, hq]; omega
  · rw [ho, S_size, List.length_append, hg, hq]; exact hbig
  · rw [S_size]; simp; omega
theorem tr_size {s : ByteArray} {a b c d : Int} (h : trWhy s = 0) (ha : 0 ≤ a ∧ a ≤ 4294967295) (hb : 0 ≤ b ∧ b ≤ 65535) (hc : 0 ≤ c ∧ c ≤ 4294967295) (hd : 0 ≤ d ∧ d ≤ 65535) :
    ∃ k : Nat, ((k : Nat) : Int) = at_ (L s) 0 % 16 * 4 ∧ 20 ≤ k ∧ k ≤ 60 ∧ (rwOut s a b c d).size = k + 8 + (emData s).size ∧ (rwOut s a b c d).size ≤ 2048 ∧ 1 ≤ s.size := by
  have hes : emsWhy s = 0 := by
    by_cases h1 : emsWhy s = 0
    · exact h1
    · unfold trWhy at h; rw [if_pos h1] at h; exact h
  have hrw : rwWhy s = 0 := by unfold trWhy at h; rw [if_neg (by omega)] at h; exact h
  obtain ⟨e1, e2, e3⟩ := ems_seen hes
  exact tr_size0 e1 e2 hrw ha hb hc hd
end Go.Proofs.YtilfcikhipadpaaGreatDoor
end

section
/- What an error is about, the program's and the document's. -/
set_option linter.unusedVariables false
set_option linter.unusedSimpArgs false
namespace Go.Proofs.YtilfcikhipadpaaGreatDoor
open Go.RowKit Go.Lib Rx
/-- the tuple of the packet that an error is about -/
def inTup (s : ByteArray) : Tup := if emsWhy s = 0 then emTup (L (emData s)) else ⟨0, 0, 0, 0, 0⟩
@[reducible] def tuT (t : Tup) (r : Int) : Value := .tuple #[.agg #[.int .u8 t.p, .int .u32 t.a, .int .u16 t.b, .int .u32 t.c, .int .u16 t.d], .int .i64 r]
/-- of some bytes -/
def inD (d : List UInt8) : Value := tuT (if emWhy d = 0 then emTup d else ⟨0, 0, 0, 0, 0⟩) (emWhy d)
theorem at_part {d : ByteArray} {n k : Nat} : at_ (L (d.extract n d.size)) k = at_ (L d) (n + k) := by rw [L_from, at_drop]
theorem get16_part {d : ByteArray} {n k : Nat} (h : n + k + 2 ≤ d.size) : get16 (L (d.extract n d.size)) (k : Nat) = be16 (L d) (n + k) := by
  have : (L d).length = d.size := L_length d
  rw [get16_nat (by rw [L_from, List.length_drop]; omega), L_from, be16_drop]
/-- the chain of what is asked of some bytes, as both ask -/
theorem emq_is (d : ByteArray) : let E := emEnd (L d); let q := qIs (emMsg (L d)); let a := qAsk (emMsg (L d));
    inD (L d) = (bif decide ((d.size : Int) < 20) then tuT ⟨0, 0, 0, 0, 0⟩ 15 else bif at_ (L d) 0 / 16 != 4 then tuT ⟨0, 0, 0, 0, 0⟩ 15 else bif decide (E < 20) then tuT ⟨0, 0, 0, 0, 0⟩ 15 else bif decide ((d.size : Int) - 8 < E) then tuT ⟨0, 0, 0, 0, 0⟩ 15
      else bif get16 (L d) 6 % 8192 != 0 then tuT ⟨0, 0, 0, 0, 0⟩ 15 else bif at_ (L d) 9 == 6 then tuT ⟨at_ (L d) 9, get32 (L d) 12, be16 (L d) (emAt (L d)), get32 (L d) 16, be16 (L d) (emAt (L d) + 2)⟩ 0
      else bif at_ (L d) 9 == 17 then tuT ⟨at_ (L d) 9, get32 (L d) 12, be16 (L d) (emAt (L d)), get32 (L d) 16, be16 (L d) (emAt (L d) + 2)⟩ 0
      else bif at_ (L d) 9 == 1 then (bif q then (bif a then tuT ⟨at_ (L d) 9, get32 (L d) 12, be16 (L d) (emAt (L d) + 4), get32 (L d) 16, 0⟩ 0 else tuT ⟨at_ (L d) 9, get32 (L d) 12, 0, get32 (L d) 16, be16 (L d) (emAt (L d) + 4)⟩ 0) else tuT ⟨0, 0, 0, 0, 0⟩ 15)
      else tuT ⟨0, 0, 0, 0, 0⟩ 6) := by
  intro E q a
  have hl : (L d).length = d.size := L_length d
  unfold inD emWhy emTup
  by_cases h1 : (d.size : Int) < 20
  · simp [hl, h1]
  have g12 : get32 (L d) 12 = be32 (L d) 12 := get32_nat (k := 12) (by omega)
  have g16 : get32 (L d) 16 = be32 (L d) 16 := get32_nat (k := 16) (by omega)
  have g6 : get16 (L d) 6 = be16 (L d) 6 := get16_nat (k := 6) (by omega)
  rw [g12, g16, g6]
  by_cases h2 : at_ (L d) 0 / 16 = 4
  · by_cases h3 : emEnd (L d) < 20
    · simp [hl, h1, h2, E, h3]
    by_cases h4 : (d.size : Int) - 8 < emEnd (L d)
    · simp [hl, h1, h2, E, h3, h4]
    by_cases h5 : be16 (L d) 6 % 8192 = 0
    · by_cases h6 : at_ (L d) 9 = 6
      · simp [hl, h1, h2, E, h3, h4, h5, h6]
      by_cases h7 : at_ (L d) 9 = 17
      · simp [hl, h1, h2, E, h3, h4, h5, h7]
      have b6 : (at_ (L d) 9 == 6) = false := by simpa using h6
      have b7 : (at_ (L d) 9 == 17) = false := by simpa using h7
      by_cases h8 : at_ (L d) 9 = 1
      · cases hq : qIs (emMsg (L d)) <;> cases ha : qAsk (emMsg (L d)) <;> simp [hl, h1, h2, E, h3, h4, h5, h8, q, a, hq, ha]
      · have b8 : (at_ (L d) 9 == 1) = false := by simpa using h8
        simp [hl, h1, h2, E, h3, h4, h5, h6, h7, h8, b6, b7, b8]
    · have b5 : (be16 (L d) 6 % 8192 != 0) = true := by simpa using h5
      simp [hl, h1, h2, E, h3, h4, h5, b5]
  · have b2 : (at_ (L d) 0 / 16 != 4) = true := by simpa using h2
    simp [hl, h1, h2, b2]
/-- what both tell, by what is seen -/
def inR (xr x5 : Int) (d : List UInt8) : Value := bif xr != 0 then tuT ⟨0, 0, 0, 0, 0⟩ xr else bif x5 != 3 then tuT ⟨0, 0, 0, 0, 0⟩ 15 else inD d
theorem em_ports {d : ByteArray} (h1 : 20 ≤ emEnd (L d)) (h2 : emEnd (L d) ≤ (d.size : Int) - 8) : get16 (L d) (emEnd (L d)) = be16 (L d) (emAt (L d)) ∧ get16 (L d) (emEnd (L d) + 2) = be16 (L d) (emAt (L d) + 2) ∧ get16 (L d) (emEnd (L d) + 4) = be16 (L d) (emAt (L d) + 4) ∧
    get16 (L (d.extract (emEnd (L d)).toNat d.size)) 0 = be16 (L d) (emAt (L d)) ∧ get16 (L (d.extract (emEnd (L d)).toNat d.size)) 2 = be16 (L d) (emAt (L d) + 2) ∧ get16 (L (d.extract (emEnd (L d)).toNat d.size)) 4 = be16 (L d) (emAt (L d) + 4) := by
  have hl : (L d).length = d.size := L_length d
  have e : emEnd (L d) = ((emAt (L d) : Nat) : Int) := by unfold emAt; omega
  have hN : emAt (L d) + 8 ≤ d.size := by omega
  have hE : (emEnd (L d)).toNat = emAt (L d) := rfl
  refine ⟨?_, ?_, ?_, ?_, ?_, ?_⟩
  · rw [e]; exact get16_nat (by omega)
  · rw [show emEnd (L d) + 2 = ((emAt (L d) + 2 : Nat) : Int) by omega]; exact get16_nat (by omega)
  · rw [show emEnd (L d) + 4 = ((emAt (L d) + 4 : Nat) : Int) by omega]; exact get16_nat (by omega)
  · rw [hE]; exact get16_part (k := 0) (by omega)
  · rw [hE]; exact get16_part (k := 2) (by omega)
  · rw [hE]; exact get16_part (k := 4) (by omega)
theorem ei_v (x0 x1 x2 x3 x4 x5 x6 x8 xr a0 a1 a3 a4 a5 a6 r m0 m1 m2 : Int) (x7 a2 mk : Bool) (d : ByteArray) : ei_1_v x0 x1 x2 x3 x4 x5 x6 x8 xr a0 a1 a3 a4 a5 a6 r m0 m1 m2 x7 a2 mk (qAsk (emMsg (L d))) (qIs (emMsg (L d))) d = inR xr x5 (L d) := by
  unfold ei_1_v inR
  by_cases hr : xr = 0
  · by_cases h5 : x5 = 3
    · rw [emq_is]
      by_cases h1 : (d.size : Int) < 20
      · simp [hr, h5, h1]
      by_cases h2 : at_ (L d) 0 / 16 = 4
      · by_cases h3 : emEnd (L d) < 20
        · simp [hr, h5, h1, h2, h3]
        by_cases h4 : (d.size : Int) - 8 < emEnd (L d)
        · simp [hr, h5, h1, h2, h3, h4]
        obtain ⟨p0, p2, p4, _⟩ := em_ports (d := d) (by omega) (by omega)
        rw [p0, p2, p4, hr, h5]
      · have b2 : (at_ (L d) 0 / 16 != 4) = true := by simpa using h2
        simp [hr, h5, h1, h2, b2]
    · have b5 : (x5 != 3) = true := by simpa using h5
      simp [hr, h5, b5]
  · have br : (xr != 0) = true := by simpa using hr
    simp [br]
theorem di_v (x0 x1 x2 x3 x4 x5 x6 x8 xr a0 a1 a3 a4 a5 a6 r m0 m1 m2 : Int) (x7 a2 mk : Bool) (d : ByteArray) : di_1_v x0 x1 x2 x3 x4 x5 x6 x8 xr a0 a1 a3 a4 a5 a6 r m0 m1 m2 x7 a2 mk (qAsk (emMsg (L d))) (qIs (emMsg (L d))) d = inR xr x5 (L d) := by
  unfold di_1_v inR
  by_cases hr : xr = 0
  · by_cases h5 : x5 = 3
    · rw [emq_is]
      by_cases h1 : (d.size : Int) < 20
      · simp [hr, h5, h1]
      by_cases h2 : at_ (L d) 0 / 16 = 4
      · by_cases h3 : emEnd (L d) < 20
        · simp [hr, h5, h1, h2, h3]
        by_cases h4 : (d.size : Int) - 8 < emEnd (L d)
        · by_cases h6 : emEnd (L d) > (d.size : Int)
          · simp [hr, h5, h1, h2, h3, h4, h6]
          · have h7 : (d.size : Int) - emEnd (L d) < 8 := by omega
            cases hb : get16 (L d) 6 % 8192 != 0 <;> simp [hr, h5, h1, h2, h3, h4, h6, h7, hb]
        · have h6 : ¬ emEnd (L d) > (d.size : Int) := by omega
          have h7 : ¬ (d.size : Int) - emEnd (L d) < 8 := by omega
          obtain ⟨_, _, _, p0, p2, p4⟩ := em_ports (d := d) (by omega) (by omega)
          rw [p0, p2, p4, hr, h5]
          by_cases q1 : at_ (L d) 9 = 1
          · cases hb : get16 (L d) 6 % 8192 != 0 <;> simp [h1, h2, h3, h4, h6, h7, hb, q1]
          · have b1 : (at_ (L d) 9 == 1) = false := by simpa using q1
            have b1' : (at_ (L d) 9 != 1) = true := by simpa using q1
            cases hb : get16 (L d) 6 % 8192 != 0 <;> simp [h1, h2, h3, h4, h6, h7, hb, b1, b1']
      · have b2 : (at_ (L d) 0 / 16 != 4) = true := by simpa using h2
        simp [hr, h5, h1, h2, b2]
    · have b5 : (x5 != 3) = true := by simpa using h5
      simp [hr, h5, b5]
  · have br : (xr != 0) = true := by simpa using hr
    simp [br]
theorem msg_is {s : ByteArray} (h : seenWhy s = 0) (hk : (seenOf s).k = 3) : 8 ≤ (ipRest s).size := by
  have hw : ipWhy s = 0 := Decidable.byContradiction fun hn => hn (by unfold seenWhy at h; rw [if_neg hn] at h; exact h)
  have h1 : loadWhy (hdOf s).p (ipRest s) = 0 := by unfold seenWhy at h; rw [if_pos hw] at h; exact h
  have h2 : seenOf s = loadSeen (hdOf s) (ipRest s) := by unfold seenOf; rw [if_pos h]
  rw [h2] at hk
  exact (seen_err h1 hk).2.1
theorem inR_is (s : ByteArray) (m : Msg) (hm : 8 ≤ (ipRest s).size → m = msgOf (ipRest s)) : inR (seenWhy s) (seenOf s).k (L m.d) = tuT (inTup s) (emsWhy s) := by
  unfold inR inTup emsWhy
  by_cases h : seenWhy s = 0
  · by_cases hk : (seenOf s).k = 3
    · rw [hm (msg_is h hk)]
      simp only [h, hk, ne_eq, not_true, if_false, bne_self_eq_false, cond]
      rfl
    · have b : ((seenOf s).k != 3) = true := by simpa using hk
      simp [h, hk, b]
  · have b : (seenWhy s != 0) = true := by simpa using h
    simp [h, b]
theorem rest_sz {s : ByteArray} (hs : s.size ≤ 140737488351232) : (ipRest s).size ≤ 140737488351232 := by
  unfold ipRest; split
  · rw [ByteArray.size_extract]; omega
  · decide
theorem emMsg_at (d : ByteArray) : emMsg (L d) = ⟨at_ (L d) (emEnd (L d)).toNat, at_ (L d) (emEnd (L d) + 1).toNat, 0, { data := #[] }, { data := #[] }⟩ := by
  unfold emMsg emAt
  have : 0 ≤ emEnd (L d) := by have := at_bd (L d) 0; unfold emEnd; omega
  rw [show (emEnd (L d) + 1).toNat = (emEnd (L d)).toNat + 1 by omega]
theorem emMsg_part (d : ByteArray) : emMsg (L d) = ⟨at_ (L (d.extract (emEnd (L d)).toNat d.size)) 0, at_ (L (d.extract (emEnd (L d)).toNat d.size)) 1, 0, { data := #[] }, { data := #[] }⟩ := by
  rw [at_part, at_part]; rfl
theorem emMsg_ok (d : ByteArray) : (emMsg (L d)).Ok := ⟨at_bd _ _, at_bd _ _, (by decide : (0 : Int) ≤ 0 ∧ (0 : Int) ≤ 65535), (by decide : ({ data := #[] } : ByteArray).size ≤ 140737488351232), (by decide : ({ data := #[] } : ByteArray).size ≤ 140737488351232)⟩
theorem e_Inner (w : World) (s : ByteArray) (K0 : Kinds w) (hs : s.size ≤ 140737488351232) : Calls Tryz.prog 31 #[.string s] w (Ret (tuT (inTup s) (emsWhy s)) w) := by
  obtain ⟨m, hm, mo, c4, _⟩ := msg_any (ipRest s) (rest_sz hs)
  have cq := fun W (b : Below w.heap.size w W) => i_Query (emMsg (L m.d)) W (emMsg_ok m.d) (K0.below b)
  rw [emMsg_at] at cq
  have k := ei_1 s w _ _ _ _ _ _ _ _ _ _ _ _ _ _ _ _ _ _ _ _ _ _ _ _ _ _ _ _ mo.2.2.2.2 (fun W b => tu_Of s W (K0.below b) hs) (fun W _ => ip_Parse s W hs) (fun W _ => c4 W) cq
  rw [← emMsg_at, ei_v, inR_is s m hm] at k
  exact k
theorem rd_Inner (s : ByteArray) (w : World) (hs : s.size ≤ 140737488351232) : Calls Tryz.prog 38 #[.string s] w (Ret (tuT (inTup s) (emsWhy s)) w) := by
  obtain ⟨m, hm, mo, _, c4⟩ := msg_any (ipRest s) (rest_sz hs)
  have cq := fun W (b : Below w.heap.size w W) => r7_Query (emMsg (L m.d)) W
  rw [emMsg_part] at cq
  have k := di_1 s w _ _ _ _ _ _ _ _ _ _ _ _ _ _ _ _ _ _ _ _ _ _ _ _ _ _ _ _ mo.2.2.2.2 (fun W b => o_Of s W hs) (fun W _ => r4_Parse s W hs) (fun W _ => c4 W) cq
  rw [← emMsg_part, di_v, inR_is s m hm] at k
  exact k
end Go.Proofs.YtilfcikhipadpaaGreatDoor
end

section
/- binds.See, the program's and the document's. -/
set_option linter.unusedVariables false
namespace Go.Proofs.YtilfcikhipadpaaGreatDoor
open Go.RowKit Go.Lib

def seenV (x : Seen) : Value := .agg #[.int .u8 x.t.p, .int .u32 x.t.a, .int .u16 x.t.b, .int .u32 x.t.c, .int .u16 x.t.d, .int .i64 x.k, .int .u8 x.f, .bool x.q, .int .u8 x.l]
def tupV (t : Tup) : Value := .agg #[.int .u8 t.p, .int .u32 t.a, .int .u16 t.b, .int .u32 t.c, .int .u16 t.d]
def glanceV (x : Seen) (t : Tup) (r : Int) : Value := .tuple #[.agg #[.int .u8 x.t.p, .int .u32 x.t.a, .int .u16 x.t.b, .int .u32 x.t.c, .int .u16 x.t.d, .int .i64 x.k, .int .u8 x.f, .bool x.q, .int .u8 x.l, .int .u8 t.p, .int .u32 t.a, .int .u16 t.b, .int .u32 t.c, .int .u16 t.d], .int .i64 r]
/-- the other way about -/
def backT (t : Tup) : Tup := ⟨t.p, t.c, t.d, t.a, t.b⟩
def tup0 : Tup := ⟨0, 0, 0, 0, 0⟩
/-- what is seen, by what is seen of a packet, and of what an error is about -/
def seeV (X : Seen) (r : Int) (T : Tup) (q : Int) : Value :=
  if r ≠ 0 then glanceV seenNone tup0 r else if X.l < 2 then glanceV seenNone tup0 8 else if X.k ≠ 3 then glanceV X X.t 0 else if q ≠ 0 then glanceV seenNone tup0 q else if T.a ≠ X.t.c then glanceV seenNone tup0 15 else glanceV X (backT T) 0
theorem b_see (s : ByteArray) (w : World) (X : Seen) (r : Int) (T : Tup) (q : Int)
    (c1 : ∀ W, Below w.heap.size w W → Calls Tryz.prog 27 #[.string s] W (Ret (.tuple #[seenV X, .int .i64 r]) W))
    (c2 : ∀ W, Below w.heap.size w W → Calls Tryz.prog 31 #[.string s] W (Ret (.tuple #[tupV T, .int .i64 q]) W)) :
    Calls Tryz.prog 11 #[.string s] w (Ret (seeV X r T q) w) := by
  unfold seeV
  split
  · rename_i h1
    exact Rx.run [Rx.does 3 (args := [.string s]) c1, Rx.yes 12 (bne_iff_ne.2 h1)]
  rename_i h1
  have h1 : r = 0 := Decidable.not_not.1 h1
  subst h1
  split
  · rename_i h2
    exact Rx.run [Rx.does 3 (args := [.string s]) c1, Rx.yes 16 (decide_eq_true h2)]
  rename_i h2
  split
  · rename_i h3
    exact Rx.run [Rx.does 3 (args := [.string s]) c1, Rx.no 16 (decide_eq_false h2), Rx.yes 20 (bne_iff_ne.2 h3)]
  rename_i h3
  have h3 : (X.k != 3) = false := by simpa using h3
  split
  · rename_i h4
    exact Rx.run [Rx.does 3 (args := [.string s]) c1, Rx.no 16 (decide_eq_false h2), Rx.no 20 h3, Rx.does 22 (args := [.string s]) c2, Rx.yes 31 (bne_iff_ne.2 h4)]
  rename_i h4
  have h4 : q = 0 := Decidable.not_not.1 h4
  subst h4
  split
  · rename_i h5
    exact Rx.run [Rx.does 3 (args := [.string s]) c1, Rx.no 16 (decide_eq_false h2), Rx.no 20 h3, Rx.does 22 (args := [.string s]) c2, Rx.yes 40 (bne_iff_ne.2 h5)]
  rename_i h5
  have h5 : (T.a != X.t.c) = false := by simpa using h5
  exact Rx.run [Rx.does 3 (args := [.string s]) c1, Rx.no 16 (decide_eq_false h2), Rx.no 20 h3, Rx.does 22 (args := [.string s]) c2, Rx.no 40 h5]
theorem d_see (s : ByteArray) (w : World) (X : Seen) (r : Int) (T : Tup) (q : Int)
    (c1 : ∀ W, Below w.heap.size w W → Calls Tryz.prog 37 #[.string s] W (Ret (.tuple #[seenV X, .int .i64 r]) W))
    (c2 : ∀ W, Below w.heap.size w W → Calls Tryz.prog 38 #[.string s] W (Ret (.tuple #[tupV T, .int .i64 q]) W)) :
    Calls Tryz.prog 12 #[.string s] w (Ret (seeV X r T q) w) := by
  unfold seeV
  split
  · rename_i h1
    exact Rx.run [Rx.does 3 (args := [.string s]) c1, Rx.yes 12 (bne_iff_ne.2 h1)]
  rename_i h1
  have h1 : r = 0 := Decidable.not_not.1 h1
  subst h1
  split
  · rename_i h2
    exact Rx.run [Rx.does 3 (args := [.string s]) c1, Rx.yes 16 (decide_eq_true h2)]
  rename_i h2
  split
  · rename_i h3
    have h3 : (X.k == 3) = false := by simpa using h3
    exact Rx.run [Rx.does 3 (args := [.string s]) c1, Rx.no 16 (decide_eq_false h2), Rx.no 24 h3]
  rename_i h3
  have h3 : (X.k == 3) = true := by simpa using h3
  split
  · rename_i h4
    exact Rx.run [Rx.does 3 (args := [.string s]) c1, Rx.no 16 (decide_eq_false h2), Rx.yes 24 h3, Rx.does 26 (args := [.string s]) c2, Rx.yes 35 (bne_iff_ne.2 h4)]
  rename_i h4
  have h4 : q = 0 := Decidable.not_not.1 h4
  subst h4
  split
  · rename_i h5
    exact Rx.run [Rx.does 3 (args := [.string s]) c1, Rx.no 16 (decide_eq_false h2), Rx.yes 24 h3, Rx.does 26 (args := [.string s]) c2, Rx.yes 44 (bne_iff_ne.2 h5)]
  rename_i h5
  have h5 : (T.a != X.t.c) = false := by simpa using h5
  exact Rx.run [Rx.does 3 (args := [.string s]) c1, Rx.no 16 (decide_eq_false h2), Rx.yes 24 h3, Rx.does 26 (args := [.string s]) c2, Rx.no 44 h5]
/-- See, of any text -/
theorem b_See (s : ByteArray) (w : World) (K : Kinds w) (hs : s.size ≤ 140737488351232) : Calls Tryz.prog 11 #[.string s] w (Ret (seeV (seenOf s) (seenWhy s) (inTup s) (emsWhy s)) w) :=
  b_see s w _ _ _ _ (fun W h => tu_Of s W (K.below h) hs) (fun W h => e_Inner W s (K.below h) hs)
theorem d_See (s : ByteArray) (w : World) (hs : s.size ≤ 140737488351232) : Calls Tryz.prog 12 #[.string s] w (Ret (seeV (seenOf s) (seenWhy s) (inTup s) (emsWhy s)) w) :=
  d_see s w _ _ _ _ (fun W h => o_Of s W hs) (fun W h => rd_Inner s W hs)
end Go.Proofs.YtilfcikhipadpaaGreatDoor
end
