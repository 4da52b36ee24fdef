/- IcmpBack walked: it returns true and leaves what lay there as it lay. -/
import Derived.Test.YthmedjlecikbiaaDoorIcmp3
set_option linter.unusedVariables false
namespace Go.Proofs.YthmedjlecikbiaaDoor
open Go.RowKit Go.Maps
attribute [local go_sem] Oper.semAt_some

theorem msgPut_length (m : Msg) : (msgPut m).length = 4 + m.r.size + m.d.size := by
  unfold msgPut; simp [put16, L_length]; omega
theorem msg_put_parse {m : Msg} (ho : m.Ok) (h : m.r.size = 4) : msgOf (S (msgPut m)) = m := by
  obtain ⟨⟨t0, t1⟩, ⟨c0, c1⟩, ⟨n0, n1⟩, hr, hd⟩ := ho
  obtain ⟨t, c, n, r, d⟩ := m
  simp only at t0 t1 c0 c1 n0 n1 h
  have hl : (S (msgPut ⟨t, c, n, r, d⟩)).size = 8 + d.size := by rw [S_size, msgPut_length]; simp only; omega
  have e0 : at_ (msgPut ⟨t, c, n, r, d⟩) 0 = t := by
    show ((byt t).toNat : Int) = t
    rw [byt_int _ t0]; omega
  have e1 : at_ (msgPut ⟨t, c, n, r, d⟩) 1 = c := by
    show ((byt c).toNat : Int) = c
    rw [byt_int _ c0]; omega
  have e2 : be16 (msgPut ⟨t, c, n, r, d⟩) 2 = n := by
    show be16 ([byt t, byt c] ++ put16 n ++ L r ++ L d) 2 = n
    rw [List.append_assoc, List.append_assoc, be16_right (by simp)]
    exact be16_put n _ n0 n1
  have hd4 : (msgPut ⟨t, c, n, r, d⟩).drop 4 = L r ++ L d := by
    show ([byt t, byt c] ++ put16 n ++ L r ++ L d).drop 4 = _
    rw [List.append_assoc ([byt t, byt c] ++ put16 n)]
    rfl
  have e3 : (S (msgPut ⟨t, c, n, r, d⟩)).extract 4 8 = r := by
    apply L_inj
    rw [L_extract, L_S, hd4, List.take_append_of_le_length (by rw [L_length]; omega), List.take_of_length_le (by rw [L_length]; omega)]
  have e4 : (S (msgPut ⟨t, c, n, r, d⟩)).extract 8 (S (msgPut ⟨t, c, n, r, d⟩)).size = d := by
    apply L_inj
    rw [L_from, L_S, show (8 : Nat) = 4 + 4 from rfl, ← List.drop_drop, hd4, List.drop_append_of_le_length (by rw [L_length]; omega), List.drop_of_length_le (by rw [L_length]; omega), List.nil_append]
  unfold msgOf
  rw [L_S, e0, e1, e2, e3, e4]
theorem msg_parse_put {s : ByteArray} (h : 8 ≤ s.size) : msgPut (msgOf s) = L s ∧ (msgOf s).r.size = 4 := by
  have hz : (msgOf s).r.size = 4 := by show (s.extract 4 8).size = 4; rw [ByteArray.size_extract]; omega
  refine ⟨?_, hz⟩
  have hl : 8 ≤ (L s).length := by rw [L_length]; exact h
  unfold msgPut msgOf
  simp only
  rw [L_extract, L_from]
  match hq : L s, hl with
  | a :: b :: c :: d :: e :: f :: g :: i :: r, _ =>
    have ha := a.toNat_lt; have hb := b.toNat_lt; have hc := c.toNat_lt; have hd := d.toNat_lt
    have b1 : byt (at_ (a :: b :: c :: d :: e :: f :: g :: i :: r) 0) = a := UInt8.toNat_inj.1 (by rw [byt_toNat]; show ((a.toNat : Int)).toNat % 256 = _; omega)
    have b2 : byt (at_ (a :: b :: c :: d :: e :: f :: g :: i :: r) 1) = b := UInt8.toNat_inj.1 (by rw [byt_toNat]; show ((b.toNat : Int)).toNat % 256 = _; omega)
    have b3 : put16 (be16 (a :: b :: c :: d :: e :: f :: g :: i :: r) 2) = [c, d] := by
      show [byt (((c.toNat : Int) * 256 + (d.toNat : Int)) / 256), byt ((c.toNat : Int) * 256 + (d.toNat : Int))] = _
      rw [show byt (((c.toNat : Int) * 256 + (d.toNat : Int)) / 256) = c from UInt8.toNat_inj.1 (by rw [byt_toNat]; omega), show byt ((c.toNat : Int) * 256 + (d.toNat : Int)) = d from UInt8.toNat_inj.1 (by rw [byt_toNat]; omega)]
    rw [b1, b2, b3]; rfl
/-- no message asks, or is told, and is an error -/
theorem q_apart (m : Msg) : (qIs m && qErr m) = false := by
  unfold qIs qErr
  rcases kindOf_cases m.t with h | h | h | h <;> rw [h] <;> simp
theorem id_at {r : ByteArray} (h : 2 ≤ r.size) {id : Int} (hi : 0 ≤ id ∧ id ≤ 65535) : get16 (L (S (lay (L r) 0 id))) 0 = id := by
  rw [L_S, show (0 : Int) = ((0 : Nat) : Int) from rfl, get16_nat (by rw [lay_length (by rw [L_length]; omega), L_length]; omega)]
  exact lay_at (by rw [L_length]; omega) hi
theorem lay_self {l : List UInt8} {k : Nat} (h : k + 2 ≤ l.length) : lay l k (be16 l k) = l := by
  have e : put16 (be16 l k) = (l.drop k).take 2 := by
    have e2 : (l.drop k).take 2 = [l.getD k 0, l.getD (k + 1) 0] := by
      rw [List.getD_eq_getElem?_getD, List.getD_eq_getElem?_getD, List.getElem?_eq_getElem (show k < l.length by omega), List.getElem?_eq_getElem (show k + 1 < l.length by omega), List.drop_eq_getElem_cons (show k < l.length by omega), List.drop_eq_getElem_cons (show k + 1 < l.length by omega)]
      rfl
    rw [e2]
    have h1 := (l.getD k 0).toNat_lt
    have h2 := (l.getD (k + 1) 0).toNat_lt
    unfold put16 be16 at_
    rw [show byt ((((l.getD k 0).toNat : Int) * 256 + ((l.getD (k + 1) 0).toNat : Int)) / 256) = l.getD k 0 from UInt8.toNat_inj.1 (by rw [byt_toNat]; omega), show byt (((l.getD k 0).toNat : Int) * 256 + ((l.getD (k + 1) 0).toNat : Int)) = l.getD (k + 1) 0 from UInt8.toNat_inj.1 (by rw [byt_toNat]; omega)]
  unfold lay
  rw [e, ← List.drop_drop, List.append_assoc, List.take_append_drop, List.take_append_drop]
theorem msgID_back {m : Msg} (h : 2 ≤ m.r.size) (id : Int) : msgID (msgID m id) (get16 (L m.r) 0) = m := by
  obtain ⟨t, c, n, r, d⟩ := m
  simp only at h
  have hl : 0 + 2 ≤ (L r).length := by rw [L_length]; omega
  unfold msgID
  simp only [if_pos h]
  have hz : (S (lay (L r) 0 id)).size = r.size := by rw [S_size, lay_length hl, L_length]
  rw [hz, if_pos h, L_S, lay_lay hl, show (0 : Int) = ((0 : Nat) : Int) from rfl, get16_nat (by omega), lay_self hl, S_L]
end Go.Proofs.YthmedjlecikbiaaDoor
