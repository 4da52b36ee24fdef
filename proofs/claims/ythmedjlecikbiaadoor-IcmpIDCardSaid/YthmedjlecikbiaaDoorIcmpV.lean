/- IcmpID's plain facts: a message with another ID, whose sum goes along. -/
import Derived.Test.YthmedjlecikbiaaDoorLaw07d
import Derived.Test.YthmedjlecikbiaaDoorVoid
set_option linter.unusedVariables false
namespace Go.Proofs.YthmedjlecikbiaaDoor
open Go.RowKit

/-- a message with another ID, and its sum -/
def msgNew (v : ByteArray) (id : Int) : Msg := ⟨(msgID (msgOf v) id).t, (msgID (msgOf v) id).c, upd (msgOf v).n (get16 (L (msgOf v).r) 0) id, (msgID (msgOf v) id).r, (msgID (msgOf v) id).d⟩
theorem msgNew_put (v : ByteArray) (id : Int) (h8 : 8 ≤ v.size) : ∃ a b e f : UInt8, ∃ r : List UInt8, 2 ≤ r.length ∧ (msgOf v).n = be16 (L v) 2 ∧ get16 (L (msgOf v).r) 0 = (e.toNat : Int) * 256 + (f.toNat : Int) ∧
    L v = a :: b :: (put16 (be16 (L v) 2) ++ e :: f :: r) ∧ msgPut (msgNew v id) = a :: b :: (put16 (upd (msgOf v).n (get16 (L (msgOf v).r) 0) id) ++ (put16 id ++ r)) := by
  have hl : 8 ≤ (L v).length := by rw [L_length]; exact h8
  have hr : L (msgOf v).r = ((L v).drop 4).take 4 := by show L (v.extract 4 8) = _; rw [L_extract]
  have hd : L (msgOf v).d = (L v).drop 8 := by show L (v.extract 8 v.size) = _; rw [L_from]
  have hz : (msgOf v).r.size = 4 := by show (v.extract 4 8).size = 4; rw [ByteArray.size_extract]; omega
  have hyr : L (msgID (msgOf v) id).r = lay (L (msgOf v).r) 0 id := by unfold msgID; simp only; rw [if_pos (by omega), L_S]
  have hyd : (msgID (msgOf v) id).d = (msgOf v).d := rfl
  have hg : get16 (L (msgOf v).r) 0 = be16 (L (msgOf v).r) 0 := by
    rw [show (0 : Int) = ((0 : Nat) : Int) from rfl]; exact get16_nat (by rw [L_length]; omega)
  obtain ⟨a, b, c, d, e, f, g, i, r, hv⟩ : ∃ a b c d e f g i r, L v = a :: b :: c :: d :: e :: f :: g :: i :: r := by
    match hq : L v, hl with
    | a :: b :: c :: d :: e :: f :: g :: i :: r, _ => exact ⟨a, b, c, d, e, f, g, i, r, rfl⟩
  have ha := a.toNat_lt; have hb := b.toNat_lt; have hc := c.toNat_lt; have hdd := d.toNat_lt
  have b1 : byt (at_ (L v) 0) = a := UInt8.toNat_inj.1 (by rw [byt_toNat, hv]; show ((a.toNat : Int)).toNat % 256 = _; omega)
  have b2 : byt (at_ (L v) 1) = b := UInt8.toNat_inj.1 (by rw [byt_toNat, hv]; show ((b.toNat : Int)).toNat % 256 = _; omega)
  have b3 : put16 (be16 (L v) 2) = [c, d] := by
    rw [hv]
    show [byt (((c.toNat : Int) * 256 + (d.toNat : Int)) / 256), byt ((c.toNat : Int) * 256 + (d.toNat : Int))] = _
    rw [show byt (((c.toNat : Int) * 256 + (d.toNat : Int)) / 256) = c from UInt8.toNat_inj.1 (by rw [byt_toNat]; omega), show byt ((c.toNat : Int) * 256 + (d.toNat : Int)) = d from UInt8.toNat_inj.1 (by rw [byt_toNat]; omega)]
  refine ⟨a, b, e, f, g :: i :: r, by simp, rfl, ?_, ?_, ?_⟩
  · rw [hg, hr, hv]; rfl
  · rw [b3, hv]; rfl
  · show [byt (at_ (L v) 0), byt (at_ (L v) 1)] ++ put16 (upd (msgOf v).n (get16 (L (msgOf v).r) 0) id) ++ L (msgID (msgOf v) id).r ++ L (msgID (msgOf v) id).d = _
    rw [b1, b2, hyr, hyd, hd, hr, hv]
    rfl
theorem msgNew_right (v : ByteArray) (id : Int) (h8 : 8 ≤ v.size) (hi : 0 ≤ id ∧ id ≤ 65535) :
    (S (msgPut (msgNew v id))).size = v.size ∧ (S (msgPut (msgNew v id))).extract 6 (S (msgPut (msgNew v id))).size = v.extract 6 v.size ∧
    (trim0 v ≠ { data := #[] } → trim0 (S (msgPut (msgNew v id))) ≠ { data := #[] } → holds [L (S (msgPut (msgNew v id)))] = holds [L v]) := by
  obtain ⟨a, b, e, f, r, hr2, hn, hg, hv, hp⟩ := msgNew_put v id h8
  have hnb := be16_bd (L v) 2
  have he := e.toNat_lt; have hf := f.toNat_lt; have ha := a.toNat_lt; have hb := b.toNat_lt
  have hub := upd_bd (n := (msgOf v).n) (a := get16 (L (msgOf v).r) 0) (b := id) (by rw [hn]; exact hnb) (by rw [hg]; omega) hi
  have hum := upd_mod (n := (msgOf v).n) (a := get16 (L (msgOf v).r) 0) (b := id) (by rw [hn]; exact hnb) (by rw [hg]; omega) hi
  have hzv : v.size = 6 + r.length := by rw [← L_length, hv]; simp [put16]; omega
  have hzt : (msgPut (msgNew v id)).length = 6 + r.length := by rw [hp]; simp [put16]; omega
  refine ⟨by rw [S_size, hzt, hzv], ?_, ?_⟩
  · apply L_inj
    rw [L_from, L_from, L_S, hp, hv]; rfl
  · intro hv0 ht0
    rw [Ne, trim0_void] at hv0 ht0
    have e1 : tot (words (L v)) = ((a.toNat : Int) * 256 + (b.toNat : Int)) + (be16 (L v) 2 + (((e.toNat : Int) * 256 + (f.toNat : Int)) + tot (words r))) := by
      conv => lhs; rw [hv]
      rw [show words (a :: b :: (put16 (be16 (L v) 2) ++ e :: f :: r)) = ((a.toNat : Int) * 256 + (b.toNat : Int)) :: words (put16 (be16 (L v) 2) ++ e :: f :: r) from rfl, words_put _ _ hnb]
      rfl
    have e2 : tot (words (L (S (msgPut (msgNew v id))))) = ((a.toNat : Int) * 256 + (b.toNat : Int)) + (upd (msgOf v).n (get16 (L (msgOf v).r) 0) id + (id + tot (words r))) := by
      rw [L_S, hp, show ∀ l, words (a :: b :: l) = ((a.toNat : Int) * 256 + (b.toNat : Int)) :: words l from fun _ => rfl, words_put _ _ hub, words_put _ _ hi]
      rfl
    have i1 := holds_iff [L v]
    have i2 := holds_iff [L (S (msgPut (msgNew v id)))]
    simp only [List.flatMap_cons, List.flatMap_nil, List.append_nil] at i1 i2
    rw [hn] at hum e2
    rw [hg] at hum e2
    rw [Bool.eq_iff_iff, i1, i2]
    rw [hn, hg] at hub
    generalize tot (words (L (S (msgPut (msgNew v id))))) = T1 at *
    generalize tot (words (L v)) = T2 at *
    generalize upd (be16 (L v) 2) ((e.toNat : Int) * 256 + (f.toNat : Int)) id = u at *
    omega
end Go.Proofs.YthmedjlecikbiaaDoor
