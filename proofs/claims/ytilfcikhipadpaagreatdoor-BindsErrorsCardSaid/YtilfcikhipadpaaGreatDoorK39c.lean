/- Several texts of this claim, one behind the other. -/
import Derived.Lib.QuoteBits
import Derived.Test.YtilfcikhipadpaaGreatDoorK34d
import Derived.KernelRfl

section
/- An error's bytes on the way of Translate: by their names. Plain. -/
set_option linter.unusedVariables false
set_option linter.unusedSimpArgs false
namespace Go.Proofs.YtilfcikhipadpaaGreatDoor
open Go.RowKit Go.Lib
variable {m out X : ByteArray} {a b c d : Int}
/-- the header's sum, with other addresses -/
def tN0 (m : ByteArray) (a c : Int) : Int := updates (get16 (L m) 10) (L (m.extract 12 20)) (ipsOf a c)
def tS1 (m : ByteArray) (a c : Int) : ByteArray := S ((L m).take 12 ++ (ipsOf a c ++ (L m).drop 20))
def tS2 (m : ByteArray) (a c : Int) : ByteArray := S (emMid (L m) a c)
def tS3 (m : ByteArray) (a b c d : Int) : ByteArray := S (emFlowL (emMid (L m) a c) (emAt (L m)) b d)
def tWas (m : ByteArray) : ByteArray := S (ipsOf (get32 (L m) 12) (get32 (L m) 16) ++ putW [get16 (L m) (emEnd (L m)), get16 (L m) (emEnd (L m) + 2)])
def tNow (a b c d : Int) : ByteArray := S (ipsOf a c ++ putW [b, d])
def tN (m : ByteArray) (a b c d : Int) (k : Int) : Int := updates (get16 (L (tS3 m a b c d)) (emEnd (L m) + k)) (L (tWas m)) (L (tNow a b c d))
/-- with a number k bytes behind the inner header -/
def tL (m : ByteArray) (a b c d : Int) (k n : Int) : ByteArray := S (lay (L (tS3 m a b c d)) (emEnd (L m) + k).toNat n)
def tM (m : ByteArray) (a c id : Int) : Int := upd (get16 (L (tS2 m a c)) (emEnd (L m) + 2)) (get16 (L (tS2 m a c)) (emEnd (L m) + 4)) id
def tS5 (m : ByteArray) (a c id : Int) : ByteArray := S (lay (L (tS2 m a c)) (emEnd (L m) + 4).toNat id)
def tS6 (m : ByteArray) (a c id : Int) : ByteArray := S (lay (L (tS5 m a c id)) (emEnd (L m) + 2).toNat (tM m a c id))
/-- how many bytes are summed -/
def emEven0 (l : List UInt8) : Nat := l.length / 2 * 2
def tEv (m : ByteArray) : Int := ((emEven0 (L m) : Nat) : Int)
def tSum (m X : ByteArray) (n : Int) : Int := updates n (L (m.extract 0 (emEven0 (L m)))) (L (X.extract 0 (emEven0 (L m))))
def tO1 (out m X : ByteArray) : ByteArray := S ((L out).take (out.size - m.size) ++ L X)
def tO2 (out m X : ByteArray) (n : Int) : ByteArray := S (lay (L (tO1 out m X)) (out.size - m.size - 6) (tSum m X n))
theorem tPut_in {l : List UInt8} {k : Nat} {p : List UInt8} (h : k + p.length ≤ l.length) : putAt l (k : Int) p = l.take k ++ (p ++ l.drop (k + p.length)) := by
  unfold putAt
  rw [if_pos (by unfold has; simp; omega)]
  rfl
theorem tLay_put {l : List UInt8} {k : Nat} {n : Int} (h : k + 2 ≤ l.length) : putAt l (k : Int) (putW [n]) = lay l k n := by
  rw [tPut_in (by exact h)]
  unfold lay
  rw [List.append_assoc]
  rfl
theorem tLay_at {s : ByteArray} {i : Int} {n : Int} (h0 : 0 ≤ i) (h : i + 2 ≤ s.size) : S (putAt (L s) i (L (S (putW [n])))) = S (lay (L s) i.toNat n) := by
  have : (L s).length = s.size := L_length s
  have e := tLay_put (l := L s) (k := i.toNat) (n := n) (by omega)
  rw [show ((i.toNat : Nat) : Int) = i by omega] at e
  exact congrArg S e
theorem tS1_is (h : 20 ≤ m.size) : S (putAt (L m) 12 (L (S (ipsOf a c)))) = tS1 m a c := by
  have : (L m).length = m.size := L_length m
  exact congrArg S (tPut_in (l := L m) (k := 12) (p := ipsOf a c) (by rw [ipsOf_len]; omega))
theorem tS1_size (h : 20 ≤ m.size) : (tS1 m a c).size = m.size := by
  have : (L m).length = m.size := L_length m
  unfold tS1
  rw [S_size]
  simp only [List.length_append, List.length_take, List.length_drop, ipsOf_len]; omega
theorem tN0_bd : 0 ≤ tN0 m a c ∧ tN0 m a c ≤ 65535 := updates_bd (get16_bd _ _)
theorem tS2_is (h : 20 ≤ m.size) : S (putAt (L (tS1 m a c)) 10 (L (S (putW [tN0 m a c])))) = tS2 m a c := by
  have hl : (L m).length = m.size := L_length m
  rw [tLay_at (by decide) (by rw [tS1_size h]; omega)]
  unfold tS2 emMid tS1 tN0
  rw [L_S, L_extract, show get16 (L m) 10 = be16 (L m) 10 from get16_nat (k := 10) (by omega)]
  rfl
theorem tS2_size (h : 20 ≤ m.size) : (tS2 m a c).size = m.size := by
  unfold tS2; rw [S_size, emMid_len (by rw [L_length]; exact h), L_length]
theorem em_at (h : 20 ≤ emEnd (L m)) : emEnd (L m) = ((emAt (L m) : Nat) : Int) := by unfold emAt; omega
theorem tS3_is (h20 : 20 ≤ m.size) (h1 : 20 ≤ emEnd (L m)) (h2 : emEnd (L m) + 8 ≤ m.size) : S (putAt (L (tS2 m a c)) (emEnd (L m)) (L (S (putW [b, d])))) = tS3 m a b c d := by
  have hl : (L m).length = m.size := L_length m
  have e := em_at h1
  have hm : (emMid (L m) a c).length = (L m).length := emMid_len (by omega)
  rw [e]
  exact congrArg S (tPut_in (l := emMid (L m) a c) (k := emAt (L m)) (p := putW [b, d]) (by rw [putW2_len, hm]; omega))
theorem tS3_size (h20 : 20 ≤ m.size) (h1 : 20 ≤ emEnd (L m)) (h2 : emEnd (L m) + 8 ≤ m.size) : (tS3 m a b c d).size = m.size := by
  have hl : (L m).length = m.size := L_length m
  have e := em_at h1
  have hm : (emMid (L m) a c).length = (L m).length := emMid_len (by omega)
  unfold tS3; rw [S_size, emFlowL_len (by omega), hm, hl]
theorem tWas_is : S (ipsOf (get32 (L m) 12) (get32 (L m) 16)) ++ S (putW [get16 (L m) (emEnd (L m)), get16 (L m) (emEnd (L m) + 2)]) = tWas m := S_append _ _
theorem tN_bd (k : Int) : 0 ≤ tN m a b c d k ∧ tN m a b c d k ≤ 65535 := updates_bd (get16_bd _ _)
theorem tM_bd (id : Int) (h : 0 ≤ id ∧ id ≤ 65535) : 0 ≤ tM m a c id ∧ tM m a c id ≤ 65535 := upd_bd (get16_bd _ _) (get16_bd _ _) h
theorem tL_size (k n : Int) (h20 : 20 ≤ m.size) (h1 : 20 ≤ emEnd (L m)) (h2 : emEnd (L m) + 8 ≤ m.size) (hk : 0 ≤ k) (h3 : emEnd (L m) + k + 2 ≤ m.size) : (tL m a b c d k n).size = m.size := by
  have z := tS3_size (a := a) (b := b) (c := c) (d := d) h20 h1 h2
  unfold tL; rw [S_size, lay_length (by rw [L_length, z]; omega), L_length, z]
theorem tS5_size (id : Int) (h20 : 20 ≤ m.size) (h1 : 20 ≤ emEnd (L m)) (h2 : emEnd (L m) + 8 ≤ m.size) : (tS5 m a c id).size = m.size := by
  have z := tS2_size (a := a) (c := c) h20
  unfold tS5; rw [S_size, lay_length (by rw [L_length, z]; omega), L_length, z]
theorem tS6_size (id : Int) (h20 : 20 ≤ m.size) (h1 : 20 ≤ emEnd (L m)) (h2 : emEnd (L m) + 8 ≤ m.size) : (tS6 m a c id).size = m.size := by
  have z := tS5_size (a := a) (c := c) id h20 h1 h2
  unfold tS6; rw [S_size, lay_length (by rw [L_length, z]; omega), L_length, z]
theorem tO1_is (hX : X.size = m.size) (h : m.size ≤ out.size) : S (putAt (L out) ((out.size : Int) - m.size) (L X)) = tO1 out m X := by
  have h1 : (L out).length = out.size := L_length out
  have h2 : (L X).length = X.size := L_length X
  have e := tPut_in (l := L out) (k := out.size - m.size) (p := L X) (by omega)
  rw [show (((out.size - m.size : Nat) : Nat) : Int) = (out.size : Int) - m.size by omega] at e
  rw [e, List.drop_of_length_le (by omega), List.append_nil]
  rfl
theorem tO1_size (hX : X.size = m.size) (h : m.size ≤ out.size) : (tO1 out m X).size = out.size := by
  have h1 : (L out).length = out.size := L_length out
  have h2 : (L X).length = X.size := L_length X
  unfold tO1; rw [S_size, List.length_append, List.length_take]; omega
theorem tO2_is (n : Int) (hX : X.size = m.size) (h : m.size + 6 ≤ out.size) : S (putAt (L (tO1 out m X)) ((out.size : Int) - m.size - 6) (L (S (putW [tSum m X n])))) = tO2 out m X n := by
  rw [tLay_at (by omega) (by rw [tO1_size hX (by omega)]; omega)]
  unfold tO2
  rw [show ((out.size : Int) - m.size - 6).toNat = out.size - m.size - 6 by omega]
theorem tSum_bd (n : Int) (h : 0 ≤ n ∧ n ≤ 65535) : 0 ≤ tSum m X n ∧ tSum m X n ≤ 65535 := updates_bd h
theorem tEv_is (h : X.size = m.size) (hm : m.size ≤ 140737488351232) : IntKind.i64.wrap ((BitVec.ofInt IntKind.i64.bits (X.size : Int) &&& ~~~BitVec.ofInt IntKind.i64.bits 1).toNat : Int) = tEv m := by
  have e := Go.Lib.andNot_one X.size (by omega)
  have hl : (L m).length = m.size := L_length m
  refine Eq.trans ?_ (e.trans ?_)
  · rfl
  · unfold tEv emEven0
    rw [h, hl]
theorem tEv_bd : 0 ≤ tEv m ∧ tEv m ≤ m.size := by
  have hl : (L m).length = m.size := L_length m
  unfold tEv emEven0; omega
theorem tLen (out m X : ByteArray) (h : X.size = m.size) (h2 : m.size ≤ out.size ∧ out.size ≤ 140737488351232) : IntKind.i64.wrap ((out.size : Int) - (X.size : Int)) = (out.size : Int) - (m.size : Int) := by
  rw [h]; exact wrap64_id (by omega)
theorem tLen8 (out m : ByteArray) (h2 : m.size + 28 ≤ out.size ∧ out.size ≤ 140737488351232) : IntKind.i64.wrap ((out.size : Int) - (m.size : Int) - 8) = (out.size : Int) - (m.size : Int) - 8 := wrap64_id (by omega)
theorem tLen6 (out m : ByteArray) (h2 : m.size + 28 ≤ out.size ∧ out.size ≤ 140737488351232) : IntKind.i64.wrap ((out.size : Int) - (m.size : Int) - 8 + 2) = (out.size : Int) - (m.size : Int) - 6 := by
  rw [wrap64_id (by omega)]; omega
theorem not16 {x : Int} (h : x = 0) : IntKind.u16.wrap ((BitVec.ofInt IntKind.u16.bits (if IntKind.u16.signed = true then -1 else IntKind.u16.max) ^^^ BitVec.ofInt IntKind.u16.bits x).toNat : Int) = 65535 := by
  subst h; rfl
end Go.Proofs.YtilfcikhipadpaaGreatDoor
end

section
/- All ways: printed (gen/mk.py, gen/tr.spec.py). -/
set_option linter.unusedVariables false
set_option linter.unusedSimpArgs false
namespace Go.Proofs.YtilfcikhipadpaaGreatDoor
open Go.RowKit Go.Lib Rx
def et_1_v (x0 x1 x2 x3 x4 x5 x6 x8 xr a0 a1 a3 a4 a5 a6 r m0 m1 m2 ar : Int) (x7 a2 mk qa qi : Bool) (a7 l m3 m4 out s : ByteArray) (oa ob oc od a b c d : Int) : Value := (bif (xr != 0) then (.tuple #[.string { data := #[] }, .int .i64 xr]) else (bif (x5 != 3) then (.tuple #[.string { data := #[] }, .int .i64 15]) else (bif (decide ((m4.size : Int) < 20)) then (.tuple #[.string { data := #[] }, .int .i64 15]) else (bif (at_ (L m4) 0 / 16 != 4) then (.tuple #[.string { data := #[] }, .int .i64 15]) else (bif (decide (emEnd (L m4) < 20)) then (.tuple #[.string { data := #[] }, .int .i64 15]) else (bif (decide ((m4.size : Int) - 8 < emEnd (L m4))) then (.tuple #[.string { data := #[] }, .int .i64 15]) else (bif (get16 (L m4) 6 % 8192 != 0) then (.tuple #[.string { data := #[] }, .int .i64 15]) else (bif (at_ (L m4) 9 == 6) then (bif (ar != 0) then (.tuple #[.string { data := #[] }, .int .i64 ar]) else (bif (at_ (L m4) 9 == 17) then (.tuple #[]) else (bif (decide (emEnd (L m4) + 16 + 2 ≤ ((tS3 m4 a b c d).size : Int))) then (.tuple #[.string (tO2 out m4 (tL m4 a b c d 16 (tN m4 a b c d 16)) m2), .int .i64 0]) else (.tuple #[.string (tO2 out m4 (tS3 m4 a b c d) m2), .int .i64 0])))) else (bif (at_ (L m4) 9 == 17) then (bif (ar != 0) then (.tuple #[.string { data := #[] }, .int .i64 ar]) else (bif (get16 (L (tS3 m4 a b c d)) (emEnd (L m4) + 6) == 0) then (.tuple #[.string (tO2 out m4 (tS3 m4 a b c d) m2), .int .i64 0]) else (bif (tN m4 a b c d 6 == 0) then (bif (decide (emEnd (L m4) + 6 + 2 ≤ ((tS3 m4 a b c d).size : Int))) then (.tuple #[.string (tO2 out m4 (tL m4 a b c d 6 65535) m2), .int .i64 0]) else (.tuple #[])) else (bif (decide (emEnd (L m4) + 6 + 2 ≤ ((tS3 m4 a b c d).size : Int))) then (.tuple #[.string (tO2 out m4 (tL m4 a b c d 6 (tN m4 a b c d 6)) m2), .int .i64 0]) else (.tuple #[]))))) else (bif (at_ (L m4) 9 == 1) then (bif (qi) then (bif (qa) then (bif (ar != 0) then (.tuple #[.string { data := #[] }, .int .i64 ar]) else (.tuple #[.string (tO2 out m4 (tS6 m4 a c b) m2), .int .i64 0])) else (bif (ar != 0) then (.tuple #[.string { data := #[] }, .int .i64 ar]) else (.tuple #[.string (tO2 out m4 (tS6 m4 a c d) m2), .int .i64 0]))) else (.tuple #[.string { data := #[] }, .int .i64 15])) else (.tuple #[.string { data := #[] }, .int .i64 6])))))))))))
end Go.Proofs.YtilfcikhipadpaaGreatDoor
end
