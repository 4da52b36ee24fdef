/- What the seal of a segment says: plain facts. -/
import Derived.Test.YtlmpoikjjidgiaaTcp2
import Derived.Test.YtlmpoikjjidgiaaStr
import Derived.Test.YtlmpoikjjidgiaaBytes
set_option linter.unusedVariables false
namespace Go.Proofs.Ytlmpoikjjidgiaa
open Go.RowKit
attribute [local go_sem] Oper.semAt_some

theorem tcpSeal_lay (a b : Int) {l : List UInt8} (h : 20 ≤ l.length) : tcpSeal a b l = lay l 16 (tcpSum a b l) := by
  unfold tcpSeal; rw [if_neg (by omega)]
theorem tcpOk_seal (a b : Int) {l : List UInt8} (h : 20 ≤ l.length) : tcpOk a b (S (lay l 16 (tcpSum a b l))) = true := by
  have hb := tcpSum_bd a b l
  have hz := lay_length (l := l) (k := 16) (n := tcpSum a b l) (by omega)
  have hh := lay_holds [pseudo a b 6 l.length] (l := l) (k := 16) (n := tcpSum a b l) (by omega) (by omega) (Or.inl rfl)
  unfold tcpOk
  rw [S_size, L_S, hz]
  rw [show holds [pseudo a b 6 l.length, lay l 16 (tcpSum a b l)] = true from hh]
  simp; omega
theorem tcpOk_flip (a b : Int) (s : ByteArray) (k : Nat) (hk : k < 8 * s.size) (h : tcpOk a b s = true) :
    tcpOk a b (S (flip (L s) k)) = false := by
  have hz := flip_length (L s) k
  have hh : holds ([pseudo a b 6 s.size] ++ [L s]) = true := by
    unfold tcpOk at h
    simp at h
    exact h.2
  have hf := holds_flip [pseudo a b 6 s.size] (L s) k (by rw [L_length]; exact hk) hh
  unfold tcpOk
  rw [S_size, L_S, hz, L_length]
  rw [show holds [pseudo a b 6 s.size, flip (L s) k] = false from hf]
  simp
theorem tcpSeal_again (a b : Int) {l : List UInt8} (h : 20 ≤ l.length) : tcpSeal a b (lay l 16 (tcpSum a b l)) = lay l 16 (tcpSum a b l) := by
  have hz := lay_length (l := l) (k := 16) (n := tcpSum a b l) (by omega)
  rw [tcpSeal_lay a b (by omega)]
  have e : tcpSum a b (lay l 16 (tcpSum a b l)) = tcpSum a b l := by
    have e2 : lay (lay l 16 (tcpSum a b l)) 16 0 = lay l 16 0 := lay_lay (by omega)
    show sumL [pseudo a b 6 (lay l 16 (tcpSum a b l)).length, lay (lay l 16 (tcpSum a b l)) 16 0] = _
    rw [hz, e2]; rfl
  rw [e, lay_lay (by omega)]
end Go.Proofs.Ytlmpoikjjidgiaa
