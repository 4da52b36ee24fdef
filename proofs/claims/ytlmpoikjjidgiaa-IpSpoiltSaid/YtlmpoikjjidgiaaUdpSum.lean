/- udp's sums over this program: what is summed of a datagram of one part. -/
import Derived.Test.YtlmpoikjjidgiaaUdp
set_option linter.unusedVariables false
namespace Go.Proofs.Ytlmpoikjjidgiaa
open Go.RowKit
attribute [local go_sem] Oper.semAt_some

/-- what is summed ahead of so many bytes -/
def pseudo (src dst proto : Int) (size : Nat) : List UInt8 := put32 src ++ put32 dst ++ putW [proto, (size : Int) % 65536]
theorem pseudo_length (a b c : Int) (n : Nat) : (pseudo a b c n).length = 12 := rfl

set_option maxHeartbeats 1000000 in
theorem r5_Pseudo (a b p : Int) (n : Nat) (w : World) (ha : 0 ≤ a ∧ a ≤ 4294967295) (hb : 0 ≤ b ∧ b ≤ 4294967295) (hp : 0 ≤ p ∧ p ≤ 255) (hn : n ≤ 140737488351232) :
    Calls Try.prog 39 #[.int .u32 a, .int .u32 b, .int .u8 p, .int .i64 n] w (Ret (.string (S (pseudo a b p n))) w) := by
  have c1 := fun w => r_Put32 a w ha.1 ha.2
  have c2 := fun w => r_Put32 b w hb.1 hb.2
  have hl : ∀ x ∈ [p, (n : Int) % 65536], 0 ≤ x ∧ x ≤ 65535 := by
    intro x hx
    simp only [List.mem_cons, List.not_mem_nil, or_false] at hx
    rcases hx with rfl | rfl <;> omega
  have c3 := fun W => r_Word (some ⟨W.heap.size, 0, none⟩) 2 2 [p, (n : Int) % 65536] (W.alloc (.cells #[.int .u16 p, .int .u16 ((n : Int) % 65536)] 22)) (Row.freshAt W #[.int .u16 p, .int .u16 ((n : Int) % 65536)] 22 W.heap.size _ _ rfl rfl rfl) hl (by omega)
  obtain ⟨s1, e1⟩ : ∃ s, s = S (put32 a) := ⟨_, rfl⟩
  obtain ⟨s2, e2⟩ : ∃ s, s = S (put32 b) := ⟨_, rfl⟩
  obtain ⟨s3, e3⟩ : ∃ s, s = S (putW [p, (n : Int) % 65536]) := ⟨_, rfl⟩
  have z1 : s1.size = 4 := by rw [e1]; rfl
  have z2 : s2.size = 4 := by rw [e2]; rfl
  have z3 : s3.size = 4 := by rw [e3]; rfl
  have hend : s1 ++ s2 ++ s3 = S (pseudo a b p n) := by rw [e1, e2, e3, S_append, S_append]; rfl
  rw [← e1] at c1
  rw [← e2] at c2
  rw [← e3] at c3
  obtain ⟨p0, p1⟩ := hp
  have C1 := hide c1; have C2 := hide c2; have C3 := hide c3; have HE := hide hend
  clear c1 c2 c3 hend e1 e2 e3 hl
  go_enter Try.func39, Try.ntmps39
  go_wp2_with fail
  refine (C1.out _).mono ?_
  rintro e w1 ⟨rfl, b1⟩
  go_wp2_with fail
  refine (C2.out _).mono ?_
  rintro e w2 ⟨rfl, b2⟩
  replace b2 := bstep b1 b2
  go_wp2_with fail
  refine (C3.out _).mono ?_
  rintro e w3 ⟨rfl, b3⟩
  replace b3 := bstep (bstep b2 (fresh_below _ _)) b3
  go_wp2_with fail
  go_ret
  exact ⟨ret_str HE.out, b3⟩

/-- is a datagram's sum right -/
def udpOk (a b : Int) (s : ByteArray) : Bool := decide (8 ≤ s.size) && (decide (get16 (L s) 6 = 0) || holds [pseudo a b 17 s.size, L s])

/-- a datagram with its sum -/
def udpSum (a b : Int) (l : List UInt8) : Int := let n := sumL [pseudo a b 17 l.length, l.take 6 ++ [0, 0] ++ l.drop 8]; if n = 0 then 65535 else n
def udpSeal (a b : Int) (l : List UInt8) : List UInt8 := if l.length < 8 then l else l.take 6 ++ put16 (udpSum a b l) ++ l.drop 8
theorem udpSum_bd (a b : Int) (l : List UInt8) : 1 ≤ udpSum a b l ∧ udpSum a b l ≤ 65535 := by
  have := sumL_bd [pseudo a b 17 l.length, l.take 6 ++ [0, 0] ++ l.drop 8]
  unfold udpSum; dsimp only; split <;> omega
end Go.Proofs.Ytlmpoikjjidgiaa
