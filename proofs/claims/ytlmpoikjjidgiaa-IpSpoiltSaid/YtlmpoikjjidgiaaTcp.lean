/- tcp's sums over this program, and the document's. -/
import Derived.Test.YtlmpoikjjidgiaaUdpSum
import Derived.Test.YtlmpoikjjidgiaaLay
set_option linter.unusedVariables false
namespace Go.Proofs.Ytlmpoikjjidgiaa
open Go.RowKit
attribute [local go_sem] Oper.semAt_some

set_option maxHeartbeats 1000000 in
theorem t_front (a b : Int) (s : ByteArray) (w : World) (ha : 0 ≤ a ∧ a ≤ 4294967295) (hb : 0 ≤ b ∧ b ≤ 4294967295) (hs : s.size ≤ 140737488351232) :
    Calls Try.prog 37 #[.int .u32 a, .int .u32 b, .string s] w (Ret (.string (S (pseudo a b 6 s.size))) w) := by
  have c1 := fun w => Put32 a w ha.1 ha.2
  have c2 := fun w => Put32 b w hb.1 hb.2
  have hl : ∀ x ∈ [(6 : Int), (s.size : Int) % 65536], 0 ≤ x ∧ x ≤ 65535 := by
    intro x hx
    simp only [List.mem_cons, List.not_mem_nil, or_false] at hx
    rcases hx with rfl | rfl <;> omega
  have c3 := fun W => Word (some ⟨W.heap.size, 0, none⟩) 2 2 [6, (s.size : Int) % 65536] (W.alloc (.cells #[.int .u16 6, .int .u16 ((s.size : Int) % 65536)] 22)) (Row.freshAt W #[.int .u16 6, .int .u16 ((s.size : Int) % 65536)] 22 W.heap.size _ _ rfl rfl rfl) hl (by omega)
  obtain ⟨s1, e1⟩ : ∃ s, s = S (put32 a) := ⟨_, rfl⟩
  obtain ⟨s2, e2⟩ : ∃ s, s = S (put32 b) := ⟨_, rfl⟩
  obtain ⟨s3, e3⟩ : ∃ x, x = S (putW [6, (s.size : Int) % 65536]) := ⟨_, rfl⟩
  have z1 : s1.size = 4 := by rw [e1]; rfl
  have z2 : s2.size = 4 := by rw [e2]; rfl
  have z3 : s3.size = 4 := by rw [e3]; rfl
  have hend : s1 ++ s2 ++ s3 = S (pseudo a b 6 s.size) := by rw [e1, e2, e3, S_append, S_append]; rfl
  rw [← e1] at c1
  rw [← e2] at c2
  rw [← e3] at c3
  have wr : IntKind.u16.wrap (s.size : Int) = (s.size : Int) % 65536 := IntKind.wrap_u16 _
  have C1 := hide c1; have C2 := hide c2; have C3 := hide c3; have HE := hide hend
  clear c1 c2 c3 hend e1 e2 e3 hl
  go_enter Try.func37, Try.ntmps37
  go_wp2_with fail
  (with_reducible refine (C1.out _).mono ?_)
  rintro e w1 ⟨rfl, b1⟩
  replace b1 : Below w.heap.size w w1 := by (refine bstep ?_ b1); (repeat' (first | with_reducible exact Below.refl _ _ | with_reducible refine Below.setCell ?_ (by first | exact Nat.le_refl _ | (dsimp only; omega)) _ | with_reducible refine bstep ?_ (fresh_below _ _) | with_reducible refine Below.drew ?_))
  have z1 : w.heap.size ≤ w1.heap.size := b1.size
  go_wp2_with fail
  (with_reducible refine (C2.out _).mono ?_)
  rintro e w2 ⟨rfl, b2⟩
  replace b2 : Below w.heap.size w w2 := by (refine bstep ?_ b2); (repeat' (first | with_reducible exact b1 | with_reducible exact Below.refl _ _ | with_reducible refine Below.setCell ?_ (by first | exact Nat.le_refl _ | (dsimp only; omega)) _ | with_reducible refine bstep ?_ (fresh_below _ _) | with_reducible refine Below.drew ?_))
  have z2 : w.heap.size ≤ w2.heap.size := b2.size
  go_wp2_with fail
  (with_reducible refine (C3.out _).mono ?_)
  rintro e w3 ⟨rfl, b3⟩
  replace b3 : Below w.heap.size w w3 := by (refine bstep ?_ b3); (repeat' (first | with_reducible exact b2 | with_reducible exact Below.refl _ _ | with_reducible refine Below.setCell ?_ (by first | exact Nat.le_refl _ | (dsimp only; omega)) _ | with_reducible refine bstep ?_ (fresh_below _ _) | with_reducible refine Below.drew ?_))
  have z3 : w.heap.size ≤ w3.heap.size := b3.size
  go_wp2_with fail
  go_ret
  exact ⟨ret_str HE.out, (by (repeat' (first | with_reducible exact b3 | with_reducible exact Below.refl _ _ | with_reducible refine Below.setCell ?_ (by first | exact Nat.le_refl _ | (dsimp only; omega)) _ | with_reducible refine bstep ?_ (fresh_below _ _) | with_reducible refine Below.drew ?_)))⟩

/-- is a segment's sum right; a segment with its sum -/
def tcpOk (a b : Int) (s : ByteArray) : Bool := decide (20 ≤ s.size) && holds [pseudo a b 6 s.size, L s]
def tcpSum (a b : Int) (l : List UInt8) : Int := sumL [pseudo a b 6 l.length, lay l 16 0]
def tcpSeal (a b : Int) (l : List UInt8) : List UInt8 := if l.length < 20 then l else lay l 16 (tcpSum a b l)
theorem tcpSum_bd (a b : Int) (l : List UInt8) : 0 ≤ tcpSum a b l ∧ tcpSum a b l ≤ 65535 := sumL_bd _

set_option maxHeartbeats 1000000 in
theorem t_Check (a b : Int) (s : ByteArray) (w : World) (ha : 0 ≤ a ∧ a ≤ 4294967295) (hb : 0 ≤ b ∧ b ≤ 4294967295) (hs : s.size ≤ 140737488351232) :
    Calls Try.prog 18 #[.int .u32 a, .int .u32 b, .string s] w (Ret (.bool (tcpOk a b s)) w) := by
  by_cases h8 : s.size < 20
  · have hv : tcpOk a b s = false := by unfold tcpOk; simp; omega
    rw [hv]
    have q1 : decide ((20 : Int) ≤ (s.size : Int)) = false := by simp; omega
    have q2 : ¬ (20 : Int) ≤ (s.size : Int) := by omega
    clear hv
    go_enter Try.func18, Try.ntmps18
    go_wp2_with fail
    go_ret
    exact ⟨rfl, (by (repeat' (first | with_reducible exact Below.refl _ _ | with_reducible refine Below.setCell ?_ (by first | exact Nat.le_refl _ | (dsimp only; omega)) _ | with_reducible refine bstep ?_ (fresh_below _ _) | with_reducible refine Below.drew ?_)))⟩
  · have hv : tcpOk a b s = holds [pseudo a b 6 s.size, L s] := by unfold tcpOk; simp; omega
    rw [hv]
    have c2 := fun w => t_front a b s w ha hb hs
    obtain ⟨p, hp⟩ : ∃ p, p = S (pseudo a b 6 s.size) := ⟨_, rfl⟩
    have zp : p.size = 12 := by rw [hp]; rfl
    have hm : [p, s].map L = [pseudo a b 6 s.size, L s] := by rw [hp]; rfl
    have c3 := fun W => Holds (some ⟨W.heap.size, 0, none⟩) 2 2 [p, s] (W.alloc (.cells #[.string p, .string s] 9)) (Row.freshAt W #[.string p, .string s] 9 W.heap.size _ _ rfl rfl rfl) (by
      intro x hx
      simp only [List.mem_cons, List.not_mem_nil, or_false] at hx
      rcases hx with rfl | rfl <;> omega) (by omega)
    rw [hm] at c3
    rw [← hp] at c2
    obtain ⟨v, hv2⟩ : ∃ v, v = holds [pseudo a b 6 s.size, L s] := ⟨_, rfl⟩
    rw [← hv2] at c3 ⊢
    have q1 : decide ((20 : Int) ≤ (s.size : Int)) = true := by simp; omega
    have q2 : (20 : Int) ≤ (s.size : Int) := by omega
    have C2 := hide c2; have C3 := hide c3
    clear c2 c3 hv hv2 hp hm
    go_enter Try.func18, Try.ntmps18
    go_wp2_with fail
    (with_reducible refine (C2.out _).mono ?_)
    rintro e w1 ⟨rfl, b1⟩
    replace b1 : Below w.heap.size w w1 := by (refine bstep ?_ b1); (repeat' (first | with_reducible exact Below.refl _ _ | with_reducible refine Below.setCell ?_ (by first | exact Nat.le_refl _ | (dsimp only; omega)) _ | with_reducible refine bstep ?_ (fresh_below _ _) | with_reducible refine Below.drew ?_))
    have z1 : w.heap.size ≤ w1.heap.size := b1.size
    go_wp2_with fail
    (with_reducible refine (C3.out _).mono ?_)
    rintro e w2 ⟨rfl, b2⟩
    replace b2 : Below w.heap.size w w2 := by (refine bstep ?_ b2); (repeat' (first | with_reducible exact b1 | with_reducible exact Below.refl _ _ | with_reducible refine Below.setCell ?_ (by first | exact Nat.le_refl _ | (dsimp only; omega)) _ | with_reducible refine bstep ?_ (fresh_below _ _) | with_reducible refine Below.drew ?_))
    have z2 : w.heap.size ≤ w2.heap.size := b2.size
    go_wp2_with fail
    go_ret
    exact ⟨rfl, (by (repeat' (first | with_reducible exact b2 | with_reducible exact Below.refl _ _ | with_reducible refine Below.setCell ?_ (by first | exact Nat.le_refl _ | (dsimp only; omega)) _ | with_reducible refine bstep ?_ (fresh_below _ _) | with_reducible refine Below.drew ?_)))⟩

set_option maxHeartbeats 1000000 in
theorem r6_Check (a b : Int) (s : ByteArray) (w : World) (ha : 0 ≤ a ∧ a ≤ 4294967295) (hb : 0 ≤ b ∧ b ≤ 4294967295) (hs : s.size ≤ 140737488351232) :
    Calls Try.prog 19 #[.int .u32 a, .int .u32 b, .string s] w (Ret (.bool (tcpOk a b s)) w) := by
  by_cases h8 : s.size < 20
  · have hv : tcpOk a b s = false := by unfold tcpOk; simp; omega
    rw [hv]
    have q1 : decide ((20 : Int) ≤ (s.size : Int)) = false := by simp; omega
    have q2 : ¬ (20 : Int) ≤ (s.size : Int) := by omega
    clear hv
    go_enter Try.func19, Try.ntmps19
    go_wp2_with fail
    go_ret
    exact ⟨rfl, (by (repeat' (first | with_reducible exact Below.refl _ _ | with_reducible refine Below.setCell ?_ (by first | exact Nat.le_refl _ | (dsimp only; omega)) _ | with_reducible refine bstep ?_ (fresh_below _ _) | with_reducible refine Below.drew ?_)))⟩
  · have hv : tcpOk a b s = holds [pseudo a b 6 s.size, L s] := by unfold tcpOk; simp; omega
    rw [hv]
    have c2 := fun w => r5_Pseudo a b 6 s.size w ha hb (by omega) hs
    obtain ⟨p, hp⟩ : ∃ p, p = S (pseudo a b 6 s.size) := ⟨_, rfl⟩
    have zp : p.size = 12 := by rw [hp]; rfl
    have hm : [p, s].map L = [pseudo a b 6 s.size, L s] := by rw [hp]; rfl
    have c3 := fun W => r_Holds (some ⟨W.heap.size, 0, none⟩) 2 2 [p, s] (W.alloc (.cells #[.string p, .string s] 9)) (Row.freshAt W #[.string p, .string s] 9 W.heap.size _ _ rfl rfl rfl) (by
      intro x hx
      simp only [List.mem_cons, List.not_mem_nil, or_false] at hx
      rcases hx with rfl | rfl <;> omega) (by omega)
    rw [hm] at c3
    rw [← hp] at c2
    obtain ⟨v, hv2⟩ : ∃ v, v = holds [pseudo a b 6 s.size, L s] := ⟨_, rfl⟩
    rw [← hv2] at c3 ⊢
    have q1 : decide ((20 : Int) ≤ (s.size : Int)) = true := by simp; omega
    have q2 : (20 : Int) ≤ (s.size : Int) := by omega
    have C2 := hide c2; have C3 := hide c3
    clear c2 c3 hv hv2 hp hm
    go_enter Try.func19, Try.ntmps19
    go_wp2_with fail
    (with_reducible refine (C2.out _).mono ?_)
    rintro e w1 ⟨rfl, b1⟩
    replace b1 : Below w.heap.size w w1 := by (refine bstep ?_ b1); (repeat' (first | with_reducible exact Below.refl _ _ | with_reducible refine Below.setCell ?_ (by first | exact Nat.le_refl _ | (dsimp only; omega)) _ | with_reducible refine bstep ?_ (fresh_below _ _) | with_reducible refine Below.drew ?_))
    have z1 : w.heap.size ≤ w1.heap.size := b1.size
    go_wp2_with fail
    (with_reducible refine (C3.out _).mono ?_)
    rintro e w2 ⟨rfl, b2⟩
    replace b2 : Below w.heap.size w w2 := by (refine bstep ?_ b2); (repeat' (first | with_reducible exact b1 | with_reducible exact Below.refl _ _ | with_reducible refine Below.setCell ?_ (by first | exact Nat.le_refl _ | (dsimp only; omega)) _ | with_reducible refine bstep ?_ (fresh_below _ _) | with_reducible refine Below.drew ?_))
    have z2 : w.heap.size ≤ w2.heap.size := b2.size
    go_wp2_with fail
    go_ret
    exact ⟨rfl, (by (repeat' (first | with_reducible exact b2 | with_reducible exact Below.refl _ _ | with_reducible refine Below.setCell ?_ (by first | exact Nat.le_refl _ | (dsimp only; omega)) _ | with_reducible refine bstep ?_ (fresh_below _ _) | with_reducible refine Below.drew ?_)))⟩

set_option maxHeartbeats 2000000 in
theorem t_Seal (a b : Int) (s : ByteArray) (w : World) (ha : 0 ≤ a ∧ a ≤ 4294967295) (hb : 0 ≤ b ∧ b ≤ 4294967295) (hs : s.size ≤ 140737488351232) :
    Calls Try.prog 20 #[.int .u32 a, .int .u32 b, .string s] w (Ret (.string (S (tcpSeal a b (L s)))) w) := by
  by_cases h8 : s.size < 20
  · have hv : S (tcpSeal a b (L s)) = s := by unfold tcpSeal; rw [L_length, if_pos h8, S_L]
    rw [hv]
    have q2 : (s.size : Int) < 20 := by omega
    clear hv
    go_enter Try.func20, Try.ntmps20
    go_wp2_with fail
    go_ret
    exact ⟨rfl, (by (repeat' (first | with_reducible exact Below.refl _ _ | with_reducible refine Below.setCell ?_ (by first | exact Nat.le_refl _ | (dsimp only; omega)) _ | with_reducible refine bstep ?_ (fresh_below _ _) | with_reducible refine Below.drew ?_)))⟩
  · have q2 : ¬ (s.size : Int) < 20 := by omega
    have hv : S (tcpSeal a b (L s)) = S (lay (L s) 16 (tcpSum a b (L s))) := by unfold tcpSeal; rw [L_length, if_neg h8]
    rw [hv]
    have hub := tcpSum_bd a b (L s)
    have hl : 16 + 2 ≤ (L s).length := by rw [L_length]; omega
    have c1 := fun W => Word1 0 (by omega) W
    have c2 := fun W => With_lay s 16 16 0 rfl hs (by omega) W
    have c3 := fun w => t_front a b s w ha hb hs
    have zb : (S (lay (L s) 16 0)).size = s.size := by rw [S_size, lay_length hl, L_length]
    have zp : (S (pseudo a b 6 s.size)).size = 12 := rfl
    have c4 := fun W => Sum (some ⟨W.heap.size, 0, none⟩) 2 2 [S (pseudo a b 6 s.size), S (lay (L s) 16 0)] (W.alloc (.cells #[.string (S (pseudo a b 6 s.size)), .string (S (lay (L s) 16 0))] 9)) (Row.freshAt W #[.string (S (pseudo a b 6 s.size)), .string (S (lay (L s) 16 0))] 9 W.heap.size _ _ rfl rfl rfl) (by
      intro x hx
      simp only [List.mem_cons, List.not_mem_nil, or_false] at hx
      rcases hx with rfl | rfl
      · rw [zp]; omega
      · rw [zb]; exact hs) (by omega)
    have hm : sumL ([S (pseudo a b 6 s.size), S (lay (L s) 16 0)].map L) = tcpSum a b (L s) := rfl
    rw [hm] at c4
    have c5 := fun W => Word1 (tcpSum a b (L s)) hub W
    have c6 := fun W => With_lay s 16 16 (tcpSum a b (L s)) rfl hs (by omega) W
    obtain ⟨n, hn⟩ : ∃ n, n = tcpSum a b (L s) := ⟨_, rfl⟩
    rw [← hn] at c4 c5 c6 hub ⊢
    obtain ⟨p, hp⟩ : ∃ p, p = S (put16 0) := ⟨_, rfl⟩
    obtain ⟨q, hq⟩ : ∃ q, q = S (pseudo a b 6 s.size) := ⟨_, rfl⟩
    obtain ⟨r, hr⟩ : ∃ r, r = S (lay (L s) 16 0) := ⟨_, rfl⟩
    obtain ⟨t, ht⟩ : ∃ t, t = S (put16 n) := ⟨_, rfl⟩
    obtain ⟨u, hu⟩ : ∃ u, u = S (lay (L s) 16 n) := ⟨_, rfl⟩
    rw [← hp] at c1 c2
    rw [← hr] at c2 c4
    rw [← hq] at c3 c4
    rw [← ht] at c5 c6
    rw [← hu] at c6 ⊢
    have C1 := hide c1; have C2 := hide c2; have C3 := hide c3; have C4 := hide c4; have C5 := hide c5; have C6 := hide c6
    clear c1 c2 c3 c4 c5 c6 hp hq hr ht hu hn hm zb zp hl hv
    go_enter Try.func20, Try.ntmps20
    go_wp2_with fail
    (with_reducible refine (C1.out _).mono ?_)
    rintro e w1 ⟨rfl, b1⟩
    replace b1 : Below w.heap.size w w1 := by (refine bstep ?_ b1); (repeat' (first | with_reducible exact Below.refl _ _ | with_reducible refine Below.setCell ?_ (by first | exact Nat.le_refl _ | (dsimp only; omega)) _ | with_reducible refine bstep ?_ (fresh_below _ _) | with_reducible refine Below.drew ?_))
    have z1 : w.heap.size ≤ w1.heap.size := b1.size
    go_wp2_with fail
    (with_reducible refine (C2.out _).mono ?_)
    rintro e w2 ⟨rfl, b2⟩
    replace b2 : Below w.heap.size w w2 := by (refine bstep ?_ b2); (repeat' (first | with_reducible exact b1 | with_reducible exact Below.refl _ _ | with_reducible refine Below.setCell ?_ (by first | exact Nat.le_refl _ | (dsimp only; omega)) _ | with_reducible refine bstep ?_ (fresh_below _ _) | with_reducible refine Below.drew ?_))
    have z2 : w.heap.size ≤ w2.heap.size := b2.size
    go_wp2_with fail
    (with_reducible refine (C3.out _).mono ?_)
    rintro e w3 ⟨rfl, b3⟩
    replace b3 : Below w.heap.size w w3 := by (refine bstep ?_ b3); (repeat' (first | with_reducible exact b2 | with_reducible exact Below.refl _ _ | with_reducible refine Below.setCell ?_ (by first | exact Nat.le_refl _ | (dsimp only; omega)) _ | with_reducible refine bstep ?_ (fresh_below _ _) | with_reducible refine Below.drew ?_))
    have z3 : w.heap.size ≤ w3.heap.size := b3.size
    go_wp2_with fail
    (with_reducible refine (C4.out _).mono ?_)
    rintro e w4 ⟨rfl, b4⟩
    replace b4 : Below w.heap.size w w4 := by (refine bstep ?_ b4); (repeat' (first | with_reducible exact b3 | with_reducible exact Below.refl _ _ | with_reducible refine Below.setCell ?_ (by first | exact Nat.le_refl _ | (dsimp only; omega)) _ | with_reducible refine bstep ?_ (fresh_below _ _) | with_reducible refine Below.drew ?_))
    have z4 : w.heap.size ≤ w4.heap.size := b4.size
    go_wp2_with fail
    (with_reducible refine (C5.out _).mono ?_)
    rintro e w5 ⟨rfl, b5⟩
    replace b5 : Below w.heap.size w w5 := by (refine bstep ?_ b5); (repeat' (first | with_reducible exact b4 | with_reducible exact Below.refl _ _ | with_reducible refine Below.setCell ?_ (by first | exact Nat.le_refl _ | (dsimp only; omega)) _ | with_reducible refine bstep ?_ (fresh_below _ _) | with_reducible refine Below.drew ?_))
    have z5 : w.heap.size ≤ w5.heap.size := b5.size
    go_wp2_with fail
    (with_reducible refine (C6.out _).mono ?_)
    rintro e w6 ⟨rfl, b6⟩
    replace b6 : Below w.heap.size w w6 := by (refine bstep ?_ b6); (repeat' (first | with_reducible exact b5 | with_reducible exact Below.refl _ _ | with_reducible refine Below.setCell ?_ (by first | exact Nat.le_refl _ | (dsimp only; omega)) _ | with_reducible refine bstep ?_ (fresh_below _ _) | with_reducible refine Below.drew ?_))
    have z6 : w.heap.size ≤ w6.heap.size := b6.size
    go_wp2_with fail
    go_ret
    exact ⟨rfl, (by (repeat' (first | with_reducible exact b6 | with_reducible exact Below.refl _ _ | with_reducible refine Below.setCell ?_ (by first | exact Nat.le_refl _ | (dsimp only; omega)) _ | with_reducible refine bstep ?_ (fresh_below _ _) | with_reducible refine Below.drew ?_)))⟩
end Go.Proofs.Ytlmpoikjjidgiaa
