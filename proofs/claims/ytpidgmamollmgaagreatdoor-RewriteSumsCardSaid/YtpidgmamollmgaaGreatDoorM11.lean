/- Several texts of this claim, one behind the other. -/
import Derived.Test.YtpidgmamollmgaaGreatDoorM10
import Derived.Test.YtpidgmamollmgaaGreatDoorM6
import Derived.Deep.RegionHeldLaw
import Derived.Deep.RegionHeld3

section
/- tcp's sums over this program, and the document's. -/
set_option linter.unusedVariables false
namespace Go.Proofs.YtpidgmamollmgaaGreatDoor
open Go.RowKit
attribute [local go_sem] Oper.semAt_some

set_option maxHeartbeats 1000000 in
theorem t_front (a b : Int) (s : ByteArray) (w : World) (ha : 0 ≤ a ∧ a ≤ 4294967295) (hb : 0 ≤ b ∧ b ≤ 4294967295) (hs : s.size ≤ 140737488351232) :
    Calls Tryz.prog 68 #[.int .u32 a, .int .u32 b, .string s] w (Ret (.string (S (pseudo a b 6 s.size))) w) := by
  have c1 := fun w => Put32 a w ha.1 ha.2
  have c2 := fun w => Put32 b w hb.1 hb.2
  have hl : ∀ x ∈ [(6 : Int), (s.size : Int) % 65536], 0 ≤ x ∧ x ≤ 65535 := by
    intro x hx
    simp only [List.mem_cons, List.not_mem_nil, or_false] at hx
    rcases hx with rfl | rfl <;> omega
  have c3 := fun W => Word (some ⟨W.heap.size, 0, none⟩) 2 2 [6, (s.size : Int) % 65536] (W.alloc (.cells #[.int .u16 6, .int .u16 ((s.size : Int) % 65536)] 24)) (Row.freshAt W #[.int .u16 6, .int .u16 ((s.size : Int) % 65536)] 24 W.heap.size _ _ rfl rfl rfl) hl (by omega)
  obtain ⟨s1, e1⟩ : ∃ s, s = S (put32 a) := ⟨_, rfl⟩
  obtain ⟨s2, e2⟩ : ∃ s, s = S (put32 b) := ⟨_, rfl⟩
  obtain ⟨s3, e3⟩ : ∃ x, x = S (putW [6, (s.size : Int) % 65536]) := ⟨_, rfl⟩
  have z1 : s1.size = 4 := by rw [e1]; rfl
  have z2 : s2.size = 4 := by rw [e2]; rfl
  have z3 : s3.size = 4 := by rw [e3]; rfl
  have hend : s1 ++ s2 ++ s3 = S (pseudo a b 6 s.size) := by rw [e1, e2, e3, S_append, S_append]; rfl
  rw [← e1] at c1
  rw [← e2] at c2
  rw [← e3] at c3
  have wr : IntKind.u16.wrap (s.size : Int) = (s.size : Int) % 65536 := IntKind.wrap_u16 _
  have C1 := hide c1; have C2 := hide c2; have C3 := hide c3; have HE := hide hend
  clear c1 c2 c3 hend e1 e2 e3 hl
  go_enter Tryz.func68, Tryz.ntmps68
  go_wp2_with fail
  (with_reducible refine (C1.out _).mono ?_)
  rintro e w1 ⟨rfl, b1⟩
  replace b1 : Below w.heap.size w w1 := by (refine bstep ?_ b1); (repeat' (first | with_reducible exact Below.refl _ _ | with_reducible refine Below.setCell ?_ (by first | exact Nat.le_refl _ | (dsimp only; omega)) _ | with_reducible refine bstep ?_ (fresh_below _ _) | with_reducible refine Below.drew ?_))
  have z1 : w.heap.size ≤ w1.heap.size := b1.size
  go_wp2_with fail
  (with_reducible refine (C2.out _).mono ?_)
  rintro e w2 ⟨rfl, b2⟩
  replace b2 : Below w.heap.size w w2 := by (refine bstep ?_ b2); (repeat' (first | with_reducible exact b1 | with_reducible exact Below.refl _ _ | with_reducible refine Below.setCell ?_ (by first | exact Nat.le_refl _ | (dsimp only; omega)) _ | with_reducible refine bstep ?_ (fresh_below _ _) | with_reducible refine Below.drew ?_))
  have z2 : w.heap.size ≤ w2.heap.size := b2.size
  go_wp2_with fail
  (with_reducible refine (C3.out _).mono ?_)
  rintro e w3 ⟨rfl, b3⟩
  replace b3 : Below w.heap.size w w3 := by (refine bstep ?_ b3); (repeat' (first | with_reducible exact b2 | with_reducible exact Below.refl _ _ | with_reducible refine Below.setCell ?_ (by first | exact Nat.le_refl _ | (dsimp only; omega)) _ | with_reducible refine bstep ?_ (fresh_below _ _) | with_reducible refine Below.drew ?_))
  have z3 : w.heap.size ≤ w3.heap.size := b3.size
  go_wp2_with fail
  go_ret
  exact ⟨ret_str HE.out, (by (repeat' (first | with_reducible exact b3 | with_reducible exact Below.refl _ _ | with_reducible refine Below.setCell ?_ (by first | exact Nat.le_refl _ | (dsimp only; omega)) _ | with_reducible refine bstep ?_ (fresh_below _ _) | with_reducible refine Below.drew ?_)))⟩

/-- is a segment's sum right; a segment with its sum -/
def tcpOk (a b : Int) (s : ByteArray) : Bool := decide (20 ≤ s.size) && holds [pseudo a b 6 s.size, L s]
def tcpSum (a b : Int) (l : List UInt8) : Int := sumL [pseudo a b 6 l.length, lay l 16 0]
def tcpSeal (a b : Int) (l : List UInt8) : List UInt8 := if l.length < 20 then l else lay l 16 (tcpSum a b l)
theorem tcpSum_bd (a b : Int) (l : List UInt8) : 0 ≤ tcpSum a b l ∧ tcpSum a b l ≤ 65535 := sumL_bd _

set_option maxHeartbeats 1000000 in
theorem t_Check (a b : Int) (s : ByteArray) (w : World) (ha : 0 ≤ a ∧ a ≤ 4294967295) (hb : 0 ≤ b ∧ b ≤ 4294967295) (hs : s.size ≤ 140737488351232) :
    Calls Tryz.prog 24 #[.int .u32 a, .int .u32 b, .string s] w (Ret (.bool (tcpOk a b s)) w) := by
  by_cases h8 : s.size < 20
  · have hv : tcpOk a b s = false := by unfold tcpOk; simp; omega
    rw [hv]
    have q1 : decide ((20 : Int) ≤ (s.size : Int)) = false := by simp; omega
    have q2 : ¬ (20 : Int) ≤ (s.size : Int) := by omega
    clear hv
    go_enter Tryz.func24, Tryz.ntmps24
    go_wp2_with fail
    go_ret
    exact ⟨rfl, (by (repeat' (first | with_reducible exact Below.refl _ _ | with_reducible refine Below.setCell ?_ (by first | exact Nat.le_refl _ | (dsimp only; omega)) _ | with_reducible refine bstep ?_ (fresh_below _ _) | with_reducible refine Below.drew ?_)))⟩
  · have hv : tcpOk a b s = holds [pseudo a b 6 s.size, L s] := by unfold tcpOk; simp; omega
    rw [hv]
    have c2 := fun w => t_front a b s w ha hb hs
    obtain ⟨p, hp⟩ : ∃ p, p = S (pseudo a b 6 s.size) := ⟨_, rfl⟩
    have zp : p.size = 12 := by rw [hp]; rfl
    have hm : [p, s].map L = [pseudo a b 6 s.size, L s] := by rw [hp]; rfl
    have c3 := fun W => Holds (some ⟨W.heap.size, 0, none⟩) 2 2 [p, s] (W.alloc (.cells #[.string p, .string s] 9)) (Row.freshAt W #[.string p, .string s] 9 W.heap.size _ _ rfl rfl rfl) (by
      intro x hx
      simp only [List.mem_cons, List.not_mem_nil, or_false] at hx
      rcases hx with rfl | rfl <;> omega) (by omega)
    rw [hm] at c3
    rw [← hp] at c2
    obtain ⟨v, hv2⟩ : ∃ v, v = holds [pseudo a b 6 s.size, L s] := ⟨_, rfl⟩
    rw [← hv2] at c3 ⊢
    have q1 : decide ((20 : Int) ≤ (s.size : Int)) = true := by simp; omega
    have q2 : (20 : Int) ≤ (s.size : Int) := by omega
    have C2 := hide c2; have C3 := hide c3
    clear c2 c3 hv hv2 hp hm
    go_enter Tryz.func24, Tryz.ntmps24
    go_wp2_with fail
    (with_reducible refine (C2.out _).mono ?_)
    rintro e w1 ⟨rfl, b1⟩
    replace b1 : Below w.heap.size w w1 := by (refine bstep ?_ b1); (repeat' (first | with_reducible exact Below.refl _ _ | with_reducible refine Below.setCell ?_ (by first | exact Nat.le_refl _ | (dsimp only; omega)) _ | with_reducible refine bstep ?_ (fresh_below _ _) | with_reducible refine Below.drew ?_))
    have z1 : w.heap.size ≤ w1.heap.size := b1.size
    go_wp2_with fail
    (with_reducible refine (C3.out _).mono ?_)
    rintro e w2 ⟨rfl, b2⟩
    replace b2 : Below w.heap.size w w2 := by (refine bstep ?_ b2); (repeat' (first | with_reducible exact b1 | with_reducible exact Below.refl _ _ | with_reducible refine Below.setCell ?_ (by first | exact Nat.le_refl _ | (dsimp only; omega)) _ | with_reducible refine bstep ?_ (fresh_below _ _) | with_reducible refine Below.drew ?_))
    have z2 : w.heap.size ≤ w2.heap.size := b2.size
    go_wp2_with fail
    go_ret
    exact ⟨rfl, (by (repeat' (first | with_reducible exact b2 | with_reducible exact Below.refl _ _ | with_reducible refine Below.setCell ?_ (by first | exact Nat.le_refl _ | (dsimp only; omega)) _ | with_reducible refine bstep ?_ (fresh_below _ _) | with_reducible refine Below.drew ?_)))⟩

end Go.Proofs.YtpidgmamollmgaaGreatDoor
end

section
/- tcp.Parse of what is no segment; tcp.Put. -/
set_option linter.unusedVariables false
namespace Go.Proofs.YtpidgmamollmgaaGreatDoor
open Go.RowKit
attribute [local go_sem] Oper.semAt_some

/-- how many bytes a segment's header has -/
def tcpOwn (l : List UInt8) : Int := at_ l 12 / 16 * 4
/-- is it a segment -/
def tcpIs (s : ByteArray) : Bool := decide (20 ≤ s.size) && decide (20 ≤ tcpOwn (L s)) && decide (tcpOwn (L s) ≤ s.size)

set_option maxHeartbeats 1000000 in
theorem t_Parse_no (s : ByteArray) (w : World) (hs : s.size ≤ 140737488351232) (h : tcpIs s = false) :
    Calls Tryz.prog 109 #[.string s] w (Ret (.tuple #[.agg #[.int .u16 0, .int .u16 0, .int .u32 0, .int .u32 0, .int .u8 0, .int .u8 0, .int .u16 0, .int .u16 0, .int .u16 0, .string { data := #[] }], .string { data := #[] }, .bool false]) w) := by
  by_cases h8 : s.size < 20
  · have q2 : (s.size : Int) < 20 := by omega
    clear h
    go_enter Tryz.func109, Tryz.ntmps109
    go_wp2_with fail
    (try simp only [Exit.inBlock, Exit.then]); refine bodyPost_ret (by simp [results, Tryz.results109, go_sem]; try rfl) rfl ?_
    exact ⟨rfl, (by (repeat' (first | with_reducible exact Below.refl _ _ | with_reducible refine Below.setCell ?_ (by first | exact Nat.le_refl _ | (dsimp only; omega)) _ | with_reducible refine bstep ?_ (fresh_below _ _) | with_reducible refine Below.drew ?_)))⟩
  · have q2 : ¬ (s.size : Int) < 20 := by omega
    have e0 : (((s[12]'(by omega)).toNat : Nat) : Int) = at_ (L s) 12 := by rw [getElem_L s 12 (by omega)]; rfl
    have hb := at_bd (L s) 12
    have ho : tcpOwn (L s) < 20 ∨ (s.size : Int) < tcpOwn (L s) := by unfold tcpIs at h; simp at h; omega
    unfold tcpOwn at ho
    have i4 : (12 : Int) < (s.size : Int) := by omega
    have i5 : 12 < s.size := by omega
    obtain ⟨x, hx⟩ : ∃ x, x = at_ (L s) 12 := ⟨_, rfl⟩
    rw [← hx] at e0 hb ho
    clear hx h
    have hcase : x / 16 * 4 < 20 ∨ (¬ x / 16 * 4 < 20 ∧ (s.size : Int) < x / 16 * 4) := by omega
    clear ho
    rcases hcase with ho | ⟨ho1, ho2⟩
    all_goals
      go_enter Tryz.func109, Tryz.ntmps109
      go_wp2_with fail
      (try simp only [Exit.inBlock, Exit.then]); refine bodyPost_ret (by simp [results, Tryz.results109, go_sem]; try rfl) rfl ?_
      exact ⟨rfl, (by (repeat' (first | with_reducible exact Below.refl _ _ | with_reducible refine Below.setCell ?_ (by first | exact Nat.le_refl _ | (dsimp only; omega)) _ | with_reducible refine bstep ?_ (fresh_below _ _) | with_reducible refine Below.drew ?_)))⟩
end Go.Proofs.YtpidgmamollmgaaGreatDoor
end
