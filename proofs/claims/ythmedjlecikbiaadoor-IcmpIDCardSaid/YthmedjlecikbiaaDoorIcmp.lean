/- icmp over this program: what does not look at the kinds of messages. -/
import Derived.Test.YthmedjlecikbiaaDoorRef07
import Derived.Test.YthmedjlecikbiaaDoorLay
set_option linter.unusedVariables false
namespace Go.Proofs.YthmedjlecikbiaaDoor
open Go.RowKit
attribute [local go_sem] Oper.semAt_some

theorem i_Parse_no (s : ByteArray) (w : World) (h : s.size < 8) :
    Calls Tryd.prog 13 #[.string s] w (Ret (.tuple #[.agg #[.int .u8 0, .int .u8 0, .int .u16 0, .string { data := #[] }, .string { data := #[] }], .bool false]) w) := by
  have q2 : (s.size : Int) < 8 := by omega
  go_enter Tryd.func13, Tryd.ntmps13
  go_wp2_with fail
  (try simp only [Exit.inBlock, Exit.then]); refine bodyPost_ret (by simp [results, Tryd.results13, go_sem]; try rfl) rfl ?_
  exact ⟨rfl, fresh_below _ _⟩

theorem i_Put_no (m : Msg) (w : World) (h : m.r.size ≠ 4) :
    Calls Tryd.prog 15 #[.agg #[.int .u8 m.t, .int .u8 m.c, .int .u16 m.n, .string m.r, .string m.d]] w (Ret (.tuple #[.string { data := #[] }, .int .i64 2]) w) := by
  have q1 : ((m.r.size : Int) == 4) = false := by simp; omega
  have q2 : ((m.r.size : Int) != 4) = true := by simp; omega
  go_enter Tryd.func15, Tryd.ntmps15
  go_wp2_with fail
  go_ret2
  exact ⟨rfl, (by (repeat' (first | with_reducible exact Below.refl _ _ | with_reducible refine Below.setCell ?_ (by first | exact Nat.le_refl _ | (dsimp only; omega)) _ | with_reducible refine bstep ?_ (fresh_below _ _) | with_reducible refine Below.drew ?_)))⟩

theorem i_Check (s : ByteArray) (w : World) (hs : s.size ≤ 140737488351232) :
    Calls Tryd.prog 9 #[.string s] w (Ret (.bool (decide (8 ≤ s.size) && holds [L s])) w) := by
  by_cases h8 : s.size < 8
  · have hv : (decide (8 ≤ s.size) && holds [L s]) = false := by simp; omega
    rw [hv]
    have q1 : decide ((8 : Int) ≤ (s.size : Int)) = false := by simp; omega
    have q2 : ¬ (8 : Int) ≤ (s.size : Int) := by omega
    clear hv
    go_enter Tryd.func9, Tryd.ntmps9
    go_wp2_with fail
    go_ret
    exact ⟨rfl, (by (repeat' (first | with_reducible exact Below.refl _ _ | with_reducible refine Below.setCell ?_ (by first | exact Nat.le_refl _ | (dsimp only; omega)) _ | with_reducible refine bstep ?_ (fresh_below _ _) | with_reducible refine Below.drew ?_)))⟩
  · have hv : (decide (8 ≤ s.size) && holds [L s]) = holds [L s] := by simp; omega
    rw [hv]
    have c1 := fun (w : World) => Holds (some ⟨w.heap.size, 0, none⟩) 1 1 [s] _ (Row.freshN w #[.string s] 9 _ _ rfl rfl) (by simpa using hs) (by omega)
    simp only [List.map_cons, List.map_nil] at c1
    obtain ⟨v, hv2⟩ : ∃ v, v = holds [L s] := ⟨_, rfl⟩
    rw [← hv2] at c1 ⊢
    have q1 : decide ((8 : Int) ≤ (s.size : Int)) = true := by simp; omega
    have q2 : (8 : Int) ≤ (s.size : Int) := by omega
    have C1 := hide c1
    clear c1 hv hv2
    go_enter Tryd.func9, Tryd.ntmps9
    go_wp2_with fail
    (with_reducible refine (C1.out _).mono ?_)
    rintro e w1 ⟨rfl, b1⟩
    replace b1 : Below w.heap.size w w1 := by (refine bstep ?_ b1); (repeat' (first | with_reducible exact Below.refl _ _ | with_reducible refine Below.setCell ?_ (by first | exact Nat.le_refl _ | (dsimp only; omega)) _ | with_reducible refine bstep ?_ (fresh_below _ _) | with_reducible refine Below.drew ?_))
    have z1 : w.heap.size ≤ w1.heap.size := b1.size
    go_wp2_with fail
    go_ret
    exact ⟨rfl, (by (repeat' (first | with_reducible exact b1 | with_reducible exact Below.refl _ _ | with_reducible refine Below.setCell ?_ (by first | exact Nat.le_refl _ | (dsimp only; omega)) _ | with_reducible refine bstep ?_ (fresh_below _ _) | with_reducible refine Below.drew ?_)))⟩

set_option maxHeartbeats 2000000 in
theorem i_Seal (s : ByteArray) (w : World) (hs : s.size ≤ 140737488351232) :
    Calls Tryd.prog 11 #[.string s] w (Ret (.string (S (icmpSeal (L s)))) w) := by
  by_cases h8 : s.size < 8
  · have hv : S (icmpSeal (L s)) = s := by unfold icmpSeal; rw [L_length, if_pos h8, S_L]
    rw [hv]
    have q2 : (s.size : Int) < 8 := by omega
    clear hv
    go_enter Tryd.func11, Tryd.ntmps11
    go_wp2_with fail
    go_ret
    exact ⟨rfl, (by (repeat' (first | with_reducible exact Below.refl _ _ | with_reducible refine Below.setCell ?_ (by first | exact Nat.le_refl _ | (dsimp only; omega)) _ | with_reducible refine bstep ?_ (fresh_below _ _) | with_reducible refine Below.drew ?_)))⟩
  · have q2 : ¬ (s.size : Int) < 8 := by omega
    have hv : S (icmpSeal (L s)) = S (lay (L s) 2 (icmpSum (L s))) := by unfold icmpSeal; rw [L_length, if_neg h8]
    rw [hv]
    have hub := icmpSum_bd (L s)
    have hl : 2 + 2 ≤ (L s).length := by rw [L_length]; omega
    have c1 := fun W => Word1 0 (by omega) W
    have c2 := fun W => With_lay s 2 2 0 rfl hs (by omega) W
    have zb : (S (lay (L s) 2 0)).size = s.size := by rw [S_size, lay_length hl, L_length]
    have c3 := fun (w : World) => Sum (some ⟨w.heap.size, 0, none⟩) 1 1 [S (lay (L s) 2 0)] _ (Row.freshN w #[.string (S (lay (L s) 2 0))] 9 _ _ rfl rfl) (by intro x hx; simp only [List.mem_cons, List.not_mem_nil, or_false] at hx; subst hx; rw [zb]; exact hs) (by omega)
    simp only [List.map_cons, List.map_nil, L_S] at c3
    have hn : sumL [lay (L s) 2 0] = icmpSum (L s) := rfl
    rw [hn] at c3
    have c4 := fun W => Word1 (icmpSum (L s)) hub W
    have c5 := fun W => With_lay s 2 2 (icmpSum (L s)) rfl hs (by omega) W
    obtain ⟨n, hn2⟩ : ∃ n, n = icmpSum (L s) := ⟨_, rfl⟩
    rw [← hn2] at c3 c4 c5 hub ⊢
    obtain ⟨p, hp⟩ : ∃ p, p = S (put16 0) := ⟨_, rfl⟩
    obtain ⟨r, hr⟩ : ∃ r, r = S (lay (L s) 2 0) := ⟨_, rfl⟩
    obtain ⟨t, ht⟩ : ∃ t, t = S (put16 n) := ⟨_, rfl⟩
    obtain ⟨u, hu⟩ : ∃ u, u = S (lay (L s) 2 n) := ⟨_, rfl⟩
    rw [← hp] at c1 c2
    rw [← hr] at c2 c3
    rw [← ht] at c4 c5
    rw [← hu] at c5 ⊢
    have C1 := hide c1; have C2 := hide c2; have C3 := hide c3; have C4 := hide c4; have C5 := hide c5
    clear c1 c2 c3 c4 c5 hp hr ht hu hn hn2 zb hl hv
    go_enter Tryd.func11, Tryd.ntmps11
    go_wp2_with fail
    (with_reducible refine (C1.out _).mono ?_)
    rintro e w1 ⟨rfl, b1⟩
    replace b1 : Below w.heap.size w w1 := by (refine bstep ?_ b1); (repeat' (first | with_reducible exact Below.refl _ _ | with_reducible refine Below.setCell ?_ (by first | exact Nat.le_refl _ | (dsimp only; omega)) _ | with_reducible refine bstep ?_ (fresh_below _ _) | with_reducible refine Below.drew ?_))
    have z1 : w.heap.size ≤ w1.heap.size := b1.size
    go_wp2_with fail
    (with_reducible refine (C2.out _).mono ?_)
    rintro e w2 ⟨rfl, b2⟩
    replace b2 : Below w.heap.size w w2 := by (refine bstep ?_ b2); (repeat' (first | with_reducible exact b1 | with_reducible exact Below.refl _ _ | with_reducible refine Below.setCell ?_ (by first | exact Nat.le_refl _ | (dsimp only; omega)) _ | with_reducible refine bstep ?_ (fresh_below _ _) | with_reducible refine Below.drew ?_))
    have z2 : w.heap.size ≤ w2.heap.size := b2.size
    go_wp2_with fail
    (with_reducible refine (C3.out _).mono ?_)
    rintro e w3 ⟨rfl, b3⟩
    replace b3 : Below w.heap.size w w3 := by (refine bstep ?_ b3); (repeat' (first | with_reducible exact b2 | with_reducible exact Below.refl _ _ | with_reducible refine Below.setCell ?_ (by first | exact Nat.le_refl _ | (dsimp only; omega)) _ | with_reducible refine bstep ?_ (fresh_below _ _) | with_reducible refine Below.drew ?_))
    have z3 : w.heap.size ≤ w3.heap.size := b3.size
    go_wp2_with fail
    (with_reducible refine (C4.out _).mono ?_)
    rintro e w4 ⟨rfl, b4⟩
    replace b4 : Below w.heap.size w w4 := by (refine bstep ?_ b4); (repeat' (first | with_reducible exact b3 | with_reducible exact Below.refl _ _ | with_reducible refine Below.setCell ?_ (by first | exact Nat.le_refl _ | (dsimp only; omega)) _ | with_reducible refine bstep ?_ (fresh_below _ _) | with_reducible refine Below.drew ?_))
    have z4 : w.heap.size ≤ w4.heap.size := b4.size
    go_wp2_with fail
    (with_reducible refine (C5.out _).mono ?_)
    rintro e w5 ⟨rfl, b5⟩
    replace b5 : Below w.heap.size w w5 := by (refine bstep ?_ b5); (repeat' (first | with_reducible exact b4 | with_reducible exact Below.refl _ _ | with_reducible refine Below.setCell ?_ (by first | exact Nat.le_refl _ | (dsimp only; omega)) _ | with_reducible refine bstep ?_ (fresh_below _ _) | with_reducible refine Below.drew ?_))
    have z5 : w.heap.size ≤ w5.heap.size := b5.size
    go_wp2_with fail
    go_ret
    exact ⟨rfl, (by (repeat' (first | with_reducible exact b5 | with_reducible exact Below.refl _ _ | with_reducible refine Below.setCell ?_ (by first | exact Nat.le_refl _ | (dsimp only; omega)) _ | with_reducible refine bstep ?_ (fresh_below _ _) | with_reducible refine Below.drew ?_)))⟩

theorem i_ID (m : Msg) (w : World) (ho : m.Ok) :
    Calls Tryd.prog 21 #[.agg #[.int .u8 m.t, .int .u8 m.c, .int .u16 m.n, .string m.r, .string m.d]] w (Ret (.int .u16 (get16 (L m.r) 0)) w) := by
  have c := fun w => Get16 m.r 0 w (reach_max ho.2.2.2.1) (by omega)
  obtain ⟨x, hx⟩ : ∃ x, x = get16 (L m.r) 0 := ⟨_, rfl⟩
  obtain ⟨h, hh⟩ : ∃ x, x = has m.r.size 0 2 := ⟨_, rfl⟩
  rw [← hx, ← hh] at c
  rw [← hx]
  have C := hide c
  clear c hx hh
  go_enter Tryd.func21, Tryd.ntmps21
  go_wp2_with fail
  (with_reducible refine (C.out _).mono ?_)
  rintro e w1 ⟨rfl, b1⟩
  replace b1 : Below w.heap.size w w1 := by (refine bstep ?_ b1); (repeat' (first | with_reducible exact Below.refl _ _ | with_reducible refine Below.setCell ?_ (by first | exact Nat.le_refl _ | (dsimp only; omega)) _ | with_reducible refine bstep ?_ (fresh_below _ _) | with_reducible refine Below.drew ?_))
  have z1 : w.heap.size ≤ w1.heap.size := b1.size
  go_wp2_with fail
  go_ret
  exact ⟨rfl, (by (repeat' (first | with_reducible exact b1 | with_reducible exact Below.refl _ _ | with_reducible refine Below.setCell ?_ (by first | exact Nat.le_refl _ | (dsimp only; omega)) _ | with_reducible refine bstep ?_ (fresh_below _ _) | with_reducible refine Below.drew ?_)))⟩
theorem r7_ID (m : Msg) (w : World) (ho : m.Ok) :
    Calls Tryd.prog 22 #[.agg #[.int .u8 m.t, .int .u8 m.c, .int .u16 m.n, .string m.r, .string m.d]] w (Ret (.int .u16 (get16 (L m.r) 0)) w) := by
  have c := fun w => r_Get16 m.r 0 w (reach_max ho.2.2.2.1) (by omega)
  obtain ⟨x, hx⟩ : ∃ x, x = get16 (L m.r) 0 := ⟨_, rfl⟩
  obtain ⟨h, hh⟩ : ∃ x, x = has m.r.size 0 2 := ⟨_, rfl⟩
  rw [← hx, ← hh] at c
  rw [← hx]
  have C := hide c
  clear c hx hh
  go_enter Tryd.func22, Tryd.ntmps22
  go_wp2_with fail
  (with_reducible refine (C.out _).mono ?_)
  rintro e w1 ⟨rfl, b1⟩
  replace b1 : Below w.heap.size w w1 := by (refine bstep ?_ b1); (repeat' (first | with_reducible exact Below.refl _ _ | with_reducible refine Below.setCell ?_ (by first | exact Nat.le_refl _ | (dsimp only; omega)) _ | with_reducible refine bstep ?_ (fresh_below _ _) | with_reducible refine Below.drew ?_))
  have z1 : w.heap.size ≤ w1.heap.size := b1.size
  go_wp2_with fail
  go_ret
  exact ⟨rfl, (by (repeat' (first | with_reducible exact b1 | with_reducible exact Below.refl _ _ | with_reducible refine Below.setCell ?_ (by first | exact Nat.le_refl _ | (dsimp only; omega)) _ | with_reducible refine bstep ?_ (fresh_below _ _) | with_reducible refine Below.drew ?_)))⟩
end Go.Proofs.YthmedjlecikbiaaDoor
