/- Several texts of this claim, one behind the other. -/
import Derived.Test.YtedfdphapcanoaaGreatDoorM33
import Derived.Test.YtedfdphapcanoaaGreatDoorM24

section
/- Seal of the document's icmp (porterref07) over this program. -/
set_option linter.unusedVariables false
namespace Go.Proofs.YtedfdphapcanoaaGreatDoor
open Go.RowKit
attribute [local go_sem] Oper.semAt_some

set_option maxHeartbeats 4000000 in
theorem r7_Seal (s : ByteArray) (w : World) (hs : s.size ≤ 140737488351232) :
    Calls Tryz.prog 111 #[.string s] w (Ret (.string (S (icmpSeal (L s)))) w) := by
  by_cases h8 : s.size < 8
  · have hv : S (icmpSeal (L s)) = s := by unfold icmpSeal; rw [L_length, if_pos h8, S_L]
    rw [hv]
    have q2 : (s.size : Int) < 8 := by omega
    clear hv
    go_enter Tryz.func111, Tryz.ntmps111
    go_wp2_with fail
    go_ret
    exact ⟨rfl, (by (repeat' (first | with_reducible exact Below.refl _ _ | with_reducible refine Below.setCell ?_ (by first | exact Nat.le_refl _ | (dsimp only; omega)) _ | with_reducible refine bstep ?_ (fresh_below _ _) | with_reducible refine Below.drew ?_)))⟩
  · have q2 : ¬ (s.size : Int) < 8 := by omega
    have i1 : (2 : Int) ≤ (s.size : Int) := by omega
    have i2 : (4 : Int) ≤ (s.size : Int) := by omega
    have hv : S (icmpSeal (L s)) = S (lay (L s) 2 (icmpSum (L s))) := by unfold icmpSeal; rw [L_length, if_neg h8]
    rw [hv]
    have hub := icmpSum_bd (L s)
    have f2 := fun w => r_Put16 (icmpSum (L s)) w hub.1 hub.2
    obtain ⟨f, hf⟩ : ∃ f, f = s.extract 0 2 := ⟨_, rfl⟩
    obtain ⟨g, hg⟩ : ∃ g, g = s.extract 4 s.size := ⟨_, rfl⟩
    have zf : f.size = 2 := by rw [hf, ByteArray.size_extract]; omega
    have zg : g.size = s.size - 4 := by rw [hg, ByteArray.size_extract]; omega
    have hLf : L f = (L s).take 2 := by rw [hf, L_to]
    have hLg : L g = (L s).drop 4 := by rw [hg, L_from]
    have z00 : (f ++ { data := #[0, 0] }).size = 4 := by rw [ByteArray.size_append, zf]; rfl
    have hLm : L (f ++ { data := #[0, 0] } ++ g) = lay (L s) 2 0 := by rw [L_append, L_append, hLf, hLg]; rfl
    have hzm : (f ++ { data := #[0, 0] } ++ g).size = s.size := by rw [ByteArray.size_append, z00, zg]; omega
    have f1 := fun (w : World) => r_Sum (some ⟨w.heap.size, 0, none⟩) 1 1 [f ++ { data := #[0, 0] } ++ g] _ (Row.freshN w #[.string (f ++ { data := #[0, 0] } ++ g)] 9 _ _ rfl rfl) (by intro x hx; simp only [List.mem_cons, List.not_mem_nil, or_false] at hx; subst hx; rw [hzm]; exact hs) (by omega)
    simp only [List.map_cons, List.map_nil, hLm] at f1
    have rw0 := fun (w : World) => Row.freshN w #[.string (f ++ { data := #[0, 0] } ++ g)] 9 1 [.string (f ++ { data := #[0, 0] } ++ g)] rfl rfl
    have f3 := fun (w : World) => r_Sum (some ⟨w.heap.size, 0, none⟩) 1 1 [f ++ { data := #[0, 0] } ++ g] ((w.alloc (.cells #[.string (f ++ { data := #[0, 0] } ++ g)] 9)).drew) (by exact rw0 w) (by intro x hx; simp only [List.mem_cons, List.not_mem_nil, or_false] at hx; subst hx; rw [hzm]; exact hs) (by omega)
    simp only [List.map_cons, List.map_nil, hLm] at f3
    have hn : sumL [lay (L s) 2 0] = icmpSum (L s) := rfl
    rw [hn] at f1 f3
    obtain ⟨n, hn2⟩ : ∃ n, n = icmpSum (L s) := ⟨_, rfl⟩
    rw [← hn2] at f1 f2 f3 hub ⊢
    obtain ⟨p, hp⟩ : ∃ p, p = S (put16 n) := ⟨_, rfl⟩
    have zp : p.size = 2 := by rw [hp]; rfl
    rw [← hp] at f2
    have zg2 : g.size ≤ 140737488351232 := by omega
    have zfp : (f ++ p).size = 4 := by rw [ByteArray.size_append, zf, zp]
    have hend : f ++ p ++ g = S (lay (L s) 2 n) := by
      apply L_inj; rw [L_S, L_append, L_append, hLf, hLg, hp]; rfl
    obtain ⟨n0, n1⟩ := hub
    subst hf
    subst hg
    have HE := hide hend; have F1 := hide f1; have F2 := hide f2; have F3 := hide f3
    clear rw0 hend f1 f2 f3 hLf hLg hLm hn hn2 hp hv zg z00 hzm
    go_enter Tryz.func111, Tryz.ntmps111
    go_wp2_with fail
    go_region_held_law (fun _ => True) (trivial)
      (first | (go_at_call 161; (with_reducible refine (F1.out _).mono ?_); rintro e w1 ⟨rfl, b1⟩) | (go_at_call 161; (with_reducible refine (F3.out _).mono ?_); rintro e w1 ⟨rfl, b1⟩))
    all_goals
     go_wp2_with fail
     go_region_held_law (fun _ => True) (trivial)
      (first | (go_at_call 182; (with_reducible refine (F2.out _).mono ?_); rintro e w3 ⟨rfl, b3⟩))
     all_goals
      go_wp2
      go_ret
      refine ⟨ret_str HE.out, ?_⟩
      repeat' (first | with_reducible exact Below.refl _ _ | with_reducible refine bstep ?_ b3 | with_reducible refine bstep ?_ b1 | with_reducible refine Below.drew ?_ | with_reducible refine bstep ?_ (fresh_below _ _))
end Go.Proofs.YtedfdphapcanoaaGreatDoor
end

section
/- icmp over this program: what does not look at the kinds of messages. -/
set_option linter.unusedVariables false
namespace Go.Proofs.YtedfdphapcanoaaGreatDoor
open Go.RowKit
attribute [local go_sem] Oper.semAt_some

theorem i_Parse_no (s : ByteArray) (w : World) (h : s.size < 8) :
    Calls Tryz.prog 189 #[.string s] w (Ret (.tuple #[.agg #[.int .u8 0, .int .u8 0, .int .u16 0, .string { data := #[] }, .string { data := #[] }], .bool false]) w) := by
  have q2 : (s.size : Int) < 8 := by omega
  go_enter Tryz.func189, Tryz.ntmps189
  go_wp2_with fail
  (try simp only [Exit.inBlock, Exit.then]); refine bodyPost_ret (by simp [results, Tryz.results189, go_sem]; try rfl) rfl ?_
  exact ⟨rfl, fresh_below _ _⟩

theorem i_ID (m : Msg) (w : World) (ho : m.Ok) :
    Calls Tryz.prog 191 #[.agg #[.int .u8 m.t, .int .u8 m.c, .int .u16 m.n, .string m.r, .string m.d]] w (Ret (.int .u16 (get16 (L m.r) 0)) w) := by
  have c := fun w => Get16 m.r 0 w (reach_max ho.2.2.2.1) (by omega)
  obtain ⟨x, hx⟩ : ∃ x, x = get16 (L m.r) 0 := ⟨_, rfl⟩
  obtain ⟨h, hh⟩ : ∃ x, x = has m.r.size 0 2 := ⟨_, rfl⟩
  rw [← hx, ← hh] at c
  rw [← hx]
  have C := hide c
  clear c hx hh
  go_enter Tryz.func191, Tryz.ntmps191
  go_wp2_with fail
  (with_reducible refine (C.out _).mono ?_)
  rintro e w1 ⟨rfl, b1⟩
  replace b1 : Below w.heap.size w w1 := by (refine bstep ?_ b1); (repeat' (first | with_reducible exact Below.refl _ _ | with_reducible refine Below.setCell ?_ (by first | exact Nat.le_refl _ | (dsimp only; omega)) _ | with_reducible refine bstep ?_ (fresh_below _ _) | with_reducible refine Below.drew ?_))
  have z1 : w.heap.size ≤ w1.heap.size := b1.size
  go_wp2_with fail
  go_ret
  exact ⟨rfl, (by (repeat' (first | with_reducible exact b1 | with_reducible exact Below.refl _ _ | with_reducible refine Below.setCell ?_ (by first | exact Nat.le_refl _ | (dsimp only; omega)) _ | with_reducible refine bstep ?_ (fresh_below _ _) | with_reducible refine Below.drew ?_)))⟩
theorem r7_ID (m : Msg) (w : World) (ho : m.Ok) :
    Calls Tryz.prog 199 #[.agg #[.int .u8 m.t, .int .u8 m.c, .int .u16 m.n, .string m.r, .string m.d]] w (Ret (.int .u16 (get16 (L m.r) 0)) w) := by
  have c := fun w => r_Get16 m.r 0 w (reach_max ho.2.2.2.1) (by omega)
  obtain ⟨x, hx⟩ : ∃ x, x = get16 (L m.r) 0 := ⟨_, rfl⟩
  obtain ⟨h, hh⟩ : ∃ x, x = has m.r.size 0 2 := ⟨_, rfl⟩
  rw [← hx, ← hh] at c
  rw [← hx]
  have C := hide c
  clear c hx hh
  go_enter Tryz.func199, Tryz.ntmps199
  go_wp2_with fail
  (with_reducible refine (C.out _).mono ?_)
  rintro e w1 ⟨rfl, b1⟩
  replace b1 : Below w.heap.size w w1 := by (refine bstep ?_ b1); (repeat' (first | with_reducible exact Below.refl _ _ | with_reducible refine Below.setCell ?_ (by first | exact Nat.le_refl _ | (dsimp only; omega)) _ | with_reducible refine bstep ?_ (fresh_below _ _) | with_reducible refine Below.drew ?_))
  have z1 : w.heap.size ≤ w1.heap.size := b1.size
  go_wp2_with fail
  go_ret
  exact ⟨rfl, (by (repeat' (first | with_reducible exact b1 | with_reducible exact Below.refl _ _ | with_reducible refine Below.setCell ?_ (by first | exact Nat.le_refl _ | (dsimp only; omega)) _ | with_reducible refine bstep ?_ (fresh_below _ _) | with_reducible refine Below.drew ?_)))⟩
end Go.Proofs.YtedfdphapcanoaaGreatDoor
end
