/- Several texts of this claim, one behind the other. -/
import Derived.Test.YtilfcikhipadpaaGreatDoorK20c
import Derived.Deep.RegionHeldLaw
import Derived.Deep.RegionHeld3
import Derived.StillTailTactics

section
/- ip.Put and porterref04.Put over this program. -/
set_option linter.unusedVariables false
set_option linter.unusedSimpArgs false
namespace Go.Proofs.YtilfcikhipadpaaGreatDoor
open Go.RowKit
attribute [local go_sem] Oper.semAt_some

theorem ipErr_cases (h : Hd) (q : ByteArray) : (ipErr h q = 2 ∧ (40 < (h.o.size : Int) ∨ (¬ 40 < (h.o.size : Int) ∧ (h.o.size : Int) % 4 ≠ 0))) ∨ (ipErr h q = 4 ∧ ¬ 40 < (h.o.size : Int) ∧ (h.o.size : Int) % 4 = 0 ∧ (2028 - (h.o.size : Int)) < q.size) ∨ (ipErr h q = 0 ∧ ¬ 40 < (h.o.size : Int) ∧ (h.o.size : Int) % 4 = 0 ∧ ¬ (2028 - (h.o.size : Int)) < q.size) := by
  unfold ipErr
  by_cases h1 : 40 < h.o.size ∨ h.o.size % 4 ≠ 0
  · rw [if_pos h1]; left; exact ⟨rfl, by omega⟩
  rw [if_neg h1]; right
  by_cases h2 : 2028 < h.o.size + q.size
  · rw [if_pos h2]; left; exact ⟨rfl, by omega, by omega, by omega⟩
  rw [if_neg h2]; right; exact ⟨rfl, by omega, by omega, by omega⟩
theorem ipText_no {h : Hd} {q : ByteArray} (e : ipErr h q ≠ 0) : ipText h q = { data := #[] } := by unfold ipText; rw [if_neg e]

set_option maxHeartbeats 1000000 in
theorem r4_Put_no (t i l p s d : Int) (f : Bool) (o q : ByteArray) (w : World) (ho : o.size ≤ 140737488351232) (hq : q.size ≤ 140737488351232) (h : ipErr (Hd.mk t i f l p s d o) q ≠ 0) :
    Calls Tryz.prog 76 #[.agg #[.int .u8 t, .int .u16 i, .bool f, .int .u8 l, .int .u8 p, .int .u32 s, .int .u32 d, .string o], .string q] w (Ret (.tuple #[.string { data := #[] }, .int .i64 (ipErr (Hd.mk t i f l p s d o) q)]) w) := by
  rcases ipErr_cases (Hd.mk t i f l p s d o) q with ⟨he, h1 | ⟨h1, h2⟩⟩ | ⟨he, h1, h2, h3⟩ | ⟨he, _⟩
  · rw [he]; clear h he; simp only at h1
    go_enter Tryz.func76, Tryz.ntmps76
    go_wp2_with fail
    go_ret2
    exact ⟨rfl, (by (repeat' (first | with_reducible exact Below.refl _ _ | with_reducible refine Below.setCell ?_ (by first | exact Nat.le_refl _ | (dsimp only; omega)) _ | with_reducible refine bstep ?_ (fresh_below _ _) | with_reducible refine Below.drew ?_)))⟩
  · rw [he]; clear h he; simp only at h1 h2
    have q1 : decide ((0 : Int) < (o.size : Int) % 4) = true := by simp; omega
    clear h2
    go_enter Tryz.func76, Tryz.ntmps76
    go_wp2_with fail
    go_ret2
    exact ⟨rfl, (by (repeat' (first | with_reducible exact Below.refl _ _ | with_reducible refine Below.setCell ?_ (by first | exact Nat.le_refl _ | (dsimp only; omega)) _ | with_reducible refine bstep ?_ (fresh_below _ _) | with_reducible refine Below.drew ?_)))⟩
  · rw [he]; clear h he; simp only at h1 h2 h3
    have q1 : decide ((0 : Int) < (o.size : Int) % 4) = false := by simp; omega
    clear h2
    go_enter Tryz.func76, Tryz.ntmps76
    go_wp2_with fail
    go_ret2
    exact ⟨rfl, (by (repeat' (first | with_reducible exact Below.refl _ _ | with_reducible refine Below.setCell ?_ (by first | exact Nat.le_refl _ | (dsimp only; omega)) _ | with_reducible refine bstep ?_ (fresh_below _ _) | with_reducible refine Below.drew ?_)))⟩
  · exact absurd he h

set_option maxRecDepth 100000 in
set_option maxHeartbeats 2000000 in
theorem r4_Put_yes (t i l p s d : Int) (f : Bool) (o q : ByteArray) (w : World) (hk : (Hd.mk t i f l p s d o).Ok) (h : ipErr (Hd.mk t i f l p s d o) q = 0) :
    Calls Tryz.prog 76 #[.agg #[.int .u8 t, .int .u16 i, .bool f, .int .u8 l, .int .u8 p, .int .u32 s, .int .u32 d, .string o], .string q] w (Ret (.tuple #[.string (S ((Hd.mk t i f l p s d o).put q)), .int .i64 0]) w) := by
  obtain ⟨h1, h2, h3⟩ := ipErr_0 h
  simp only at h1 h2 h3
  obtain ⟨z, hz⟩ : ∃ z, z = 20 + (o.size : Int) + (q.size : Int) := ⟨_, rfl⟩
  have hzz : (Hd.mk t i f l p s d o).all q = z := hz.symm
  obtain ⟨m, hm⟩ : ∃ m, m = (Hd.mk t i f l p s d o).sum q := ⟨_, rfl⟩
  have hmb : 0 ≤ m ∧ m ≤ 65535 := by rw [hm]; exact sumL_bd _
  have c1 := fun W => r4_Bytes t i l p s d z 0 f o W hk h1 h2 ⟨by omega, by omega⟩ ⟨by omega, by omega⟩
  have c3 := fun W => r4_Bytes t i l p s d z m f o W hk h1 h2 ⟨by omega, by omega⟩ hmb
  have c2 := fun W => r_Sum (some ⟨W.heap.size, 0, none⟩) 1 1 [S ((Hd.mk t i f l p s d o).bytes z 0)] (W.alloc (.cells #[.string (S ((Hd.mk t i f l p s d o).bytes z 0))] 9)) (Row.freshAt W #[.string (S ((Hd.mk t i f l p s d o).bytes z 0))] 9 W.heap.size _ _ rfl rfl rfl) (by
      intro x hx
      simp only [List.mem_cons, List.not_mem_nil, or_false] at hx
      subst hx
      rw [S_size, Hd.bytes_length]; simp only; omega) (by omega)
  rw [show sumL ([S ((Hd.mk t i f l p s d o).bytes z 0)].map L) = m from by rw [hm]; unfold Hd.sum; rw [hzz]; simp only [List.map_cons, List.map_nil, L_S]] at c2
  have hend : S ((Hd.mk t i f l p s d o).bytes z m) ++ q = S ((Hd.mk t i f l p s d o).put q) := by
    apply L_inj
    unfold Hd.put
    rw [hzz, ← hm, L_append, L_S, L_S]
  obtain ⟨sb, hsb⟩ : ∃ x, x = S ((Hd.mk t i f l p s d o).bytes z 0) := ⟨_, rfl⟩
  obtain ⟨sc, hsc⟩ : ∃ x, x = S ((Hd.mk t i f l p s d o).bytes z m) := ⟨_, rfl⟩
  have a1 : sc.size = 20 + o.size := by rw [hsc, S_size, Hd.bytes_length]
  have a2 : (sc ++ q).size = 20 + o.size + q.size := by rw [ByteArray.size_append, a1]
  rw [← hsb] at c1 c2
  rw [← hsc] at c3 hend
  have g1 : ¬ 40 < (o.size : Int) := by omega
  have g3 : ¬ (2028 - (o.size : Int)) < (q.size : Int) := by omega
  have oz : o.size ≤ 140737488351232 := by omega
  have qz : q.size ≤ 140737488351232 := by omega
  have q1 : decide ((0 : Int) < (o.size : Int) % 4) = false := by simp; omega
  have hz2 : 20 + (o.size : Int) + (q.size : Int) = z := hz.symm
  have hzb : 0 ≤ z ∧ z ≤ 65535 := by omega
  have C1 := hide c1; have C2 := hide c2; have C3 := hide c3; have HE := hide hend
  clear c1 c2 c3 hend hsb hsc hk h hz hzz hm h2
  go_enter Tryz.func76, Tryz.ntmps76
  have d0 := Cells.new w #[.int .u8 t, .int .u16 i, .bool f, .int .u8 l, .int .u8 p, .int .u32 s, .int .u32 d, .string o] 160
  obtain ⟨xd0_0, xd0_1, xd0_2, xd0_3, xd0_4, xd0_5, xd0_6, xd0_7⟩ := d0.x8
  obtain ⟨yd0_0, yd0_1, yd0_2, yd0_3, yd0_4, yd0_5, yd0_6, yd0_7⟩ := d0.y8
  go_wp2_with fail
  (with_reducible refine (C1.out _).mono ?_)
  rintro e w2 ⟨rfl, b2⟩
  have d2 := Cells.below b2 d0
  replace b2 : Below w.heap.size w w2 := bstep (fresh_below _ _) b2
  clear d0 xd0_0 xd0_1 xd0_2 xd0_3 xd0_4 xd0_5 xd0_6 xd0_7 yd0_0 yd0_1 yd0_2 yd0_3 yd0_4 yd0_5 yd0_6 yd0_7
  go_wp2_with fail
  (with_reducible refine (C2.out _).mono ?_)
  rintro e w3 ⟨rfl, b3⟩
  have d3 := Cells.up d2 (fresh_below _ _) b3
  replace b3 : Below w.heap.size w w3 := bstep (bstep b2 (fresh_below _ _)) b3
  obtain ⟨xd3_0, xd3_1, xd3_2, xd3_3, xd3_4, xd3_5, xd3_6, xd3_7⟩ := d3.x8
  obtain ⟨yd3_0, yd3_1, yd3_2, yd3_3, yd3_4, yd3_5, yd3_6, yd3_7⟩ := d3.y8
  go_wp2_with fail
  (with_reducible refine (C3.out _).mono ?_)
  rintro e w5 ⟨rfl, b5⟩
  replace b5 : Below w.heap.size w w5 := bstep b3 b5
  go_wp2
  go_ret2
  exact ⟨ret_two (v_str HE.out) rfl, (by (repeat' (first | with_reducible exact b5 | with_reducible exact Below.refl _ _ | with_reducible refine Below.setCell ?_ (by first | exact Nat.le_refl _ | (dsimp only; omega)) _ | with_reducible refine bstep ?_ (fresh_below _ _) | with_reducible refine Below.drew ?_)))⟩

theorem r4_Put (t i l p s d : Int) (f : Bool) (o q : ByteArray) (w : World) (hk : (Hd.mk t i f l p s d o).Ok) (hq : q.size ≤ 140737488351232) :
    Calls Tryz.prog 76 #[.agg #[.int .u8 t, .int .u16 i, .bool f, .int .u8 l, .int .u8 p, .int .u32 s, .int .u32 d, .string o], .string q] w (Ret (.tuple #[.string (ipText (Hd.mk t i f l p s d o) q), .int .i64 (ipErr (Hd.mk t i f l p s d o) q)]) w) := by
  by_cases h : ipErr (Hd.mk t i f l p s d o) q = 0
  · have c := r4_Put_yes t i l p s d f o q w hk h
    unfold ipText; rw [if_pos h, h]; exact c
  · rw [ipText_no h]; exact r4_Put_no t i l p s d f o q w hk.2.2.2.2.2.2 hq h

end Go.Proofs.YtilfcikhipadpaaGreatDoor
end

section
/- The document's Seal of udp (porterref05) over this program. -/
set_option linter.unusedVariables false
namespace Go.Proofs.YtilfcikhipadpaaGreatDoor
open Go.RowKit
attribute [local go_sem] Oper.semAt_some

set_option maxHeartbeats 4000000 in
theorem r5_Seal (a b : Int) (s : ByteArray) (w : World) (ha : 0 ≤ a ∧ a ≤ 4294967295) (hb : 0 ≤ b ∧ b ≤ 4294967295) (hs : s.size ≤ 140737488351232) :
    Calls Tryz.prog 133 #[.int .u32 a, .int .u32 b, .string s] w (Ret (.string (S (udpSeal a b (L s)))) w) := by
  by_cases h8 : s.size < 8
  · have hv : udpSeal a b (L s) = L s := by unfold udpSeal; rw [L_length, if_pos h8]
    rw [hv, S_L]
    have q2 : (s.size : Int) < 8 := by omega
    clear hv
    go_enter Tryz.func133, Tryz.ntmps133
    go_wp2_with fail
    go_ret
    exact ⟨rfl, Below.refl _ _⟩
  · have q2 : ¬ (s.size : Int) < 8 := by omega
    have i1 : (8 : Int) ≤ (s.size : Int) := by omega
    have i2 : (6 : Int) ≤ (s.size : Int) := by omega
    have hv : udpSeal a b (L s) = (L s).take 6 ++ put16 (udpSum a b (L s)) ++ (L s).drop 8 := by unfold udpSeal; rw [L_length, if_neg h8]
    rw [hv]
    have hub := udpSum_bd a b (L s)
    have c4 := fun w => r_Put16 (udpSum a b (L s)) w (by omega) hub.2
    have c1 := fun w => r5_Pseudo a b 17 s.size w ha hb (by omega) hs
    have hsb := sumL_bd [pseudo a b 17 (L s).length, (L s).take 6 ++ [0, 0] ++ (L s).drop 8]
    have hsum : udpSum a b (L s) = if sumL [pseudo a b 17 (L s).length, (L s).take 6 ++ [0, 0] ++ (L s).drop 8] = 0 then 65535 else sumL [pseudo a b 17 (L s).length, (L s).take 6 ++ [0, 0] ++ (L s).drop 8] := rfl
    obtain ⟨q, hq⟩ : ∃ q, q = S (pseudo a b 17 s.size) := ⟨_, rfl⟩
    have zq : q.size = 12 := by rw [hq]; rfl
    obtain ⟨f, hf⟩ : ∃ f, f = s.extract 0 6 := ⟨_, rfl⟩
    obtain ⟨g, hg⟩ : ∃ g, g = s.extract 8 s.size := ⟨_, rfl⟩
    have zf : f.size = 6 := by rw [hf, ByteArray.size_extract]; omega
    have zg : g.size = s.size - 8 := by rw [hg, ByteArray.size_extract]; omega
    have hLf : L f = (L s).take 6 := by rw [hf, L_to]
    have hLg : L g = (L s).drop 8 := by rw [hg, L_from]
    have z00 : (f ++ { data := #[0, 0] }).size = 8 := by rw [ByteArray.size_append, zf]; rfl
    have hLm : L (f ++ { data := #[0, 0] } ++ g) = (L s).take 6 ++ [0, 0] ++ (L s).drop 8 := by rw [L_append, L_append, hLf, hLg]; rfl
    have hzm : (f ++ { data := #[0, 0] } ++ g).size = s.size := by rw [ByteArray.size_append, z00, zg]; omega
    have c2 := fun W => r_Sum (some ⟨W.heap.size, 0, none⟩) 2 2 [q, f ++ { data := #[0, 0] } ++ g] (W.alloc (.cells #[.string q, .string (f ++ { data := #[0, 0] } ++ g)] 9)) (Row.freshAt W #[.string q, .string (f ++ { data := #[0, 0] } ++ g)] 9 W.heap.size _ _ rfl rfl rfl) (by
      intro x hx
      simp only [List.mem_cons, List.not_mem_nil, or_false] at hx
      rcases hx with rfl | rfl
      · omega
      · rw [hzm]; exact hs) (by omega)
    have hm : [q, f ++ { data := #[0, 0] } ++ g].map L = [pseudo a b 17 (L s).length, (L s).take 6 ++ [0, 0] ++ (L s).drop 8] := by
      rw [List.map_cons, List.map_cons, hLm, hq]; rfl
    rw [hm] at c2
    obtain ⟨n, hn⟩ : ∃ n, n = sumL [pseudo a b 17 (L s).length, (L s).take 6 ++ [0, 0] ++ (L s).drop 8] := ⟨_, rfl⟩
    rw [← hn] at c2 hsb hsum
    rw [← hq] at c1
    obtain ⟨m, hm2⟩ : ∃ m, m = udpSum a b (L s) := ⟨_, rfl⟩
    rw [← hm2] at c4 hsum hub
    obtain ⟨p, hp⟩ : ∃ p, p = S (put16 m) := ⟨_, rfl⟩
    have zp : p.size = 2 := by rw [hp]; rfl
    rw [← hp] at c4
    have zg2 : g.size ≤ 140737488351232 := by omega
    have zfp : (f ++ p).size = 8 := by rw [ByteArray.size_append, zf, zp]
    have hend : f ++ p ++ g = S ((L s).take 6 ++ put16 (udpSum a b (L s)) ++ (L s).drop 8) := by
      apply L_inj
      rw [L_S, L_append, L_append, hLf, hLg, hp, hm2]; rfl
    subst hf
    subst hg
    have HE := hide hend; have C1 := hide c1; have C2 := hide c2; have C4 := hide c4
    clear zf zg zg2 z00 hzm hend c1 c2 c4 hLf hLg hLm hm hn hm2 hp hv hq
    by_cases h0 : n = 0
    · rw [if_pos h0] at hsum
      subst hsum
      subst h0
      go_enter Tryz.func133, Tryz.ntmps133
      go_wp2_with fail
      go_region_held_law (fun _ => True) (trivial)
        (first | (go_at_call 187; (with_reducible refine (C1.out _).mono ?_); rintro e w1 ⟨rfl, b1⟩) | (go_at_call 129; (with_reducible refine (C2.out _).mono ?_); rintro e w2 ⟨rfl, b2⟩))
      all_goals
       go_wp2_with fail
       go_region_held_law (fun _ => True) (trivial)
        (first | (go_at_call 118; (with_reducible refine (C4.out _).mono ?_); rintro e w3 ⟨rfl, b3⟩))
       all_goals
        go_wp2
        go_ret
        refine ⟨ret_str HE.out, ?_⟩
        repeat' (first | exact Below.refl _ _ | refine bstep ?_ b3 | refine bstep ?_ b2 | refine bstep ?_ b1 | refine Below.drew ?_ | refine bstep ?_ (fresh_below _ _))
    · rw [if_neg h0] at hsum
      subst hsum
      have q3 : (m == 0) = false := by simp [h0]
      have q4 : decide (m = 0) = false := by simp [h0]
      go_enter Tryz.func133, Tryz.ntmps133
      go_wp2_with fail
      go_region_held_law (fun _ => True) (trivial)
        (first | (go_at_call 187; (with_reducible refine (C1.out _).mono ?_); rintro e w1 ⟨rfl, b1⟩) | (go_at_call 129; (with_reducible refine (C2.out _).mono ?_); rintro e w2 ⟨rfl, b2⟩))
      all_goals
       go_wp2_with fail
       go_region_held_law (fun _ => True) (trivial)
        (first | (go_at_call 118; (with_reducible refine (C4.out _).mono ?_); rintro e w3 ⟨rfl, b3⟩))
       all_goals
        go_wp2
        go_ret
        refine ⟨ret_str HE.out, ?_⟩
        repeat' (first | exact Below.refl _ _ | refine bstep ?_ b3 | refine bstep ?_ b2 | refine bstep ?_ b1 | refine Below.drew ?_ | refine bstep ?_ (fresh_below _ _))
end Go.Proofs.YtilfcikhipadpaaGreatDoor
end

section
/- The document's answer for icmp (porterref07) over this program. -/
set_option linter.unusedVariables false
namespace Go.Proofs.YtilfcikhipadpaaGreatDoor
open Go.RowKit
attribute [local go_sem] Oper.semAt_some

/-- a message's cells -/
structure Msg where
  t : Int
  c : Int
  n : Int
  r : ByteArray
  d : ByteArray
def Msg.Ok (m : Msg) : Prop := (0 ≤ m.t ∧ m.t ≤ 255) ∧ (0 ≤ m.c ∧ m.c ≤ 255) ∧ (0 ≤ m.n ∧ m.n ≤ 65535) ∧ m.r.size ≤ 140737488351232 ∧ m.d.size ≤ 140737488351232
/-- what a text is as a message -/
def msgOf (s : ByteArray) : Msg := ⟨at_ (L s) 0, at_ (L s) 1, be16 (L s) 2, s.extract 4 8, s.extract 8 s.size⟩
theorem msgOf_ok {s : ByteArray} (hs : s.size ≤ 140737488351232) : (msgOf s).Ok := by
  refine ⟨at_bd _ _, at_bd _ _, be16_bd _ _, ?_, ?_⟩
  · show (s.extract 4 8).size ≤ _; rw [ByteArray.size_extract]; omega
  · show (s.extract 8 s.size).size ≤ _; rw [ByteArray.size_extract]; omega
/-- a message's bytes -/
def msgPut (m : Msg) : List UInt8 := [byt m.t, byt m.c] ++ put16 m.n ++ L m.r ++ L m.d

theorem r7_Parse_no (s : ByteArray) (w : World) (h : s.size < 8) :
    Calls Tryz.prog 84 #[.string s] w (Ret (.tuple #[.agg #[.int .u8 0, .int .u8 0, .int .u16 0, .string { data := #[] }, .string { data := #[] }], .bool false]) w) := by
  have q2 : (s.size : Int) < 8 := by omega
  go_enter Tryz.func84, Tryz.ntmps84
  go_wp2_with fail
  (try simp only [Exit.inBlock, Exit.then]); refine bodyPost_ret (by simp [results, Tryz.results84, go_sem]; try rfl) rfl ?_
  exact ⟨rfl, fresh_below _ _⟩

set_option maxRecDepth 100000 in
set_option maxHeartbeats 4000000 in
theorem r7_Parse_yes (s : ByteArray) (w : World) (hs : s.size ≤ 140737488351232) (h : 8 ≤ s.size) :
    Calls Tryz.prog 84 #[.string s] w (Ret (.tuple #[.agg #[.int .u8 (msgOf s).t, .int .u8 (msgOf s).c, .int .u16 (msgOf s).n, .string (msgOf s).r, .string (msgOf s).d], .bool true]) w) := by
  have c1 := fun w => r_Get16 s 2 w (reach_max hs) (by omega)
  have hh : has s.size 2 2 = true := has_true (by omega) (by omega)
  have hn : get16 (L s) 2 = (msgOf s).n := by rw [show (2 : Int) = ((2 : Nat) : Int) from rfl, get16_nat (by rw [L_length]; omega)]; rfl
  rw [hh, hn] at c1
  have e0 : (((s[0]'(by omega)).toNat : Nat) : Int) = (msgOf s).t := by rw [getElem_L s 0 (by omega)]; rfl
  have e1 : (((s[1]'(by omega)).toNat : Nat) : Int) = (msgOf s).c := by rw [getElem_L s 1 (by omega)]; rfl
  have e2 : s.extract 4 8 = (msgOf s).r := rfl
  have e3 : s.extract 8 s.size = (msgOf s).d := rfl
  obtain ⟨m, hm⟩ : ∃ m, m = msgOf s := ⟨_, rfl⟩
  rw [← hm] at c1 e0 e1 e2 e3 ⊢
  have q2 : ¬ (s.size : Int) < 8 := by omega
  have i1 : (4 : Int) ≤ (s.size : Int) := by omega
  have i2 : (8 : Int) ≤ (s.size : Int) := by omega
  have i3 : (1 : Int) < (s.size : Int) := by omega
  have i4 : (0 : Int) < (s.size : Int) := by omega
  have i5 : 0 < s.size := by omega
  have i6 : 1 < s.size := by omega
  have i7 : 8 ≤ s.size := h
  have i8 : 4 ≤ s.size := by omega
  have C1 := hide c1; have E0 := hide e0; have E1 := hide e1; have E2 := hide e2; have E3 := hide e3
  clear c1 e0 e1 e2 e3 hh hn hm
  go_enter Tryz.func84, Tryz.ntmps84
  have d0 := Cells.new w #[.int .u8 0, .int .u8 0, .int .u16 0, .string { data := #[] }, .string { data := #[] }] 164
  go_wp2_with fail
  (with_reducible refine (C1.out _).mono ?_)
  rintro e w1 ⟨rfl, b1⟩
  replace d0 := Cells.up d0 (by (repeat' (first | with_reducible exact Below.refl _ _ | with_reducible refine bstep ?_ (fresh_below _ _) | with_reducible refine Below.drew ?_))) b1
  replace b1 : Below w.heap.size w w1 := by (refine bstep ?_ b1); (repeat' (first | with_reducible exact Below.refl _ _ | with_reducible refine Below.setCell ?_ (by first | exact Nat.le_refl _ | (dsimp only; omega)) _ | with_reducible refine bstep ?_ (fresh_below _ _) | with_reducible refine Below.drew ?_))
  have z1 : w.heap.size ≤ w1.heap.size := b1.size
  go_wp2_with fail
  have d1 : Cells w1.drew w.heap.size #[.int .u8 0, .int .u8 0, .int .u16 0, .string { data := #[] }, .string { data := #[] }] 164 := d0
  have b2 := b1.drew
  go_still_tail 10, (by kernel_rfl)
  change wpList _ _ _ _ _ w1.drew
  generalize w1.drew = w2 at *
  obtain ⟨xd1_0, xd1_1, xd1_2, xd1_3, xd1_4⟩ := d1.x5
  obtain ⟨yd1_0, yd1_1, yd1_2, yd1_3, yd1_4⟩ := d1.y5
  go_wp2
  (try simp only [Exit.inBlock, Exit.then]); refine bodyPost_ret (by simp [results, Tryz.results84, go_sem, *]; try rfl) rfl ?_
  exact ⟨by rw [← E0.out, ← E1.out, ← E2.out, ← E3.out], (by (repeat' (first | exact b2 | with_reducible exact Below.refl _ _ | with_reducible refine Below.setCell ?_ (by first | exact Nat.le_refl _ | (dsimp only; omega)) _ | with_reducible refine bstep ?_ bq0 | with_reducible refine bstep ?_ bq1 | with_reducible refine bstep ?_ bq2 | with_reducible refine bstep ?_ bq3 | with_reducible refine bstep ?_ bq4 | with_reducible refine bstep ?_ bq5 | with_reducible refine bstep ?_ (fresh_below _ _) | with_reducible refine Below.drew ?_)))⟩

/-- a message with its sum -/
def icmpSum (l : List UInt8) : Int := sumL [lay l 2 0]
def icmpSeal (l : List UInt8) : List UInt8 := if l.length < 8 then l else lay l 2 (icmpSum l)
theorem icmpSum_bd (l : List UInt8) : 0 ≤ icmpSum l ∧ icmpSum l ≤ 65535 := sumL_bd _

end Go.Proofs.YtilfcikhipadpaaGreatDoor
end

section
/- Put of the document's icmp (porterref07) over this program. -/
set_option linter.unusedVariables false
namespace Go.Proofs.YtilfcikhipadpaaGreatDoor
open Go.RowKit
attribute [local go_sem] Oper.semAt_some

set_option maxRecDepth 100000 in
set_option maxHeartbeats 4000000 in
theorem r7_Put_yes (m : Msg) (w : World) (ho : m.Ok) (h : m.r.size = 4) :
    Calls Tryz.prog 78 #[.agg #[.int .u8 m.t, .int .u8 m.c, .int .u16 m.n, .string m.r, .string m.d]] w (Ret (.tuple #[.string (S (msgPut m)), .int .i64 0]) w) := by
  obtain ⟨⟨t0, t1⟩, ⟨c0, c1⟩, ⟨n0, n1⟩, hr, hd⟩ := ho
  have f1 := fun w => r_Put16 m.n w n0 n1
  obtain ⟨s2, e2⟩ : ∃ s, s = S (put16 m.n) := ⟨_, rfl⟩
  rw [← e2] at f1
  have z2 : s2.size = 2 := by rw [e2]; rfl
  have z1 : (S [byt m.t, byt m.c]).size = 2 := rfl
  have hend : S [byt m.t, byt m.c] ++ s2 ++ m.r ++ m.d = S (msgPut m) := by
    apply L_inj; rw [L_append, L_append, L_append, e2]; rfl
  obtain ⟨s1, e1⟩ : ∃ s, s = S [byt m.t, byt m.c] := ⟨_, rfl⟩
  rw [← e1] at z1 hend
  have cv : ∀ (W : World) (b : Nat), W.cell? ⟨b, 0, none⟩ = some (.int .u8 m.t) → W.cell? ⟨b, 1, none⟩ = some (.int .u8 m.c) → (convert 237 9 (.slice (some ⟨b, 0, none⟩) 2 2)).run Tryz.prog W = .ok (.string s1) W := fun W b h0 h1 => by
    rw [e1]
    exact run_convert_bytes_arg (P := Tryz.prog) W 237 5 Tryz.underlying237 Tryz.underlying5 b 0 2 2 [m.t, m.c] rfl
      (fun i hi => by
        match i, hi with
        | 0, _ => exact h0
        | 1, _ => exact h1) 9 Tryz.underlying9
  have y1 : (s1 ++ s2).size = 4 := by rw [ByteArray.size_append, z1, z2]
  have y2 : (s1 ++ s2 ++ m.r).size = 8 := by rw [ByteArray.size_append, y1, h]
  have q1 : ((m.r.size : Int) == 4) = true := by simp; omega
  have q2 : ((m.r.size : Int) != 4) = false := by simp; omega
  have hd2 : (m.d.size : Int) ≤ 140737488351232 := by omega
  have F1 := hide f1; have HE := hide hend
  clear f1 hend e1 e2 h
  go_enter Tryz.func78, Tryz.ntmps78
  have d0 := Cells.new w #[.int .u8 m.t, .int .u8 m.c, .int .u16 m.n, .string m.r, .string m.d] 164
  go_wp2_with fail
  have qA : ∀ (W : World), (W.alloc (.cells #[.int .u8 m.t, .int .u8 m.c] 5)).cell? ⟨W.heap.size, 0, none⟩ = some (.int .u8 m.t) := fun W => Lib.cell_of_heap (heap_alloc_new W _) 0
  have qB : ∀ (W : World), (W.alloc (.cells #[.int .u8 m.t, .int .u8 m.c] 5)).cell? ⟨W.heap.size, 1, none⟩ = some (.int .u8 m.c) := fun W => Lib.cell_of_heap (heap_alloc_new W _) 1
  have SK := hide (fun (zX zY : World) (zh : (Below w.heap.size w zX ∧ zX.cell? ⟨w.heap.size, 0, none⟩ = some (.int .u8 m.t) ∧ zX.cell? ⟨w.heap.size, 1, none⟩ = some (.int .u8 m.c) ∧ zX.cell? ⟨w.heap.size, 2, none⟩ = some (.int .u16 m.n) ∧ zX.cell? ⟨w.heap.size, 3, none⟩ = some (.string m.r) ∧ zX.cell? ⟨w.heap.size, 4, none⟩ = some (.string m.d) ∧ True)) (zb : Below zX.heap.size zX zY) => (show (Below w.heap.size w zY ∧ zY.cell? ⟨w.heap.size, 0, none⟩ = some (.int .u8 m.t) ∧ zY.cell? ⟨w.heap.size, 1, none⟩ = some (.int .u8 m.c) ∧ zY.cell? ⟨w.heap.size, 2, none⟩ = some (.int .u16 m.n) ∧ zY.cell? ⟨w.heap.size, 3, none⟩ = some (.string m.r) ∧ zY.cell? ⟨w.heap.size, 4, none⟩ = some (.string m.d) ∧ True) from ⟨bstep zh.1 zb, cellAt zb zh.2.1, cellAt zb zh.2.2.1, cellAt zb zh.2.2.2.1, cellAt zb zh.2.2.2.2.1, cellAt zb zh.2.2.2.2.2.1, trivial⟩))
  have FS := hide (fun (zX : World) (zh : (Below w.heap.size w zX ∧ zX.cell? ⟨w.heap.size, 0, none⟩ = some (.int .u8 m.t) ∧ zX.cell? ⟨w.heap.size, 1, none⟩ = some (.int .u8 m.c) ∧ zX.cell? ⟨w.heap.size, 2, none⟩ = some (.int .u16 m.n) ∧ zX.cell? ⟨w.heap.size, 3, none⟩ = some (.string m.r) ∧ zX.cell? ⟨w.heap.size, 4, none⟩ = some (.string m.d) ∧ True)) => zh.1)
  have GS := hide (fun (zX : World) (zh : (Below w.heap.size w zX ∧ zX.cell? ⟨w.heap.size, 0, none⟩ = some (.int .u8 m.t) ∧ zX.cell? ⟨w.heap.size, 1, none⟩ = some (.int .u8 m.c) ∧ zX.cell? ⟨w.heap.size, 2, none⟩ = some (.int .u16 m.n) ∧ zX.cell? ⟨w.heap.size, 3, none⟩ = some (.string m.r) ∧ zX.cell? ⟨w.heap.size, 4, none⟩ = some (.string m.d) ∧ True)) => zh)
  have hS0 : (Below w.heap.size w (w.alloc (.cells #[.int .u8 m.t, .int .u8 m.c, .int .u16 m.n, .string m.r, .string m.d] 164)) ∧ (w.alloc (.cells #[.int .u8 m.t, .int .u8 m.c, .int .u16 m.n, .string m.r, .string m.d] 164)).cell? ⟨w.heap.size, 0, none⟩ = some (.int .u8 m.t) ∧ (w.alloc (.cells #[.int .u8 m.t, .int .u8 m.c, .int .u16 m.n, .string m.r, .string m.d] 164)).cell? ⟨w.heap.size, 1, none⟩ = some (.int .u8 m.c) ∧ (w.alloc (.cells #[.int .u8 m.t, .int .u8 m.c, .int .u16 m.n, .string m.r, .string m.d] 164)).cell? ⟨w.heap.size, 2, none⟩ = some (.int .u16 m.n) ∧ (w.alloc (.cells #[.int .u8 m.t, .int .u8 m.c, .int .u16 m.n, .string m.r, .string m.d] 164)).cell? ⟨w.heap.size, 3, none⟩ = some (.string m.r) ∧ (w.alloc (.cells #[.int .u8 m.t, .int .u8 m.c, .int .u16 m.n, .string m.r, .string m.d] 164)).cell? ⟨w.heap.size, 4, none⟩ = some (.string m.d) ∧ True) := ⟨(by (repeat' (first | with_reducible exact Below.refl _ _ | with_reducible refine Below.setCell ?_ (by first | exact Nat.le_refl _ | (dsimp only; omega)) _ | with_reducible refine bstep ?_ (fresh_below _ _) | with_reducible refine Below.drew ?_))), d0.at_ 0, d0.at_ 1, d0.at_ 2, d0.at_ 3, d0.at_ 4, trivial⟩
  go_region_held_law (fun w' => (Below w.heap.size w w' ∧ w'.cell? ⟨w.heap.size, 0, none⟩ = some (.int .u8 m.t) ∧ w'.cell? ⟨w.heap.size, 1, none⟩ = some (.int .u8 m.c) ∧ w'.cell? ⟨w.heap.size, 2, none⟩ = some (.int .u16 m.n) ∧ w'.cell? ⟨w.heap.size, 3, none⟩ = some (.string m.r) ∧ w'.cell? ⟨w.heap.size, 4, none⟩ = some (.string m.d) ∧ True)) (first | assumption | exact SK.out _ _ hS0 (Below.refl _ _).drew | exact SK.out _ _ hS0 (fresh_below _ _).drew | exact SK.out _ _ (by assumption) (fresh_below _ _) | (refine SK.out _ _ ?_ (by assumption); assumption))
    (first | (go_at_call 118; (with_reducible refine (F1.out _).mono ?_); rintro e wq ⟨rfl, bq⟩; try (have qc : wq.cell? ⟨w.heap.size + 1, 0, none⟩ = some (.int .u8 m.t) := by (have := cellAt bq (qA _); simpa using this)); try (have qd : wq.cell? ⟨w.heap.size + 1, 1, none⟩ = some (.int .u8 m.c) := by (have := cellAt bq (qB _); simpa using this))))
  all_goals
    trace_state
    go_wp2
    go_ret2
    exact ⟨ret_two (v_str HE.out) rfl, (by first | exact FS.out _ (by assumption) | exact bstep (FS.out _ (by assumption)) (fresh_below _ _) | exact bstep (bstep (FS.out _ (by assumption)) (fresh_below _ _)) (fresh_below _ _))⟩

end Go.Proofs.YtilfcikhipadpaaGreatDoor
end
