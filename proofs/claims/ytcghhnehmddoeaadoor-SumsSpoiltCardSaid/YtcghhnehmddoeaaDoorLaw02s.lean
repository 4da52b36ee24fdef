/- SumsSpoilt walked: it returns true and leaves what lay there as it lay. -/
import Derived.Test.YtcghhnehmddoeaaDoorNums
set_option linter.unusedVariables false
set_option linter.unusedSimpArgs false
namespace Go.Proofs.YtcghhnehmddoeaaDoor
open Go.RowKit
attribute [local go_sem] Oper.semAt_some

set_option maxRecDepth 100000 in
set_option maxHeartbeats 4000000 in
theorem SumsSpoilt_a (bk o n c k : Nat) (l : List Int) (at_ y x : Int) (rest : Bool) (s1 s2 s3 : ByteArray) (m1 m2 : Int) (w : World)
    (hr : Row w w.heap.size (some ⟨bk, o, none⟩) n (ints16 l)) (hn : l.length = n) (hn0 : 0 < n) (hn2 : n ≤ 200) (ha : 0 ≤ at_ ∧ at_ ≤ 255) (hk : at_ % (n : Int) = k) (hkn : k < n) (hx : l.getD k 0 = x) (hxb : 0 ≤ x ∧ x ≤ 65535) (hyb : 0 ≤ y ∧ y ≤ 65535)
    (c1 : ∀ W A cc, Row W W.heap.size A n (ints16 (l.set k 0)) → Calls Tryd.prog 7 #[.slice A n cc] W (Ret (.string s1) W))
    (c2 : ∀ W, Calls Tryd.prog 6 #[.string s1] W (Ret (.bool rest) W))
    (c3 : ∀ W A cc, Row W W.heap.size A n (ints16 l) → Calls Tryd.prog 7 #[.slice A n cc] W (Ret (.string s2) W))
    (c4 : ∀ W A cc, Row W W.heap.size A n (ints16 (l.set k y)) → Calls Tryd.prog 7 #[.slice A n cc] W (Ret (.string s3) W))
    (c5 : ∀ (W : World), Calls Tryd.prog 8 #[.slice (some ⟨W.heap.size, 0, none⟩) 1 1] (W.alloc (.cells #[.string s2] 9)) (Ret (.int .u16 m1) (W.alloc (.cells #[.string s2] 9))))
    (c6 : ∀ (W : World), Calls Tryd.prog 8 #[.slice (some ⟨W.heap.size, 0, none⟩) 1 1] (W.alloc (.cells #[.string s3] 9)) (Ret (.int .u16 m2) (W.alloc (.cells #[.string s3] 9))))
    (h1 : x = y) (hm : (m1 == m2) = true) :
    Calls Tryd.prog 3 #[.slice (some ⟨bk, o, none⟩) n c, .int .u8 at_, .int .u16 y] w (Ret (.bool true) w) := by
  have hcell : ∀ W : World, Below w.heap.size w W → W.cell? ⟨bk, o + k, none⟩ = some (.int .u16 x) := by
    intro W hW
    have hr2 := hr.below hW
    obtain ⟨b', o', he, hb, hcs⟩ := hr2.2 hn0
    injection he with he
    injection he with e1 e2 e3
    subst e1; subst e2
    rw [hcs k _ (ints16_at (by omega)), hx]
  have hnews : ∀ (j : Nat) u, (ints16 l)[j]? = some u → w.cell? ⟨bk, o + j, none⟩ = some u := by
    intro j u hu
    obtain ⟨b', o', he, hb, hcs⟩ := hr.2 hn0
    injection he with he
    injection he with e1 e2 e3
    subst e1; subst e2
    exact hcs j u hu
  obtain ⟨a0, a1⟩ := ha
  have i1 : (k : Int) < (n : Int) := by omega
  have i2 : ¬ 200 < (n : Int) := by omega
  have i3 : ((n : Int) == 0) = false := by simp; omega
  have q1 : (x == y) = true := by simpa using h1
  clear h1
  have C1 := hide c1; have C2 := hide c2; have C3 := hide c3; have C4 := hide c4; have C5 := hide c5; have C6 := hide c6; have HR := hide hr; have HC := hide hcell; have HN := hide hnews; have HL := hide hn; have HX := hide hx
  clear c1 c2 c3 c4 c5 c6 hr hcell hnews hx
  have info16 : (Tryd.prog.info? 23).map (fun i => (i.zero, i.size, i.bytes)) = some (some (.int .u16 0), 1, 2) := by kernel_rfl
  obtain ⟨i0, hi, hz0, hz1, hz2⟩ := info_parts info16
  go_enter Tryd.func3, Tryd.ntmps3
  go_wp2_with (at_builtin; refine wpList_append_own _ rfl _ _ 22 rfl w.heap.size 23 i0 (.int .u16 0) 1 2 Tryd.underlying22 hi hz0 hz1 hz2 rfl (by decide) _ 0 [] rfl ⟨rfl, .inl ⟨rfl, rfl⟩⟩ ⟨bk, o, none⟩ n c (ints16 l) rfl ?c0 ?c1 ?c2 ?c3 ?c4 ?c5 ?_)
  case c0 => simp [ints16, HL.out]
  case c1 => exact HN.out
  case c2 =>
    intro u hu
    unfold ints16 at hu
    obtain ⟨z, _, rfl⟩ := List.mem_map.1 hu
    rfl
  case c3 => unfold maxLen; omega
  case c4 => omega
  intro v' w1 hown hgrow _
  obtain ⟨g, cap, rfl⟩ := owns_at hown hn0
  obtain ⟨hg, hN, -⟩ := Nums.of_owns hown
  have b1 : Below w.heap.size w w1 := (Below.refl _ _).grown hgrow (Nat.le_refl _) (fun k hk => by simp [Value.ownBlock] at hk)
  clear hown hgrow
  have hkl : k < l.length := by omega
  have x0 := hN.at_ hkl
  have y0 := hN.free k
  have hN2 := hN.set_ hkl 0
  have b2 : Below w.heap.size w (w1.setCell ⟨g, k, none⟩ (.int .u16 0)) := b1.setCell (p := ⟨g, k, none⟩) hg _
  have H2 := hide hN2; have B2 := hide b2
  clear hN hN2 b1 b2
  go_wp2_with fail
  generalize w1.setCell ⟨g, k, none⟩ (.int .u16 0) = w2 at *
  clear x0 y0
  have hN2 := H2.out; have b2 := B2.out
  clear H2 B2
  have hl2 : (l.set k 0).length = n := by rw [List.length_set]; exact HL.out
  have row2 := hN2.row
  rw [hl2] at row2
  (with_reducible refine (C1.out _ _ _ row2).mono ?_)
  rintro e w3 ⟨rfl, b3⟩
  have hN3 := hN2.below b3
  replace b3 : Below w.heap.size w w3 := bstep b2 b3
  clear hN2 row2 b2
  go_wp2_with fail
  (with_reducible refine (C2.out _).mono ?_)
  rintro e w4 ⟨rfl, b4⟩
  have hN4 := hN3.below b4
  replace b4 : Below w.heap.size w w4 := bstep b3 b4
  clear hN3 b3
  have hk2 : k < (l.set k 0).length := by omega
  have x4 := hN4.at_ hk2
  have y4 := hN4.free k
  have hN5 := hN4.set_ hk2 y
  rw [List.set_set] at hN5
  have b5 : Below w.heap.size w (w4.setCell ⟨g, k, none⟩ (.int .u16 y)) := b4.setCell (p := ⟨g, k, none⟩) hg _
  have x5 := HC.out _ b5
  have row5 := HR.out.step (Below.refl _ _) b5
  have H5 := hide hN5; have B5 := hide b5; have R5 := hide row5
  clear hN4 hN5 b4 b5 row5
  go_wp2_with fail
  generalize w4.setCell ⟨g, k, none⟩ (.int .u16 y) = w5 at *
  clear x4 y4 x5
  have hN5 := H5.out; have b5 := B5.out
  have row5 : Row w5 w5.heap.size (some ⟨bk, o, none⟩) n (ints16 l) := R5.out.more b5.size
  clear H5 B5 R5
  (with_reducible refine (C3.out _ _ _ row5).mono ?_)
  rintro e w6 ⟨rfl, b6⟩
  have hN6 := hN5.below b6
  replace b6 : Below w.heap.size w w6 := bstep b5 b6
  clear hN5 row5 b5
  go_wp2_with fail
  (with_reducible refine (C5.out _).mono ?_)
  rintro e w7 ⟨rfl, b7⟩
  have hN7 := (hN6.below (fresh_below _ _)).below b7
  replace b7 : Below w.heap.size w w7 := bstep (bstep b6 (fresh_below _ _)) b7
  clear hN6 b6
  have hl7 : (l.set k y).length = n := by rw [List.length_set]; exact HL.out
  have row7 := hN7.row
  rw [hl7] at row7
  go_wp2_with fail
  (with_reducible refine (C4.out _ _ _ row7).mono ?_)
  rintro e w8 ⟨rfl, b8⟩
  replace b8 : Below w.heap.size w w8 := bstep b7 b8
  clear hN7 row7 b7
  go_wp2_with fail
  (with_reducible refine (C6.out _).mono ?_)
  rintro e w9 ⟨rfl, b9⟩
  replace b9 : Below w.heap.size w w9 := bstep (bstep b8 (fresh_below _ _)) b9
  clear b8
  go_wp2_with fail
  (with_reducible refine (summed _).mono ?_)
  rintro e w10 ⟨rfl, b10⟩
  replace b10 : Below w.heap.size w w10 := by (refine bstep ?_ b10); (repeat' (first | with_reducible exact b9 | with_reducible exact Below.refl _ _ | with_reducible refine Below.setCell ?_ (by first | exact Nat.le_refl _ | (dsimp only; omega)) _ | with_reducible refine bstep ?_ (fresh_below _ _) | with_reducible refine Below.drew ?_))
  have z10 : w.heap.size ≤ w10.heap.size := b10.size
  go_wp2_with fail
  go_ret
  exact ⟨rfl, (by (repeat' (first | with_reducible exact b10 | with_reducible exact Below.refl _ _ | with_reducible refine Below.setCell ?_ (by first | exact Nat.le_refl _ | (dsimp only; omega)) _ | with_reducible refine bstep ?_ (fresh_below _ _) | with_reducible refine Below.drew ?_)))⟩

set_option maxRecDepth 100000 in
set_option maxHeartbeats 4000000 in
theorem SumsSpoilt_b (bk o n c k : Nat) (l : List Int) (at_ y x : Int) (rest : Bool) (s1 s2 s3 : ByteArray) (m1 m2 : Int) (w : World)
    (hr : Row w w.heap.size (some ⟨bk, o, none⟩) n (ints16 l)) (hn : l.length = n) (hn0 : 0 < n) (hn2 : n ≤ 200) (ha : 0 ≤ at_ ∧ at_ ≤ 255) (hk : at_ % (n : Int) = k) (hkn : k < n) (hx : l.getD k 0 = x) (hxb : 0 ≤ x ∧ x ≤ 65535) (hyb : 0 ≤ y ∧ y ≤ 65535)
    (c1 : ∀ W A cc, Row W W.heap.size A n (ints16 (l.set k 0)) → Calls Tryd.prog 7 #[.slice A n cc] W (Ret (.string s1) W))
    (c2 : ∀ W, Calls Tryd.prog 6 #[.string s1] W (Ret (.bool rest) W))
    (c3 : ∀ W A cc, Row W W.heap.size A n (ints16 l) → Calls Tryd.prog 7 #[.slice A n cc] W (Ret (.string s2) W))
    (c4 : ∀ W A cc, Row W W.heap.size A n (ints16 (l.set k y)) → Calls Tryd.prog 7 #[.slice A n cc] W (Ret (.string s3) W))
    (c5 : ∀ (W : World), Calls Tryd.prog 8 #[.slice (some ⟨W.heap.size, 0, none⟩) 1 1] (W.alloc (.cells #[.string s2] 9)) (Ret (.int .u16 m1) (W.alloc (.cells #[.string s2] 9))))
    (c6 : ∀ (W : World), Calls Tryd.prog 8 #[.slice (some ⟨W.heap.size, 0, none⟩) 1 1] (W.alloc (.cells #[.string s3] 9)) (Ret (.int .u16 m2) (W.alloc (.cells #[.string s3] 9))))
    (h1 : x ≠ y) (h2 : x % 65535 = y % 65535) (h3 : rest = false) (hm : (m1 == m2) = true) :
    Calls Tryd.prog 3 #[.slice (some ⟨bk, o, none⟩) n c, .int .u8 at_, .int .u16 y] w (Ret (.bool true) w) := by
  have hcell : ∀ W : World, Below w.heap.size w W → W.cell? ⟨bk, o + k, none⟩ = some (.int .u16 x) := by
    intro W hW
    have hr2 := hr.below hW
    obtain ⟨b', o', he, hb, hcs⟩ := hr2.2 hn0
    injection he with he
    injection he with e1 e2 e3
    subst e1; subst e2
    rw [hcs k _ (ints16_at (by omega)), hx]
  have hnews : ∀ (j : Nat) u, (ints16 l)[j]? = some u → w.cell? ⟨bk, o + j, none⟩ = some u := by
    intro j u hu
    obtain ⟨b', o', he, hb, hcs⟩ := hr.2 hn0
    injection he with he
    injection he with e1 e2 e3
    subst e1; subst e2
    exact hcs j u hu
  obtain ⟨a0, a1⟩ := ha
  have i1 : (k : Int) < (n : Int) := by omega
  have i2 : ¬ 200 < (n : Int) := by omega
  have i3 : ((n : Int) == 0) = false := by simp; omega
  have q1 : (x == y) = false := by simpa using h1
  have q2 : (x % 65535 == y % 65535) = true := by simpa using h2
  clear h1 h2
  subst h3
  have C1 := hide c1; have C2 := hide c2; have C3 := hide c3; have C4 := hide c4; have C5 := hide c5; have C6 := hide c6; have HR := hide hr; have HC := hide hcell; have HN := hide hnews; have HL := hide hn; have HX := hide hx
  clear c1 c2 c3 c4 c5 c6 hr hcell hnews hx
  have info16 : (Tryd.prog.info? 23).map (fun i => (i.zero, i.size, i.bytes)) = some (some (.int .u16 0), 1, 2) := by kernel_rfl
  obtain ⟨i0, hi, hz0, hz1, hz2⟩ := info_parts info16
  go_enter Tryd.func3, Tryd.ntmps3
  go_wp2_with (at_builtin; refine wpList_append_own _ rfl _ _ 22 rfl w.heap.size 23 i0 (.int .u16 0) 1 2 Tryd.underlying22 hi hz0 hz1 hz2 rfl (by decide) _ 0 [] rfl ⟨rfl, .inl ⟨rfl, rfl⟩⟩ ⟨bk, o, none⟩ n c (ints16 l) rfl ?c0 ?c1 ?c2 ?c3 ?c4 ?c5 ?_)
  case c0 => simp [ints16, HL.out]
  case c1 => exact HN.out
  case c2 =>
    intro u hu
    unfold ints16 at hu
    obtain ⟨z, _, rfl⟩ := List.mem_map.1 hu
    rfl
  case c3 => unfold maxLen; omega
  case c4 => omega
  intro v' w1 hown hgrow _
  obtain ⟨g, cap, rfl⟩ := owns_at hown hn0
  obtain ⟨hg, hN, -⟩ := Nums.of_owns hown
  have b1 : Below w.heap.size w w1 := (Below.refl _ _).grown hgrow (Nat.le_refl _) (fun k hk => by simp [Value.ownBlock] at hk)
  clear hown hgrow
  have hkl : k < l.length := by omega
  have x0 := hN.at_ hkl
  have y0 := hN.free k
  have hN2 := hN.set_ hkl 0
  have b2 : Below w.heap.size w (w1.setCell ⟨g, k, none⟩ (.int .u16 0)) := b1.setCell (p := ⟨g, k, none⟩) hg _
  have H2 := hide hN2; have B2 := hide b2
  clear hN hN2 b1 b2
  go_wp2_with fail
  generalize w1.setCell ⟨g, k, none⟩ (.int .u16 0) = w2 at *
  clear x0 y0
  have hN2 := H2.out; have b2 := B2.out
  clear H2 B2
  have hl2 : (l.set k 0).length = n := by rw [List.length_set]; exact HL.out
  have row2 := hN2.row
  rw [hl2] at row2
  (with_reducible refine (C1.out _ _ _ row2).mono ?_)
  rintro e w3 ⟨rfl, b3⟩
  have hN3 := hN2.below b3
  replace b3 : Below w.heap.size w w3 := bstep b2 b3
  clear hN2 row2 b2
  go_wp2_with fail
  (with_reducible refine (C2.out _).mono ?_)
  rintro e w4 ⟨rfl, b4⟩
  have hN4 := hN3.below b4
  replace b4 : Below w.heap.size w w4 := bstep b3 b4
  clear hN3 b3
  have hk2 : k < (l.set k 0).length := by omega
  have x4 := hN4.at_ hk2
  have y4 := hN4.free k
  have hN5 := hN4.set_ hk2 y
  rw [List.set_set] at hN5
  have b5 : Below w.heap.size w (w4.setCell ⟨g, k, none⟩ (.int .u16 y)) := b4.setCell (p := ⟨g, k, none⟩) hg _
  have x5 := HC.out _ b5
  have row5 := HR.out.step (Below.refl _ _) b5
  have H5 := hide hN5; have B5 := hide b5; have R5 := hide row5
  clear hN4 hN5 b4 b5 row5
  go_wp2_with fail
  generalize w4.setCell ⟨g, k, none⟩ (.int .u16 y) = w5 at *
  clear x4 y4 x5
  have hN5 := H5.out; have b5 := B5.out
  have row5 : Row w5 w5.heap.size (some ⟨bk, o, none⟩) n (ints16 l) := R5.out.more b5.size
  clear H5 B5 R5
  (with_reducible refine (C3.out _ _ _ row5).mono ?_)
  rintro e w6 ⟨rfl, b6⟩
  have hN6 := hN5.below b6
  replace b6 : Below w.heap.size w w6 := bstep b5 b6
  clear hN5 row5 b5
  go_wp2_with fail
  (with_reducible refine (C5.out _).mono ?_)
  rintro e w7 ⟨rfl, b7⟩
  have hN7 := (hN6.below (fresh_below _ _)).below b7
  replace b7 : Below w.heap.size w w7 := bstep (bstep b6 (fresh_below _ _)) b7
  clear hN6 b6
  have hl7 : (l.set k y).length = n := by rw [List.length_set]; exact HL.out
  have row7 := hN7.row
  rw [hl7] at row7
  go_wp2_with fail
  (with_reducible refine (C4.out _ _ _ row7).mono ?_)
  rintro e w8 ⟨rfl, b8⟩
  replace b8 : Below w.heap.size w w8 := bstep b7 b8
  clear hN7 row7 b7
  go_wp2_with fail
  (with_reducible refine (C6.out _).mono ?_)
  rintro e w9 ⟨rfl, b9⟩
  replace b9 : Below w.heap.size w w9 := bstep (bstep b8 (fresh_below _ _)) b9
  clear b8
  go_wp2_with fail
  (with_reducible refine (summed _).mono ?_)
  rintro e w10 ⟨rfl, b10⟩
  replace b10 : Below w.heap.size w w10 := by (refine bstep ?_ b10); (repeat' (first | with_reducible exact b9 | with_reducible exact Below.refl _ _ | with_reducible refine Below.setCell ?_ (by first | exact Nat.le_refl _ | (dsimp only; omega)) _ | with_reducible refine bstep ?_ (fresh_below _ _) | with_reducible refine Below.drew ?_))
  have z10 : w.heap.size ≤ w10.heap.size := b10.size
  go_wp2_with fail
  go_ret
  exact ⟨rfl, (by (repeat' (first | with_reducible exact b10 | with_reducible exact Below.refl _ _ | with_reducible refine Below.setCell ?_ (by first | exact Nat.le_refl _ | (dsimp only; omega)) _ | with_reducible refine bstep ?_ (fresh_below _ _) | with_reducible refine Below.drew ?_)))⟩

set_option maxRecDepth 100000 in
set_option maxHeartbeats 4000000 in
theorem SumsSpoilt_c (bk o n c k : Nat) (l : List Int) (at_ y x : Int) (rest : Bool) (s1 s2 s3 : ByteArray) (m1 m2 : Int) (w : World)
    (hr : Row w w.heap.size (some ⟨bk, o, none⟩) n (ints16 l)) (hn : l.length = n) (hn0 : 0 < n) (hn2 : n ≤ 200) (ha : 0 ≤ at_ ∧ at_ ≤ 255) (hk : at_ % (n : Int) = k) (hkn : k < n) (hx : l.getD k 0 = x) (hxb : 0 ≤ x ∧ x ≤ 65535) (hyb : 0 ≤ y ∧ y ≤ 65535)
    (c1 : ∀ W A cc, Row W W.heap.size A n (ints16 (l.set k 0)) → Calls Tryd.prog 7 #[.slice A n cc] W (Ret (.string s1) W))
    (c2 : ∀ W, Calls Tryd.prog 6 #[.string s1] W (Ret (.bool rest) W))
    (c3 : ∀ W A cc, Row W W.heap.size A n (ints16 l) → Calls Tryd.prog 7 #[.slice A n cc] W (Ret (.string s2) W))
    (c4 : ∀ W A cc, Row W W.heap.size A n (ints16 (l.set k y)) → Calls Tryd.prog 7 #[.slice A n cc] W (Ret (.string s3) W))
    (c5 : ∀ (W : World), Calls Tryd.prog 8 #[.slice (some ⟨W.heap.size, 0, none⟩) 1 1] (W.alloc (.cells #[.string s2] 9)) (Ret (.int .u16 m1) (W.alloc (.cells #[.string s2] 9))))
    (c6 : ∀ (W : World), Calls Tryd.prog 8 #[.slice (some ⟨W.heap.size, 0, none⟩) 1 1] (W.alloc (.cells #[.string s3] 9)) (Ret (.int .u16 m2) (W.alloc (.cells #[.string s3] 9))))
    (h1 : x ≠ y) (h2 : x % 65535 = y % 65535) (h3 : rest = true) (hm : (m1 == m2) = false) :
    Calls Tryd.prog 3 #[.slice (some ⟨bk, o, none⟩) n c, .int .u8 at_, .int .u16 y] w (Ret (.bool true) w) := by
  have hcell : ∀ W : World, Below w.heap.size w W → W.cell? ⟨bk, o + k, none⟩ = some (.int .u16 x) := by
    intro W hW
    have hr2 := hr.below hW
    obtain ⟨b', o', he, hb, hcs⟩ := hr2.2 hn0
    injection he with he
    injection he with e1 e2 e3
    subst e1; subst e2
    rw [hcs k _ (ints16_at (by omega)), hx]
  have hnews : ∀ (j : Nat) u, (ints16 l)[j]? = some u → w.cell? ⟨bk, o + j, none⟩ = some u := by
    intro j u hu
    obtain ⟨b', o', he, hb, hcs⟩ := hr.2 hn0
    injection he with he
    injection he with e1 e2 e3
    subst e1; subst e2
    exact hcs j u hu
  obtain ⟨a0, a1⟩ := ha
  have i1 : (k : Int) < (n : Int) := by omega
  have i2 : ¬ 200 < (n : Int) := by omega
  have i3 : ((n : Int) == 0) = false := by simp; omega
  have q1 : (x == y) = false := by simpa using h1
  have q2 : (x % 65535 == y % 65535) = true := by simpa using h2
  clear h1 h2
  subst h3
  have C1 := hide c1; have C2 := hide c2; have C3 := hide c3; have C4 := hide c4; have C5 := hide c5; have C6 := hide c6; have HR := hide hr; have HC := hide hcell; have HN := hide hnews; have HL := hide hn; have HX := hide hx
  clear c1 c2 c3 c4 c5 c6 hr hcell hnews hx
  have info16 : (Tryd.prog.info? 23).map (fun i => (i.zero, i.size, i.bytes)) = some (some (.int .u16 0), 1, 2) := by kernel_rfl
  obtain ⟨i0, hi, hz0, hz1, hz2⟩ := info_parts info16
  go_enter Tryd.func3, Tryd.ntmps3
  go_wp2_with (at_builtin; refine wpList_append_own _ rfl _ _ 22 rfl w.heap.size 23 i0 (.int .u16 0) 1 2 Tryd.underlying22 hi hz0 hz1 hz2 rfl (by decide) _ 0 [] rfl ⟨rfl, .inl ⟨rfl, rfl⟩⟩ ⟨bk, o, none⟩ n c (ints16 l) rfl ?c0 ?c1 ?c2 ?c3 ?c4 ?c5 ?_)
  case c0 => simp [ints16, HL.out]
  case c1 => exact HN.out
  case c2 =>
    intro u hu
    unfold ints16 at hu
    obtain ⟨z, _, rfl⟩ := List.mem_map.1 hu
    rfl
  case c3 => unfold maxLen; omega
  case c4 => omega
  intro v' w1 hown hgrow _
  obtain ⟨g, cap, rfl⟩ := owns_at hown hn0
  obtain ⟨hg, hN, -⟩ := Nums.of_owns hown
  have b1 : Below w.heap.size w w1 := (Below.refl _ _).grown hgrow (Nat.le_refl _) (fun k hk => by simp [Value.ownBlock] at hk)
  clear hown hgrow
  have hkl : k < l.length := by omega
  have x0 := hN.at_ hkl
  have y0 := hN.free k
  have hN2 := hN.set_ hkl 0
  have b2 : Below w.heap.size w (w1.setCell ⟨g, k, none⟩ (.int .u16 0)) := b1.setCell (p := ⟨g, k, none⟩) hg _
  have H2 := hide hN2; have B2 := hide b2
  clear hN hN2 b1 b2
  go_wp2_with fail
  generalize w1.setCell ⟨g, k, none⟩ (.int .u16 0) = w2 at *
  clear x0 y0
  have hN2 := H2.out; have b2 := B2.out
  clear H2 B2
  have hl2 : (l.set k 0).length = n := by rw [List.length_set]; exact HL.out
  have row2 := hN2.row
  rw [hl2] at row2
  (with_reducible refine (C1.out _ _ _ row2).mono ?_)
  rintro e w3 ⟨rfl, b3⟩
  have hN3 := hN2.below b3
  replace b3 : Below w.heap.size w w3 := bstep b2 b3
  clear hN2 row2 b2
  go_wp2_with fail
  (with_reducible refine (C2.out _).mono ?_)
  rintro e w4 ⟨rfl, b4⟩
  have hN4 := hN3.below b4
  replace b4 : Below w.heap.size w w4 := bstep b3 b4
  clear hN3 b3
  have hk2 : k < (l.set k 0).length := by omega
  have x4 := hN4.at_ hk2
  have y4 := hN4.free k
  have hN5 := hN4.set_ hk2 y
  rw [List.set_set] at hN5
  have b5 : Below w.heap.size w (w4.setCell ⟨g, k, none⟩ (.int .u16 y)) := b4.setCell (p := ⟨g, k, none⟩) hg _
  have x5 := HC.out _ b5
  have row5 := HR.out.step (Below.refl _ _) b5
  have H5 := hide hN5; have B5 := hide b5; have R5 := hide row5
  clear hN4 hN5 b4 b5 row5
  go_wp2_with fail
  generalize w4.setCell ⟨g, k, none⟩ (.int .u16 y) = w5 at *
  clear x4 y4 x5
  have hN5 := H5.out; have b5 := B5.out
  have row5 : Row w5 w5.heap.size (some ⟨bk, o, none⟩) n (ints16 l) := R5.out.more b5.size
  clear H5 B5 R5
  (with_reducible refine (C3.out _ _ _ row5).mono ?_)
  rintro e w6 ⟨rfl, b6⟩
  have hN6 := hN5.below b6
  replace b6 : Below w.heap.size w w6 := bstep b5 b6
  clear hN5 row5 b5
  go_wp2_with fail
  (with_reducible refine (C5.out _).mono ?_)
  rintro e w7 ⟨rfl, b7⟩
  have hN7 := (hN6.below (fresh_below _ _)).below b7
  replace b7 : Below w.heap.size w w7 := bstep (bstep b6 (fresh_below _ _)) b7
  clear hN6 b6
  have hl7 : (l.set k y).length = n := by rw [List.length_set]; exact HL.out
  have row7 := hN7.row
  rw [hl7] at row7
  go_wp2_with fail
  (with_reducible refine (C4.out _ _ _ row7).mono ?_)
  rintro e w8 ⟨rfl, b8⟩
  replace b8 : Below w.heap.size w w8 := bstep b7 b8
  clear hN7 row7 b7
  go_wp2_with fail
  (with_reducible refine (C6.out _).mono ?_)
  rintro e w9 ⟨rfl, b9⟩
  replace b9 : Below w.heap.size w w9 := bstep (bstep b8 (fresh_below _ _)) b9
  clear b8
  go_wp2_with fail
  (with_reducible refine (summed _).mono ?_)
  rintro e w10 ⟨rfl, b10⟩
  replace b10 : Below w.heap.size w w10 := by (refine bstep ?_ b10); (repeat' (first | with_reducible exact b9 | with_reducible exact Below.refl _ _ | with_reducible refine Below.setCell ?_ (by first | exact Nat.le_refl _ | (dsimp only; omega)) _ | with_reducible refine bstep ?_ (fresh_below _ _) | with_reducible refine Below.drew ?_))
  have z10 : w.heap.size ≤ w10.heap.size := b10.size
  go_wp2_with fail
  go_ret
  exact ⟨rfl, (by (repeat' (first | with_reducible exact b10 | with_reducible exact Below.refl _ _ | with_reducible refine Below.setCell ?_ (by first | exact Nat.le_refl _ | (dsimp only; omega)) _ | with_reducible refine bstep ?_ (fresh_below _ _) | with_reducible refine Below.drew ?_)))⟩

set_option maxRecDepth 100000 in
set_option maxHeartbeats 4000000 in
theorem SumsSpoilt_d (bk o n c k : Nat) (l : List Int) (at_ y x : Int) (rest : Bool) (s1 s2 s3 : ByteArray) (m1 m2 : Int) (w : World)
    (hr : Row w w.heap.size (some ⟨bk, o, none⟩) n (ints16 l)) (hn : l.length = n) (hn0 : 0 < n) (hn2 : n ≤ 200) (ha : 0 ≤ at_ ∧ at_ ≤ 255) (hk : at_ % (n : Int) = k) (hkn : k < n) (hx : l.getD k 0 = x) (hxb : 0 ≤ x ∧ x ≤ 65535) (hyb : 0 ≤ y ∧ y ≤ 65535)
    (c1 : ∀ W A cc, Row W W.heap.size A n (ints16 (l.set k 0)) → Calls Tryd.prog 7 #[.slice A n cc] W (Ret (.string s1) W))
    (c2 : ∀ W, Calls Tryd.prog 6 #[.string s1] W (Ret (.bool rest) W))
    (c3 : ∀ W A cc, Row W W.heap.size A n (ints16 l) → Calls Tryd.prog 7 #[.slice A n cc] W (Ret (.string s2) W))
    (c4 : ∀ W A cc, Row W W.heap.size A n (ints16 (l.set k y)) → Calls Tryd.prog 7 #[.slice A n cc] W (Ret (.string s3) W))
    (c5 : ∀ (W : World), Calls Tryd.prog 8 #[.slice (some ⟨W.heap.size, 0, none⟩) 1 1] (W.alloc (.cells #[.string s2] 9)) (Ret (.int .u16 m1) (W.alloc (.cells #[.string s2] 9))))
    (c6 : ∀ (W : World), Calls Tryd.prog 8 #[.slice (some ⟨W.heap.size, 0, none⟩) 1 1] (W.alloc (.cells #[.string s3] 9)) (Ret (.int .u16 m2) (W.alloc (.cells #[.string s3] 9))))
    (h1 : x ≠ y) (h2 : x % 65535 ≠ y % 65535) (hm : (m1 == m2) = false) :
    Calls Tryd.prog 3 #[.slice (some ⟨bk, o, none⟩) n c, .int .u8 at_, .int .u16 y] w (Ret (.bool true) w) := by
  have hcell : ∀ W : World, Below w.heap.size w W → W.cell? ⟨bk, o + k, none⟩ = some (.int .u16 x) := by
    intro W hW
    have hr2 := hr.below hW
    obtain ⟨b', o', he, hb, hcs⟩ := hr2.2 hn0
    injection he with he
    injection he with e1 e2 e3
    subst e1; subst e2
    rw [hcs k _ (ints16_at (by omega)), hx]
  have hnews : ∀ (j : Nat) u, (ints16 l)[j]? = some u → w.cell? ⟨bk, o + j, none⟩ = some u := by
    intro j u hu
    obtain ⟨b', o', he, hb, hcs⟩ := hr.2 hn0
    injection he with he
    injection he with e1 e2 e3
    subst e1; subst e2
    exact hcs j u hu
  obtain ⟨a0, a1⟩ := ha
  have i1 : (k : Int) < (n : Int) := by omega
  have i2 : ¬ 200 < (n : Int) := by omega
  have i3 : ((n : Int) == 0) = false := by simp; omega
  have q1 : (x == y) = false := by simpa using h1
  have q2 : (x % 65535 == y % 65535) = false := by simpa using h2
  clear h1 h2
  have C1 := hide c1; have C2 := hide c2; have C3 := hide c3; have C4 := hide c4; have C5 := hide c5; have C6 := hide c6; have HR := hide hr; have HC := hide hcell; have HN := hide hnews; have HL := hide hn; have HX := hide hx
  clear c1 c2 c3 c4 c5 c6 hr hcell hnews hx
  have info16 : (Tryd.prog.info? 23).map (fun i => (i.zero, i.size, i.bytes)) = some (some (.int .u16 0), 1, 2) := by kernel_rfl
  obtain ⟨i0, hi, hz0, hz1, hz2⟩ := info_parts info16
  go_enter Tryd.func3, Tryd.ntmps3
  go_wp2_with (at_builtin; refine wpList_append_own _ rfl _ _ 22 rfl w.heap.size 23 i0 (.int .u16 0) 1 2 Tryd.underlying22 hi hz0 hz1 hz2 rfl (by decide) _ 0 [] rfl ⟨rfl, .inl ⟨rfl, rfl⟩⟩ ⟨bk, o, none⟩ n c (ints16 l) rfl ?c0 ?c1 ?c2 ?c3 ?c4 ?c5 ?_)
  case c0 => simp [ints16, HL.out]
  case c1 => exact HN.out
  case c2 =>
    intro u hu
    unfold ints16 at hu
    obtain ⟨z, _, rfl⟩ := List.mem_map.1 hu
    rfl
  case c3 => unfold maxLen; omega
  case c4 => omega
  intro v' w1 hown hgrow _
  obtain ⟨g, cap, rfl⟩ := owns_at hown hn0
  obtain ⟨hg, hN, -⟩ := Nums.of_owns hown
  have b1 : Below w.heap.size w w1 := (Below.refl _ _).grown hgrow (Nat.le_refl _) (fun k hk => by simp [Value.ownBlock] at hk)
  clear hown hgrow
  have hkl : k < l.length := by omega
  have x0 := hN.at_ hkl
  have y0 := hN.free k
  have hN2 := hN.set_ hkl 0
  have b2 : Below w.heap.size w (w1.setCell ⟨g, k, none⟩ (.int .u16 0)) := b1.setCell (p := ⟨g, k, none⟩) hg _
  have H2 := hide hN2; have B2 := hide b2
  clear hN hN2 b1 b2
  go_wp2_with fail
  generalize w1.setCell ⟨g, k, none⟩ (.int .u16 0) = w2 at *
  clear x0 y0
  have hN2 := H2.out; have b2 := B2.out
  clear H2 B2
  have hl2 : (l.set k 0).length = n := by rw [List.length_set]; exact HL.out
  have row2 := hN2.row
  rw [hl2] at row2
  (with_reducible refine (C1.out _ _ _ row2).mono ?_)
  rintro e w3 ⟨rfl, b3⟩
  have hN3 := hN2.below b3
  replace b3 : Below w.heap.size w w3 := bstep b2 b3
  clear hN2 row2 b2
  go_wp2_with fail
  (with_reducible refine (C2.out _).mono ?_)
  rintro e w4 ⟨rfl, b4⟩
  have hN4 := hN3.below b4
  replace b4 : Below w.heap.size w w4 := bstep b3 b4
  clear hN3 b3
  have hk2 : k < (l.set k 0).length := by omega
  have x4 := hN4.at_ hk2
  have y4 := hN4.free k
  have hN5 := hN4.set_ hk2 y
  rw [List.set_set] at hN5
  have b5 : Below w.heap.size w (w4.setCell ⟨g, k, none⟩ (.int .u16 y)) := b4.setCell (p := ⟨g, k, none⟩) hg _
  have x5 := HC.out _ b5
  have row5 := HR.out.step (Below.refl _ _) b5
  have H5 := hide hN5; have B5 := hide b5; have R5 := hide row5
  clear hN4 hN5 b4 b5 row5
  go_wp2_with fail
  generalize w4.setCell ⟨g, k, none⟩ (.int .u16 y) = w5 at *
  clear x4 y4 x5
  have hN5 := H5.out; have b5 := B5.out
  have row5 : Row w5 w5.heap.size (some ⟨bk, o, none⟩) n (ints16 l) := R5.out.more b5.size
  clear H5 B5 R5
  (with_reducible refine (C3.out _ _ _ row5).mono ?_)
  rintro e w6 ⟨rfl, b6⟩
  have hN6 := hN5.below b6
  replace b6 : Below w.heap.size w w6 := bstep b5 b6
  clear hN5 row5 b5
  go_wp2_with fail
  (with_reducible refine (C5.out _).mono ?_)
  rintro e w7 ⟨rfl, b7⟩
  have hN7 := (hN6.below (fresh_below _ _)).below b7
  replace b7 : Below w.heap.size w w7 := bstep (bstep b6 (fresh_below _ _)) b7
  clear hN6 b6
  have hl7 : (l.set k y).length = n := by rw [List.length_set]; exact HL.out
  have row7 := hN7.row
  rw [hl7] at row7
  go_wp2_with fail
  (with_reducible refine (C4.out _ _ _ row7).mono ?_)
  rintro e w8 ⟨rfl, b8⟩
  replace b8 : Below w.heap.size w w8 := bstep b7 b8
  clear hN7 row7 b7
  go_wp2_with fail
  (with_reducible refine (C6.out _).mono ?_)
  rintro e w9 ⟨rfl, b9⟩
  replace b9 : Below w.heap.size w w9 := bstep (bstep b8 (fresh_below _ _)) b9
  clear b8
  go_wp2_with fail
  (with_reducible refine (summed _).mono ?_)
  rintro e w10 ⟨rfl, b10⟩
  replace b10 : Below w.heap.size w w10 := by (refine bstep ?_ b10); (repeat' (first | with_reducible exact b9 | with_reducible exact Below.refl _ _ | with_reducible refine Below.setCell ?_ (by first | exact Nat.le_refl _ | (dsimp only; omega)) _ | with_reducible refine bstep ?_ (fresh_below _ _) | with_reducible refine Below.drew ?_))
  have z10 : w.heap.size ≤ w10.heap.size := b10.size
  go_wp2_with fail
  go_ret
  exact ⟨rfl, (by (repeat' (first | with_reducible exact b10 | with_reducible exact Below.refl _ _ | with_reducible refine Below.setCell ?_ (by first | exact Nat.le_refl _ | (dsimp only; omega)) _ | with_reducible refine bstep ?_ (fresh_below _ _) | with_reducible refine Below.drew ?_)))⟩

end Go.Proofs.YtcghhnehmddoeaaDoor
