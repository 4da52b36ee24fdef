/- SumsHold walked: it returns true and leaves what lay there as it lay. -/
import Derived.Test.YtcghhnehmddoeaaDoorNumsH
import Derived.Deep.RegionHeldLaw
import Derived.Deep.RegionHeld3
set_option linter.unusedVariables false
set_option linter.unusedSimpArgs false
namespace Go.Proofs.YtcghhnehmddoeaaDoor
open Go.RowKit
attribute [local go_sem] Oper.semAt_some

theorem Row.up {X Y : World} {A : Option Addr} {n : Nat} {l : List Value} (r : Row X X.heap.size A n l) (b : Below X.heap.size X Y) : Row Y Y.heap.size A n l := (r.below b).more b.size
theorem Row.drawn {X : World} {A : Option Addr} {n : Nat} {l : List Value} (r : Row X X.heap.size A n l) : Row X.drew X.drew.heap.size A n l := r

set_option maxRecDepth 100000 in
set_option maxHeartbeats 8000000 in
theorem SumsHold_A (bk o n c n2 c2 k f : Nat) (A2 : Option Addr) (l m : List Int) (a0 a1 : Int) (s1 s2 s3 s4 : ByteArray) (v : Int) (hs ht : Bool) (w : World)
    (hr : Row w w.heap.size (some ⟨bk, o, none⟩) n (ints16 l)) (hr2 : Row w w.heap.size A2 n2 (ints16 m)) (hn : l.length = n) (hm : m.length = n2) (hn0 : 0 < n) (hn1 : n ≤ 100) (hnn : n2 ≤ n)
    (hl : ∀ x ∈ l, 0 ≤ x ∧ x ≤ 65535) (hml : ∀ x ∈ m, 0 ≤ x ∧ x ≤ 65535) (ha0 : 0 ≤ a0 ∧ a0 ≤ 255) (ha1 : 0 ≤ a1 ∧ a1 ≤ 255) (hk : a0 % (n : Int) = k) (hkn : k < n) (hf : a1 % ((n : Int) - (n2 : Int) + 1) = f) (hfn : f + n2 ≤ n)
    (hz1 : s1.size = 2 * n)
    (c1 : ∀ W A cc, Row W W.heap.size A n (ints16 l) → Calls Tryd.prog 7 #[.slice A n cc] W (Ret (.string s1) W))
    (c2' : ∀ W A cc, Row W W.heap.size A n (ints16 ((holdSt l m f k n2).2.set k (holdSt l m f k n2).1)) → Calls Tryd.prog 7 #[.slice A n cc] W (Ret (.string s2) W))
    (c3 : ∀ W A cc, Row W W.heap.size A n (ints16 ((holdSt l m f k n2).2.set k 0)) → Calls Tryd.prog 7 #[.slice A n cc] W (Ret (.string s3) W))
    (c4 : ∀ (W : World), Calls Tryd.prog 8 #[.slice (some ⟨W.heap.size, 0, none⟩) 1 1] (W.alloc (.cells #[.string s3] 9)) (Ret (.int .u16 v) (W.alloc (.cells #[.string s3] 9))))
    (c5 : ∀ W A cc, Row W W.heap.size A n (ints16 ((holdSt l m f k n2).2.set k v)) → Calls Tryd.prog 7 #[.slice A n cc] W (Ret (.string s4) W))
    (c6 : ∀ (W : World), Calls Tryd.prog 10 #[.slice (some ⟨W.heap.size, 0, none⟩) 1 1] (W.alloc (.cells #[.string s4] 9)) (Ret (.bool true) (W.alloc (.cells #[.string s4] 9))))
    (e1 : ∀ W, Calls Tryd.prog 6 #[.string s1] W (Ret (.bool hs) W))
    (e2 : ∀ W, Calls Tryd.prog 6 #[.string s2] W (Ret (.bool ht) W))
    (h1 : hs = true) :
    Calls Tryd.prog 4 #[.slice (some ⟨bk, o, none⟩) n c, .slice A2 n2 c2, .agg #[.int .u8 a0, .int .u8 a1]] w (Ret (.bool true) w) := by
  have hcell : ∀ (W : World) (i : Nat), i < n → Below w.heap.size w W → W.cell? ⟨bk, o + i, none⟩ = some (.int .u16 (l.getD i 0)) := by
    intro W i hi hW
    obtain ⟨b', o', he, hb, hcs⟩ := (hr.below hW).2 hn0
    injection he with he
    injection he with e1 e2 e3
    subst e1; subst e2
    exact hcs i _ (ints16_at (by omega))
  have hrow : ∀ W : World, Below w.heap.size w W → Row W W.heap.size (some ⟨bk, o, none⟩) n (ints16 l) := fun W hW => (hr.below hW).more hW.size
  have hst := fun j hj => holdSt_ok hl hml (show f + m.length ≤ l.length by omega) (show k < l.length by omega) j hj
  have hw1 : ∀ (x : Int), 0 ≤ x ∧ x ≤ 65535 → ∀ (W : World) (A : Option Addr), Row W W.heap.size A 1 (ints16 [x]) → Calls Tryd.prog 7 #[.slice A 1 1] W (Ret (.string (S (putW [x]))) W) :=
    fun x hx W A hR => Word A 1 1 [x] W hR (by intro z hz; simp at hz; subst hz; exact hx) (by omega)
  have hup : ∀ (s x y : Int), 0 ≤ s ∧ s ≤ 65535 → 0 ≤ x ∧ x ≤ 65535 → 0 ≤ y ∧ y ≤ 65535 → ∀ W, Calls Tryd.prog 9 #[.int .u16 s, .string (S (putW [x])), .string (S (putW [y]))] W (Ret (.int .u16 (upd s x y)) W) := by
    intro s x y h1 h2 h3 W
    have := Updates s (S (putW [x])) (S (putW [y])) W h1 (by rw [S_size, putW_length]; simp) (by rw [S_size, putW_length]; simp)
    rwa [updates_one h2 h3] at this
  have hx0 := hl _ (getD_mem (show k < l.length by omega))
  obtain ⟨a00, a01⟩ := ha0
  obtain ⟨a10, a11⟩ := ha1
  have i1 : (k : Int) < (n : Int) := by omega
  have i2 : ¬ 100 < (n : Int) := by omega
  have i3 : ((n : Int) == 0) = false := by simp; omega
  have i4 : ¬ (n : Int) < (n2 : Int) := by omega
  have HC := hide hcell; have HRW := hide hrow; have HST := hide hst; have HW1 := hide hw1; have HUP := hide hup; have HR2 := hide hr2; have HL := hide hn; have HM := hide hm; have HLB := hide hl; have HMB := hide hml
  have C1 := hide c1; have C2 := hide c2'; have C3 := hide c3; have C4 := hide c4; have C5 := hide c5; have C6 := hide c6; have E1 := hide e1; have E2 := hide e2; have HR := hide hr
  clear hcell hrow hst hw1 hup hr2 hm hl hml c1 c2' c3 c4 c5 c6 e1 e2 hr
  have info16 : (Tryd.prog.info? 23).map (fun i => (i.zero, i.size, i.bytes)) = some (some (.int .u16 0), 1, 2) := by kernel_rfl
  obtain ⟨i0, hi, hzz0, hzz1, hzz2⟩ := info_parts info16
  go_enter Tryd.func4, Tryd.ntmps4
  have d0 := Cells.new w #[.int .u8 a0, .int .u8 a1] 29
  have xd0_0 : ((w.alloc (.cells #[.int .u8 a0, .int .u8 a1] 29))).cell? ⟨w.heap.size, 0, none⟩ = some (.int .u8 a0) := d0.at_ 0
  have xd0_1 : ((w.alloc (.cells #[.int .u8 a0, .int .u8 a1] 29))).cell? ⟨w.heap.size, 1, none⟩ = some (.int .u8 a1) := d0.at_ 1
  have yd0_0 : ((w.alloc (.cells #[.int .u8 a0, .int .u8 a1] 29))).frozen? ⟨w.heap.size, 0, none⟩ = false := d0.free 0
  have yd0_1 : ((w.alloc (.cells #[.int .u8 a0, .int .u8 a1] 29))).frozen? ⟨w.heap.size, 1, none⟩ = false := d0.free 1
  have b0 : Below w.heap.size w (w.alloc (.cells #[.int .u8 a0, .int .u8 a1] 29)) := fresh_below _ _
  have hnews : ∀ (j : Nat) u, (ints16 l)[j]? = some u → (w.alloc (.cells #[.int .u8 a0, .int .u8 a1] 29)).cell? ⟨bk, o + j, none⟩ = some u := by
    intro j u hu
    obtain ⟨b', o', he, hb, hcs⟩ := (HRW.out _ b0).2 hn0
    injection he with he
    injection he with e1 e2 e3
    subst e1; subst e2
    exact hcs j u hu
  have HN := hide hnews
  have xk := HC.out _ k hkn b0
  clear hnews
  go_wp2_with (at_builtin; refine wpList_append_own _ rfl _ _ 22 rfl w.heap.size 23 i0 (.int .u16 0) 1 2 Tryd.underlying22 hi hzz0 hzz1 hzz2 rfl (by decide) _ 0 [] rfl ⟨rfl, .inl ⟨rfl, rfl⟩⟩ ⟨bk, o, none⟩ n c (ints16 l) rfl ?q0 ?q1 ?q2 ?q3 ?q4 ?q5 ?_)
  case q0 => simp [ints16, HL.out]
  case q1 => exact HN.out
  case q2 =>
    intro u hu
    unfold ints16 at hu
    obtain ⟨z, _, rfl⟩ := List.mem_map.1 hu
    rfl
  case q3 => unfold maxLen; omega
  case q4 => omega
  intro v' w1 hown hgrow _
  obtain ⟨g, cap, rfl⟩ := owns_at hown hn0
  obtain ⟨hg, hN, -⟩ := Nums.of_owns hown
  have b1 : Below w.heap.size w w1 := b0.grown hgrow (by simp) (fun k hk => by simp [Value.ownBlock] at hk)
  clear hown hgrow xk d0 xd0_0 xd0_1 yd0_0 yd0_1 b0 HN
  obtain ⟨q0, hq0⟩ : ∃ q, q = (holdSt l m f k 0).1 := ⟨_, rfl⟩
  have xk : w1.cell? ⟨bk, o + k, none⟩ = some (.int .u16 q0) := by rw [hq0]; exact HC.out _ k hkn b1
  have HQ := hide hq0
  clear hq0
  go_wp2_with fail
  go_loopw [10, 11] (fun s i wr => ∃ j : Nat, j ≤ n2 ∧ i = .int .i64 j ∧ s = .int .u16 (holdSt l m f k j).1 ∧ Nums wr g (holdSt l m f k j).2 ∧ Below w.heap.size w wr) (fun _ i _ => n2 - (intOf i).toNat)
  case atStart => exact ⟨0, Nat.zero_le _, rfl, v_int HQ.out, hN, b1⟩
  case round =>
    clear xk hN b1
    obtain ⟨j, hj, rfl, rfl, hN, hbel⟩ := hrel
    obtain ⟨hs1, hs2, hs3, hs4, hs5⟩ := HST.out j (by rw [HM.out]; exact hj)
    by_cases hlt : j < n2
    · have j1 : (j : Int) < (n2 : Int) := by omega
      obtain ⟨b2, o2, rfl, hbo2, hc2⟩ := HR2.out.2 (by omega)
      have hcy : wr.cell? ⟨b2, o2 + j, none⟩ = some (.int .u16 (m.getD j 0)) := by
        rw [hbel.cell (p := ⟨b2, o2 + j, none⟩) hbo2]
        exact hc2 j _ (ints16_at (by rw [HM.out]; exact hlt))
      have hcx := HC.out wr (f + j) (by omega) hbel
      have hxb := HLB.out _ (getD_mem (show f + j < l.length by rw [HL.out]; omega))
      have hyb := HMB.out _ (getD_mem (show j < m.length by rw [HM.out]; exact hlt))
      have hNl : f + j < (holdSt l m f k j).2.length := by rw [hs2, HL.out]; omega
      have hst1 : holdSt l m f k (j + 1) = if f + j = k then holdSt l m f k j else (upd (holdSt l m f k j).1 (l.getD (f + j) 0) (m.getD j 0), (holdSt l m f k j).2.set (f + j) (m.getD j 0)) := rfl
      obtain ⟨x, hx⟩ : ∃ x, x = l.getD (f + j) 0 := ⟨_, rfl⟩
      obtain ⟨y, hy⟩ : ∃ y, y = m.getD j 0 := ⟨_, rfl⟩
      rw [← hx, ← hy] at hst1
      rw [← hx] at hcx hxb
      rw [← hy] at hcy hyb
      by_cases he : f + j = k
      · rw [if_pos he] at hst1
        have e5 : ((f : Int) + (j : Int) != (k : Int)) = false := by simp; omega
        have e6 : ((f : Int) + (j : Int) == (k : Int)) = true := by simp; omega
        have HE := hide hst1
        clear hst1 hcx hcy hx hy hs2 hs3 hs4 hs5 hNl
        go_wp2_with fail
        go_roundw
        case rel => exact ⟨j + 1, by omega, by go_num, v_int (by rw [HE.out]), by rw [HE.out]; exact hN, hbel⟩
        case measure => simp [intOf]; omega
      · rw [if_neg he] at hst1
        have e5 : ((f : Int) + (j : Int) != (k : Int)) = true := by simp; omega
        have e6 : ((f : Int) + (j : Int) == (k : Int)) = false := by simp; omega
        have F1 := hide (HW1.out x hxb); have F2 := hide (HW1.out y hyb)
        have f3 := HUP.out (holdSt l m f k j).1 x y hs1 hxb hyb
        obtain ⟨s, hs⟩ : ∃ s, s = (holdSt l m f k j).1 := ⟨_, rfl⟩
        obtain ⟨N, hNN⟩ : ∃ N, N = (holdSt l m f k j).2 := ⟨_, rfl⟩
        rw [← hs] at f3 hst1 hs1 ⊢
        rw [← hNN] at hst1 hN hNl
        obtain ⟨u, hu⟩ : ∃ u, u = upd s x y := ⟨_, rfl⟩
        rw [← hu] at f3 hst1
        obtain ⟨sx, hsx⟩ : ∃ q, q = S (putW [x]) := ⟨_, rfl⟩
        obtain ⟨sy, hsy⟩ : ∃ q, q = S (putW [y]) := ⟨_, rfl⟩
        rw [← hsx] at F1 f3; rw [← hsy] at F2 f3
        have F3 := hide f3
        have HE := hide hst1
        have HNl := hide hNl
        clear hst1 f3 hx hy hs2 hs3 hs4 hs5 hs hNN hu hsx hsy hNl hs1
        have k1 : (f : Int) + (j : Int) < (n : Int) := by omega
        have k0 : (0 : Int) ≤ (f : Int) + (j : Int) := by omega
        have kw : IntKind.i64.wrap ((f : Int) + (j : Int)) = (f : Int) + (j : Int) := IntWalk.i64_in _ (by omega)
        have k3 : ((f : Int) + (j : Int)).toNat = f + j := by omega
        go_wp2_with fail
        have SK := hide (fun (zX zY : World) (zh : (Below w.heap.size w zX ∧ World.cell? zX ⟨bk, o + (f + j), none⟩ = some (.int .u16 x) ∧ World.cell? zX ⟨b2, o2 + j, none⟩ = some (.int .u16 y) ∧ Nums zX g N ∧ True)) (zb : Below zX.heap.size zX zY) => (show (Below w.heap.size w zY ∧ World.cell? zY ⟨bk, o + (f + j), none⟩ = some (.int .u16 x) ∧ World.cell? zY ⟨b2, o2 + j, none⟩ = some (.int .u16 y) ∧ Nums zY g N ∧ True) from ⟨bstep zh.1 zb, cellAt zb zh.2.1, cellAt zb zh.2.2.1, zh.2.2.2.1.below zb, trivial⟩))
        have hS0 : (Below w.heap.size w wr ∧ World.cell? wr ⟨bk, o + (f + j), none⟩ = some (.int .u16 x) ∧ World.cell? wr ⟨b2, o2 + j, none⟩ = some (.int .u16 y) ∧ Nums wr g N ∧ True) := ⟨hbel, hcx, hcy, hN, trivial⟩
        go_region_held_law (fun w' => (Below w.heap.size w w' ∧ World.cell? w' ⟨bk, o + (f + j), none⟩ = some (.int .u16 x) ∧ World.cell? w' ⟨b2, o2 + j, none⟩ = some (.int .u16 y) ∧ Nums w' g N ∧ True)) (first | assumption | exact SK.out _ _ hS0 (Below.refl _ _).drew | exact SK.out _ _ hS0 (fresh_below _ _).drew | exact SK.out _ _ (by assumption) (fresh_below _ _) | (refine SK.out _ _ ?_ (by assumption); assumption))
          (first | (go_at_call 7; (with_reducible refine Calls.mono (F1.out _ _ ?_) ?_); (focus ((repeat' (first | with_reducible refine Row.drawn ?_ | with_reducible exact Row.freshAt _ _ _ _ _ _ (by first | (simp; done) | fail) rfl rfl | (with_reducible refine Row.up ?_ (fresh_below _ _)) | (with_reducible refine Row.up ?_ (by with_reducible assumption)))); (first | done | fail))); rintro e wq ⟨rfl, bq⟩) | (go_at_call 7; (with_reducible refine Calls.mono (F2.out _ _ ?_) ?_); (focus ((repeat' (first | with_reducible refine Row.drawn ?_ | with_reducible exact Row.freshAt _ _ _ _ _ _ (by first | (simp; done) | fail) rfl rfl | (with_reducible refine Row.up ?_ (fresh_below _ _)) | (with_reducible refine Row.up ?_ (by with_reducible assumption)))); (first | done | fail))); rintro e wq ⟨rfl, bq⟩) | (go_at_call 9; (with_reducible refine (F3.out _).mono ?_); rintro e wz ⟨rfl, bz⟩))
        all_goals
          have gs : (Below w.heap.size w wz ∧ World.cell? wz ⟨bk, o + (f + j), none⟩ = some (.int .u16 x) ∧ World.cell? wz ⟨b2, o2 + j, none⟩ = some (.int .u16 y) ∧ Nums wz g N ∧ True) := by assumption
          obtain ⟨gb, g1, g2, g3, _⟩ := gs
          have x0 := g3.at_ HNl.out
          have y0 := g3.free (f + j)
          have hN5 := g3.set_ HNl.out y
          have b5 : Below w.heap.size w (wz.setCell ⟨g, f + j, none⟩ (.int .u16 y)) := gb.setCell (p := ⟨g, f + j, none⟩) hg _
          have H5 := hide hN5; have B5 := hide b5
          clear hN5 b5 g3 gb g1
          go_wp2_with fail
          go_roundw
          case rel => exact ⟨j + 1, by omega, by go_num, v_int (by rw [HE.out]), by rw [HE.out]; exact H5.out, B5.out⟩
          case measure => simp [intOf]; omega
    · obtain rfl : j = n2 := by omega
      have j1 : ¬ (j : Int) < (j : Int) := by omega
      have hkl : k < (holdSt l m f k j).2.length := by rw [hs2, HL.out]; exact hkn
      have hNL : ∀ q : Int, ((holdSt l m f k j).2.set k q).length = n := fun q => by rw [List.length_set, hs2, HL.out]
      obtain ⟨s, hs⟩ : ∃ s, s = (holdSt l m f k j).1 := ⟨_, rfl⟩
      obtain ⟨N, hNN⟩ : ∃ N, N = (holdSt l m f k j).2 := ⟨_, rfl⟩
      rw [← hs] at C2 ⊢
      rw [← hNN] at hN hkl hNL C2 C3 C5
      have HNL := hide hNL; have HKL := hide hkl
      have x0 := hN.at_ hkl
      have y0 := hN.free k
      have hN5 := hN.set_ hkl s
      have b5 : Below w.heap.size w (wr.setCell ⟨g, k, none⟩ (.int .u16 s)) := hbel.setCell (p := ⟨g, k, none⟩) hg _
      have H5 := hide hN5; have B5 := hide b5
      clear hN hN5 b5 hbel hs1 hs2 hs3 hs4 hs5 hs hNN hNL hkl
      go_wp2_with fail
      generalize wr.setCell ⟨g, k, none⟩ (.int .u16 s) = w5 at *
      clear x0 y0
      have row5 := HRW.out _ B5.out
      (with_reducible refine (C1.out _ _ _ row5).mono ?_)
      rintro e w6 ⟨rfl, b6⟩
      have hN6 := H5.out.below b6
      replace b6 : Below w.heap.size w w6 := bstep B5.out b6
      have row6 := hN6.row
      rw [HNL.out] at row6
      clear row5 H5 B5
      go_wp2_with fail
      (with_reducible refine (C2.out _ _ _ row6).mono ?_)
      rintro e w7 ⟨rfl, b7⟩
      have hN7 := hN6.below b7
      replace b7 : Below w.heap.size w w7 := bstep b6 b7
      clear hN6 row6 b6
      have h1' := h1
      subst h1'
      go_wp2_with fail
      (with_reducible refine (E1.out _).mono ?_)
      rintro e w8 ⟨rfl, b8⟩
      have hN8 := hN7.below b8
      replace b8 : Below w.heap.size w w8 := bstep b7 b8
      clear hN7 b7
      have hN9 := hN8
      have b9 := b8
      obtain ⟨w9, hw9⟩ : ∃ W, W = w8 := ⟨_, rfl⟩
      rw [← hw9] at hN9 b9 ⊢
      clear hN8 b8 hw9
      have hk9 : k < (N.set k s).length := by rw [HNL.out]; exact hkn
      have x9 := hN9.at_ hk9
      have y9 := hN9.free k
      have hNa := hN9.set_ hk9 0
      rw [List.set_set] at hNa
      have ba : Below w.heap.size w (w9.setCell ⟨g, k, none⟩ (.int .u16 0)) := b9.setCell (p := ⟨g, k, none⟩) hg _
      have HA := hide hNa; have BA := hide ba
      clear hN9 hNa ba b9
      go_wp2_with fail
      generalize w9.setCell ⟨g, k, none⟩ (.int .u16 0) = wA at *
      clear x9 y9
      have rowA := HA.out.row
      rw [HNL.out] at rowA
      (with_reducible refine (C3.out _ _ _ rowA).mono ?_)
      rintro e wB ⟨rfl, bB⟩
      have hNB := HA.out.below bB
      replace bB : Below w.heap.size w wB := bstep BA.out bB
      clear rowA HA BA
      go_wp2_with fail
      (with_reducible refine (C4.out _).mono ?_)
      rintro e wC ⟨rfl, bC⟩
      have hNC := (hNB.below (fresh_below _ _)).below bC
      replace bC : Below w.heap.size w wC := bstep (bstep bB (fresh_below _ _)) bC
      clear hNB bB
      have hkC : k < (N.set k 0).length := by rw [HNL.out]; exact hkn
      have xC := hNC.at_ hkC
      have yC := hNC.free k
      have hND := hNC.set_ hkC v
      rw [List.set_set] at hND
      have bD : Below w.heap.size w (wC.setCell ⟨g, k, none⟩ (.int .u16 v)) := bC.setCell (p := ⟨g, k, none⟩) hg _
      have HD := hide hND; have BD := hide bD
      clear hNC hND bC bD
      go_wp2_with fail
      generalize wC.setCell ⟨g, k, none⟩ (.int .u16 v) = wD at *
      clear xC yC
      have rowD := HD.out.row
      rw [HNL.out] at rowD
      (with_reducible refine (C5.out _ _ _ rowD).mono ?_)
      rintro e wE ⟨rfl, bE⟩
      replace bE : Below w.heap.size w wE := bstep BD.out bE
      clear rowD HD BD
      go_wp2_with fail
      (with_reducible refine (C6.out _).mono ?_)
      rintro e wF ⟨rfl, bF⟩
      replace bF : Below w.heap.size w wF := bstep (bstep bE (fresh_below _ _)) bF
      go_wp2_with fail
      (with_reducible refine (summed _).mono ?_)
      rintro e w30 ⟨rfl, b30⟩
      replace b30 : Below w.heap.size w w30 := by (refine bstep ?_ b30); (repeat' (first | with_reducible exact bF | with_reducible exact Below.refl _ _ | with_reducible refine Below.setCell ?_ (by first | exact Nat.le_refl _ | (dsimp only; omega)) _ | with_reducible refine bstep ?_ (fresh_below _ _) | with_reducible refine Below.drew ?_))
      have z30 : w.heap.size ≤ w30.heap.size := b30.size
      go_wp2_with fail
      go_ret
      exact ⟨rfl, (by (repeat' (first | with_reducible exact b30 | with_reducible exact Below.refl _ _ | with_reducible refine Below.setCell ?_ (by first | exact Nat.le_refl _ | (dsimp only; omega)) _ | with_reducible refine bstep ?_ (fresh_below _ _) | with_reducible refine Below.drew ?_)))⟩

set_option maxRecDepth 100000 in
set_option maxHeartbeats 8000000 in
theorem SumsHold_B (bk o n c n2 c2 k f : Nat) (A2 : Option Addr) (l m : List Int) (a0 a1 : Int) (s1 s2 s3 s4 : ByteArray) (v : Int) (hs ht : Bool) (w : World)
    (hr : Row w w.heap.size (some ⟨bk, o, none⟩) n (ints16 l)) (hr2 : Row w w.heap.size A2 n2 (ints16 m)) (hn : l.length = n) (hm : m.length = n2) (hn0 : 0 < n) (hn1 : n ≤ 100) (hnn : n2 ≤ n)
    (hl : ∀ x ∈ l, 0 ≤ x ∧ x ≤ 65535) (hml : ∀ x ∈ m, 0 ≤ x ∧ x ≤ 65535) (ha0 : 0 ≤ a0 ∧ a0 ≤ 255) (ha1 : 0 ≤ a1 ∧ a1 ≤ 255) (hk : a0 % (n : Int) = k) (hkn : k < n) (hf : a1 % ((n : Int) - (n2 : Int) + 1) = f) (hfn : f + n2 ≤ n)
    (hz1 : s1.size = 2 * n)
    (c1 : ∀ W A cc, Row W W.heap.size A n (ints16 l) → Calls Tryd.prog 7 #[.slice A n cc] W (Ret (.string s1) W))
    (c2' : ∀ W A cc, Row W W.heap.size A n (ints16 ((holdSt l m f k n2).2.set k (holdSt l m f k n2).1)) → Calls Tryd.prog 7 #[.slice A n cc] W (Ret (.string s2) W))
    (c3 : ∀ W A cc, Row W W.heap.size A n (ints16 ((holdSt l m f k n2).2.set k 0)) → Calls Tryd.prog 7 #[.slice A n cc] W (Ret (.string s3) W))
    (c4 : ∀ (W : World), Calls Tryd.prog 8 #[.slice (some ⟨W.heap.size, 0, none⟩) 1 1] (W.alloc (.cells #[.string s3] 9)) (Ret (.int .u16 v) (W.alloc (.cells #[.string s3] 9))))
    (c5 : ∀ W A cc, Row W W.heap.size A n (ints16 ((holdSt l m f k n2).2.set k v)) → Calls Tryd.prog 7 #[.slice A n cc] W (Ret (.string s4) W))
    (c6 : ∀ (W : World), Calls Tryd.prog 10 #[.slice (some ⟨W.heap.size, 0, none⟩) 1 1] (W.alloc (.cells #[.string s4] 9)) (Ret (.bool true) (W.alloc (.cells #[.string s4] 9))))
    (e1 : ∀ W, Calls Tryd.prog 6 #[.string s1] W (Ret (.bool hs) W))
    (e2 : ∀ W, Calls Tryd.prog 6 #[.string s2] W (Ret (.bool ht) W))
    (h1 : hs = false) (h2 : ht = true) :
    Calls Tryd.prog 4 #[.slice (some ⟨bk, o, none⟩) n c, .slice A2 n2 c2, .agg #[.int .u8 a0, .int .u8 a1]] w (Ret (.bool true) w) := by
  have hcell : ∀ (W : World) (i : Nat), i < n → Below w.heap.size w W → W.cell? ⟨bk, o + i, none⟩ = some (.int .u16 (l.getD i 0)) := by
    intro W i hi hW
    obtain ⟨b', o', he, hb, hcs⟩ := (hr.below hW).2 hn0
    injection he with he
    injection he with e1 e2 e3
    subst e1; subst e2
    exact hcs i _ (ints16_at (by omega))
  have hrow : ∀ W : World, Below w.heap.size w W → Row W W.heap.size (some ⟨bk, o, none⟩) n (ints16 l) := fun W hW => (hr.below hW).more hW.size
  have hst := fun j hj => holdSt_ok hl hml (show f + m.length ≤ l.length by omega) (show k < l.length by omega) j hj
  have hw1 : ∀ (x : Int), 0 ≤ x ∧ x ≤ 65535 → ∀ (W : World) (A : Option Addr), Row W W.heap.size A 1 (ints16 [x]) → Calls Tryd.prog 7 #[.slice A 1 1] W (Ret (.string (S (putW [x]))) W) :=
    fun x hx W A hR => Word A 1 1 [x] W hR (by intro z hz; simp at hz; subst hz; exact hx) (by omega)
  have hup : ∀ (s x y : Int), 0 ≤ s ∧ s ≤ 65535 → 0 ≤ x ∧ x ≤ 65535 → 0 ≤ y ∧ y ≤ 65535 → ∀ W, Calls Tryd.prog 9 #[.int .u16 s, .string (S (putW [x])), .string (S (putW [y]))] W (Ret (.int .u16 (upd s x y)) W) := by
    intro s x y h1 h2 h3 W
    have := Updates s (S (putW [x])) (S (putW [y])) W h1 (by rw [S_size, putW_length]; simp) (by rw [S_size, putW_length]; simp)
    rwa [updates_one h2 h3] at this
  have hx0 := hl _ (getD_mem (show k < l.length by omega))
  obtain ⟨a00, a01⟩ := ha0
  obtain ⟨a10, a11⟩ := ha1
  have i1 : (k : Int) < (n : Int) := by omega
  have i2 : ¬ 100 < (n : Int) := by omega
  have i3 : ((n : Int) == 0) = false := by simp; omega
  have i4 : ¬ (n : Int) < (n2 : Int) := by omega
  have HC := hide hcell; have HRW := hide hrow; have HST := hide hst; have HW1 := hide hw1; have HUP := hide hup; have HR2 := hide hr2; have HL := hide hn; have HM := hide hm; have HLB := hide hl; have HMB := hide hml
  have C1 := hide c1; have C2 := hide c2'; have C3 := hide c3; have C4 := hide c4; have C5 := hide c5; have C6 := hide c6; have E1 := hide e1; have E2 := hide e2; have HR := hide hr
  clear hcell hrow hst hw1 hup hr2 hm hl hml c1 c2' c3 c4 c5 c6 e1 e2 hr
  have info16 : (Tryd.prog.info? 23).map (fun i => (i.zero, i.size, i.bytes)) = some (some (.int .u16 0), 1, 2) := by kernel_rfl
  obtain ⟨i0, hi, hzz0, hzz1, hzz2⟩ := info_parts info16
  go_enter Tryd.func4, Tryd.ntmps4
  have d0 := Cells.new w #[.int .u8 a0, .int .u8 a1] 29
  have xd0_0 : ((w.alloc (.cells #[.int .u8 a0, .int .u8 a1] 29))).cell? ⟨w.heap.size, 0, none⟩ = some (.int .u8 a0) := d0.at_ 0
  have xd0_1 : ((w.alloc (.cells #[.int .u8 a0, .int .u8 a1] 29))).cell? ⟨w.heap.size, 1, none⟩ = some (.int .u8 a1) := d0.at_ 1
  have yd0_0 : ((w.alloc (.cells #[.int .u8 a0, .int .u8 a1] 29))).frozen? ⟨w.heap.size, 0, none⟩ = false := d0.free 0
  have yd0_1 : ((w.alloc (.cells #[.int .u8 a0, .int .u8 a1] 29))).frozen? ⟨w.heap.size, 1, none⟩ = false := d0.free 1
  have b0 : Below w.heap.size w (w.alloc (.cells #[.int .u8 a0, .int .u8 a1] 29)) := fresh_below _ _
  have hnews : ∀ (j : Nat) u, (ints16 l)[j]? = some u → (w.alloc (.cells #[.int .u8 a0, .int .u8 a1] 29)).cell? ⟨bk, o + j, none⟩ = some u := by
    intro j u hu
    obtain ⟨b', o', he, hb, hcs⟩ := (HRW.out _ b0).2 hn0
    injection he with he
    injection he with e1 e2 e3
    subst e1; subst e2
    exact hcs j u hu
  have HN := hide hnews
  have xk := HC.out _ k hkn b0
  clear hnews
  go_wp2_with (at_builtin; refine wpList_append_own _ rfl _ _ 22 rfl w.heap.size 23 i0 (.int .u16 0) 1 2 Tryd.underlying22 hi hzz0 hzz1 hzz2 rfl (by decide) _ 0 [] rfl ⟨rfl, .inl ⟨rfl, rfl⟩⟩ ⟨bk, o, none⟩ n c (ints16 l) rfl ?q0 ?q1 ?q2 ?q3 ?q4 ?q5 ?_)
  case q0 => simp [ints16, HL.out]
  case q1 => exact HN.out
  case q2 =>
    intro u hu
    unfold ints16 at hu
    obtain ⟨z, _, rfl⟩ := List.mem_map.1 hu
    rfl
  case q3 => unfold maxLen; omega
  case q4 => omega
  intro v' w1 hown hgrow _
  obtain ⟨g, cap, rfl⟩ := owns_at hown hn0
  obtain ⟨hg, hN, -⟩ := Nums.of_owns hown
  have b1 : Below w.heap.size w w1 := b0.grown hgrow (by simp) (fun k hk => by simp [Value.ownBlock] at hk)
  clear hown hgrow xk d0 xd0_0 xd0_1 yd0_0 yd0_1 b0 HN
  obtain ⟨q0, hq0⟩ : ∃ q, q = (holdSt l m f k 0).1 := ⟨_, rfl⟩
  have xk : w1.cell? ⟨bk, o + k, none⟩ = some (.int .u16 q0) := by rw [hq0]; exact HC.out _ k hkn b1
  have HQ := hide hq0
  clear hq0
  go_wp2_with fail
  go_loopw [10, 11] (fun s i wr => ∃ j : Nat, j ≤ n2 ∧ i = .int .i64 j ∧ s = .int .u16 (holdSt l m f k j).1 ∧ Nums wr g (holdSt l m f k j).2 ∧ Below w.heap.size w wr) (fun _ i _ => n2 - (intOf i).toNat)
  case atStart => exact ⟨0, Nat.zero_le _, rfl, v_int HQ.out, hN, b1⟩
  case round =>
    clear xk hN b1
    obtain ⟨j, hj, rfl, rfl, hN, hbel⟩ := hrel
    obtain ⟨hs1, hs2, hs3, hs4, hs5⟩ := HST.out j (by rw [HM.out]; exact hj)
    by_cases hlt : j < n2
    · have j1 : (j : Int) < (n2 : Int) := by omega
      obtain ⟨b2, o2, rfl, hbo2, hc2⟩ := HR2.out.2 (by omega)
      have hcy : wr.cell? ⟨b2, o2 + j, none⟩ = some (.int .u16 (m.getD j 0)) := by
        rw [hbel.cell (p := ⟨b2, o2 + j, none⟩) hbo2]
        exact hc2 j _ (ints16_at (by rw [HM.out]; exact hlt))
      have hcx := HC.out wr (f + j) (by omega) hbel
      have hxb := HLB.out _ (getD_mem (show f + j < l.length by rw [HL.out]; omega))
      have hyb := HMB.out _ (getD_mem (show j < m.length by rw [HM.out]; exact hlt))
      have hNl : f + j < (holdSt l m f k j).2.length := by rw [hs2, HL.out]; omega
      have hst1 : holdSt l m f k (j + 1) = if f + j = k then holdSt l m f k j else (upd (holdSt l m f k j).1 (l.getD (f + j) 0) (m.getD j 0), (holdSt l m f k j).2.set (f + j) (m.getD j 0)) := rfl
      obtain ⟨x, hx⟩ : ∃ x, x = l.getD (f + j) 0 := ⟨_, rfl⟩
      obtain ⟨y, hy⟩ : ∃ y, y = m.getD j 0 := ⟨_, rfl⟩
      rw [← hx, ← hy] at hst1
      rw [← hx] at hcx hxb
      rw [← hy] at hcy hyb
      by_cases he : f + j = k
      · rw [if_pos he] at hst1
        have e5 : ((f : Int) + (j : Int) != (k : Int)) = false := by simp; omega
        have e6 : ((f : Int) + (j : Int) == (k : Int)) = true := by simp; omega
        have HE := hide hst1
        clear hst1 hcx hcy hx hy hs2 hs3 hs4 hs5 hNl
        go_wp2_with fail
        go_roundw
        case rel => exact ⟨j + 1, by omega, by go_num, v_int (by rw [HE.out]), by rw [HE.out]; exact hN, hbel⟩
        case measure => simp [intOf]; omega
      · rw [if_neg he] at hst1
        have e5 : ((f : Int) + (j : Int) != (k : Int)) = true := by simp; omega
        have e6 : ((f : Int) + (j : Int) == (k : Int)) = false := by simp; omega
        have F1 := hide (HW1.out x hxb); have F2 := hide (HW1.out y hyb)
        have f3 := HUP.out (holdSt l m f k j).1 x y hs1 hxb hyb
        obtain ⟨s, hs⟩ : ∃ s, s = (holdSt l m f k j).1 := ⟨_, rfl⟩
        obtain ⟨N, hNN⟩ : ∃ N, N = (holdSt l m f k j).2 := ⟨_, rfl⟩
        rw [← hs] at f3 hst1 hs1 ⊢
        rw [← hNN] at hst1 hN hNl
        obtain ⟨u, hu⟩ : ∃ u, u = upd s x y := ⟨_, rfl⟩
        rw [← hu] at f3 hst1
        obtain ⟨sx, hsx⟩ : ∃ q, q = S (putW [x]) := ⟨_, rfl⟩
        obtain ⟨sy, hsy⟩ : ∃ q, q = S (putW [y]) := ⟨_, rfl⟩
        rw [← hsx] at F1 f3; rw [← hsy] at F2 f3
        have F3 := hide f3
        have HE := hide hst1
        have HNl := hide hNl
        clear hst1 f3 hx hy hs2 hs3 hs4 hs5 hs hNN hu hsx hsy hNl hs1
        have k1 : (f : Int) + (j : Int) < (n : Int) := by omega
        have k0 : (0 : Int) ≤ (f : Int) + (j : Int) := by omega
        have kw : IntKind.i64.wrap ((f : Int) + (j : Int)) = (f : Int) + (j : Int) := IntWalk.i64_in _ (by omega)
        have k3 : ((f : Int) + (j : Int)).toNat = f + j := by omega
        go_wp2_with fail
        have SK := hide (fun (zX zY : World) (zh : (Below w.heap.size w zX ∧ World.cell? zX ⟨bk, o + (f + j), none⟩ = some (.int .u16 x) ∧ World.cell? zX ⟨b2, o2 + j, none⟩ = some (.int .u16 y) ∧ Nums zX g N ∧ True)) (zb : Below zX.heap.size zX zY) => (show (Below w.heap.size w zY ∧ World.cell? zY ⟨bk, o + (f + j), none⟩ = some (.int .u16 x) ∧ World.cell? zY ⟨b2, o2 + j, none⟩ = some (.int .u16 y) ∧ Nums zY g N ∧ True) from ⟨bstep zh.1 zb, cellAt zb zh.2.1, cellAt zb zh.2.2.1, zh.2.2.2.1.below zb, trivial⟩))
        have hS0 : (Below w.heap.size w wr ∧ World.cell? wr ⟨bk, o + (f + j), none⟩ = some (.int .u16 x) ∧ World.cell? wr ⟨b2, o2 + j, none⟩ = some (.int .u16 y) ∧ Nums wr g N ∧ True) := ⟨hbel, hcx, hcy, hN, trivial⟩
        go_region_held_law (fun w' => (Below w.heap.size w w' ∧ World.cell? w' ⟨bk, o + (f + j), none⟩ = some (.int .u16 x) ∧ World.cell? w' ⟨b2, o2 + j, none⟩ = some (.int .u16 y) ∧ Nums w' g N ∧ True)) (first | assumption | exact SK.out _ _ hS0 (Below.refl _ _).drew | exact SK.out _ _ hS0 (fresh_below _ _).drew | exact SK.out _ _ (by assumption) (fresh_below _ _) | (refine SK.out _ _ ?_ (by assumption); assumption))
          (first | (go_at_call 7; (with_reducible refine Calls.mono (F1.out _ _ ?_) ?_); (focus ((repeat' (first | with_reducible refine Row.drawn ?_ | with_reducible exact Row.freshAt _ _ _ _ _ _ (by first | (simp; done) | fail) rfl rfl | (with_reducible refine Row.up ?_ (fresh_below _ _)) | (with_reducible refine Row.up ?_ (by with_reducible assumption)))); (first | done | fail))); rintro e wq ⟨rfl, bq⟩) | (go_at_call 7; (with_reducible refine Calls.mono (F2.out _ _ ?_) ?_); (focus ((repeat' (first | with_reducible refine Row.drawn ?_ | with_reducible exact Row.freshAt _ _ _ _ _ _ (by first | (simp; done) | fail) rfl rfl | (with_reducible refine Row.up ?_ (fresh_below _ _)) | (with_reducible refine Row.up ?_ (by with_reducible assumption)))); (first | done | fail))); rintro e wq ⟨rfl, bq⟩) | (go_at_call 9; (with_reducible refine (F3.out _).mono ?_); rintro e wz ⟨rfl, bz⟩))
        all_goals
          have gs : (Below w.heap.size w wz ∧ World.cell? wz ⟨bk, o + (f + j), none⟩ = some (.int .u16 x) ∧ World.cell? wz ⟨b2, o2 + j, none⟩ = some (.int .u16 y) ∧ Nums wz g N ∧ True) := by assumption
          obtain ⟨gb, g1, g2, g3, _⟩ := gs
          have x0 := g3.at_ HNl.out
          have y0 := g3.free (f + j)
          have hN5 := g3.set_ HNl.out y
          have b5 : Below w.heap.size w (wz.setCell ⟨g, f + j, none⟩ (.int .u16 y)) := gb.setCell (p := ⟨g, f + j, none⟩) hg _
          have H5 := hide hN5; have B5 := hide b5
          clear hN5 b5 g3 gb g1
          go_wp2_with fail
          go_roundw
          case rel => exact ⟨j + 1, by omega, by go_num, v_int (by rw [HE.out]), by rw [HE.out]; exact H5.out, B5.out⟩
          case measure => simp [intOf]; omega
    · obtain rfl : j = n2 := by omega
      have j1 : ¬ (j : Int) < (j : Int) := by omega
      have hkl : k < (holdSt l m f k j).2.length := by rw [hs2, HL.out]; exact hkn
      have hNL : ∀ q : Int, ((holdSt l m f k j).2.set k q).length = n := fun q => by rw [List.length_set, hs2, HL.out]
      obtain ⟨s, hs⟩ : ∃ s, s = (holdSt l m f k j).1 := ⟨_, rfl⟩
      obtain ⟨N, hNN⟩ : ∃ N, N = (holdSt l m f k j).2 := ⟨_, rfl⟩
      rw [← hs] at C2 ⊢
      rw [← hNN] at hN hkl hNL C2 C3 C5
      have HNL := hide hNL; have HKL := hide hkl
      have x0 := hN.at_ hkl
      have y0 := hN.free k
      have hN5 := hN.set_ hkl s
      have b5 : Below w.heap.size w (wr.setCell ⟨g, k, none⟩ (.int .u16 s)) := hbel.setCell (p := ⟨g, k, none⟩) hg _
      have H5 := hide hN5; have B5 := hide b5
      clear hN hN5 b5 hbel hs1 hs2 hs3 hs4 hs5 hs hNN hNL hkl
      go_wp2_with fail
      generalize wr.setCell ⟨g, k, none⟩ (.int .u16 s) = w5 at *
      clear x0 y0
      have row5 := HRW.out _ B5.out
      (with_reducible refine (C1.out _ _ _ row5).mono ?_)
      rintro e w6 ⟨rfl, b6⟩
      have hN6 := H5.out.below b6
      replace b6 : Below w.heap.size w w6 := bstep B5.out b6
      have row6 := hN6.row
      rw [HNL.out] at row6
      clear row5 H5 B5
      go_wp2_with fail
      (with_reducible refine (C2.out _ _ _ row6).mono ?_)
      rintro e w7 ⟨rfl, b7⟩
      have hN7 := hN6.below b7
      replace b7 : Below w.heap.size w w7 := bstep b6 b7
      clear hN6 row6 b6
      have h1' := h1
      subst h1'
      have h2' := h2
      subst h2'
      go_wp2_with fail
      (with_reducible refine (E1.out _).mono ?_)
      rintro e wx ⟨rfl, bx⟩
      have hNx := hN7.below bx
      replace bx : Below w.heap.size w wx := bstep b7 bx
      clear hN7 b7
      go_wp2_with fail
      (with_reducible refine (E2.out _).mono ?_)
      rintro e w8 ⟨rfl, b8⟩
      have hN8 := hNx.below b8
      replace b8 : Below w.heap.size w w8 := bstep bx b8
      clear hNx bx
      have hN9 := hN8
      have b9 := b8
      obtain ⟨w9, hw9⟩ : ∃ W, W = w8 := ⟨_, rfl⟩
      rw [← hw9] at hN9 b9 ⊢
      clear hN8 b8 hw9
      have hk9 : k < (N.set k s).length := by rw [HNL.out]; exact hkn
      have x9 := hN9.at_ hk9
      have y9 := hN9.free k
      have hNa := hN9.set_ hk9 0
      rw [List.set_set] at hNa
      have ba : Below w.heap.size w (w9.setCell ⟨g, k, none⟩ (.int .u16 0)) := b9.setCell (p := ⟨g, k, none⟩) hg _
      have HA := hide hNa; have BA := hide ba
      clear hN9 hNa ba b9
      go_wp2_with fail
      generalize w9.setCell ⟨g, k, none⟩ (.int .u16 0) = wA at *
      clear x9 y9
      have rowA := HA.out.row
      rw [HNL.out] at rowA
      (with_reducible refine (C3.out _ _ _ rowA).mono ?_)
      rintro e wB ⟨rfl, bB⟩
      have hNB := HA.out.below bB
      replace bB : Below w.heap.size w wB := bstep BA.out bB
      clear rowA HA BA
      go_wp2_with fail
      (with_reducible refine (C4.out _).mono ?_)
      rintro e wC ⟨rfl, bC⟩
      have hNC := (hNB.below (fresh_below _ _)).below bC
      replace bC : Below w.heap.size w wC := bstep (bstep bB (fresh_below _ _)) bC
      clear hNB bB
      have hkC : k < (N.set k 0).length := by rw [HNL.out]; exact hkn
      have xC := hNC.at_ hkC
      have yC := hNC.free k
      have hND := hNC.set_ hkC v
      rw [List.set_set] at hND
      have bD : Below w.heap.size w (wC.setCell ⟨g, k, none⟩ (.int .u16 v)) := bC.setCell (p := ⟨g, k, none⟩) hg _
      have HD := hide hND; have BD := hide bD
      clear hNC hND bC bD
      go_wp2_with fail
      generalize wC.setCell ⟨g, k, none⟩ (.int .u16 v) = wD at *
      clear xC yC
      have rowD := HD.out.row
      rw [HNL.out] at rowD
      (with_reducible refine (C5.out _ _ _ rowD).mono ?_)
      rintro e wE ⟨rfl, bE⟩
      replace bE : Below w.heap.size w wE := bstep BD.out bE
      clear rowD HD BD
      go_wp2_with fail
      (with_reducible refine (C6.out _).mono ?_)
      rintro e wF ⟨rfl, bF⟩
      replace bF : Below w.heap.size w wF := bstep (bstep bE (fresh_below _ _)) bF
      go_wp2_with fail
      (with_reducible refine (summed _).mono ?_)
      rintro e w30 ⟨rfl, b30⟩
      replace b30 : Below w.heap.size w w30 := by (refine bstep ?_ b30); (repeat' (first | with_reducible exact bF | with_reducible exact Below.refl _ _ | with_reducible refine Below.setCell ?_ (by first | exact Nat.le_refl _ | (dsimp only; omega)) _ | with_reducible refine bstep ?_ (fresh_below _ _) | with_reducible refine Below.drew ?_))
      have z30 : w.heap.size ≤ w30.heap.size := b30.size
      go_wp2_with fail
      go_ret
      exact ⟨rfl, (by (repeat' (first | with_reducible exact b30 | with_reducible exact Below.refl _ _ | with_reducible refine Below.setCell ?_ (by first | exact Nat.le_refl _ | (dsimp only; omega)) _ | with_reducible refine bstep ?_ (fresh_below _ _) | with_reducible refine Below.drew ?_)))⟩

set_option maxRecDepth 100000 in
set_option maxHeartbeats 8000000 in
theorem SumsHold_C (bk o n c n2 c2 k f : Nat) (A2 : Option Addr) (l m : List Int) (a0 a1 : Int) (s1 s2 s3 s4 : ByteArray) (v : Int) (hs ht : Bool) (w : World)
    (hr : Row w w.heap.size (some ⟨bk, o, none⟩) n (ints16 l)) (hr2 : Row w w.heap.size A2 n2 (ints16 m)) (hn : l.length = n) (hm : m.length = n2) (hn0 : 0 < n) (hn1 : n ≤ 100) (hnn : n2 ≤ n)
    (hl : ∀ x ∈ l, 0 ≤ x ∧ x ≤ 65535) (hml : ∀ x ∈ m, 0 ≤ x ∧ x ≤ 65535) (ha0 : 0 ≤ a0 ∧ a0 ≤ 255) (ha1 : 0 ≤ a1 ∧ a1 ≤ 255) (hk : a0 % (n : Int) = k) (hkn : k < n) (hf : a1 % ((n : Int) - (n2 : Int) + 1) = f) (hfn : f + n2 ≤ n)
    (hz1 : s1.size = 2 * n)
    (c1 : ∀ W A cc, Row W W.heap.size A n (ints16 l) → Calls Tryd.prog 7 #[.slice A n cc] W (Ret (.string s1) W))
    (c2' : ∀ W A cc, Row W W.heap.size A n (ints16 ((holdSt l m f k n2).2.set k (holdSt l m f k n2).1)) → Calls Tryd.prog 7 #[.slice A n cc] W (Ret (.string s2) W))
    (c3 : ∀ W A cc, Row W W.heap.size A n (ints16 ((holdSt l m f k n2).2.set k 0)) → Calls Tryd.prog 7 #[.slice A n cc] W (Ret (.string s3) W))
    (c4 : ∀ (W : World), Calls Tryd.prog 8 #[.slice (some ⟨W.heap.size, 0, none⟩) 1 1] (W.alloc (.cells #[.string s3] 9)) (Ret (.int .u16 v) (W.alloc (.cells #[.string s3] 9))))
    (c5 : ∀ W A cc, Row W W.heap.size A n (ints16 ((holdSt l m f k n2).2.set k v)) → Calls Tryd.prog 7 #[.slice A n cc] W (Ret (.string s4) W))
    (c6 : ∀ (W : World), Calls Tryd.prog 10 #[.slice (some ⟨W.heap.size, 0, none⟩) 1 1] (W.alloc (.cells #[.string s4] 9)) (Ret (.bool true) (W.alloc (.cells #[.string s4] 9))))
    (e1 : ∀ W, Calls Tryd.prog 6 #[.string s1] W (Ret (.bool hs) W))
    (e2 : ∀ W, Calls Tryd.prog 6 #[.string s2] W (Ret (.bool ht) W))
    (h1 : hs = false) (h2 : ht = false) (h3 : Bool)
    (e3 : ∀ (W : World), Calls Tryd.prog 10 #[.slice (some ⟨W.heap.size, 0, none⟩) 1 1] (W.alloc (.cells #[.string s1] 9)) (Ret (.bool h3) (W.alloc (.cells #[.string s1] 9))))
    (e4 : ∀ (W : World), Calls Tryd.prog 10 #[.slice (some ⟨W.heap.size, 0, none⟩) 1 1] (W.alloc (.cells #[.string s2] 9)) (Ret (.bool h3) (W.alloc (.cells #[.string s2] 9)))) :
    Calls Tryd.prog 4 #[.slice (some ⟨bk, o, none⟩) n c, .slice A2 n2 c2, .agg #[.int .u8 a0, .int .u8 a1]] w (Ret (.bool true) w) := by
  have hcell : ∀ (W : World) (i : Nat), i < n → Below w.heap.size w W → W.cell? ⟨bk, o + i, none⟩ = some (.int .u16 (l.getD i 0)) := by
    intro W i hi hW
    obtain ⟨b', o', he, hb, hcs⟩ := (hr.below hW).2 hn0
    injection he with he
    injection he with e1 e2 e3
    subst e1; subst e2
    exact hcs i _ (ints16_at (by omega))
  have hrow : ∀ W : World, Below w.heap.size w W → Row W W.heap.size (some ⟨bk, o, none⟩) n (ints16 l) := fun W hW => (hr.below hW).more hW.size
  have hst := fun j hj => holdSt_ok hl hml (show f + m.length ≤ l.length by omega) (show k < l.length by omega) j hj
  have hw1 : ∀ (x : Int), 0 ≤ x ∧ x ≤ 65535 → ∀ (W : World) (A : Option Addr), Row W W.heap.size A 1 (ints16 [x]) → Calls Tryd.prog 7 #[.slice A 1 1] W (Ret (.string (S (putW [x]))) W) :=
    fun x hx W A hR => Word A 1 1 [x] W hR (by intro z hz; simp at hz; subst hz; exact hx) (by omega)
  have hup : ∀ (s x y : Int), 0 ≤ s ∧ s ≤ 65535 → 0 ≤ x ∧ x ≤ 65535 → 0 ≤ y ∧ y ≤ 65535 → ∀ W, Calls Tryd.prog 9 #[.int .u16 s, .string (S (putW [x])), .string (S (putW [y]))] W (Ret (.int .u16 (upd s x y)) W) := by
    intro s x y h1 h2 h3 W
    have := Updates s (S (putW [x])) (S (putW [y])) W h1 (by rw [S_size, putW_length]; simp) (by rw [S_size, putW_length]; simp)
    rwa [updates_one h2 h3] at this
  have hx0 := hl _ (getD_mem (show k < l.length by omega))
  obtain ⟨a00, a01⟩ := ha0
  obtain ⟨a10, a11⟩ := ha1
  have i1 : (k : Int) < (n : Int) := by omega
  have i2 : ¬ 100 < (n : Int) := by omega
  have i3 : ((n : Int) == 0) = false := by simp; omega
  have i4 : ¬ (n : Int) < (n2 : Int) := by omega
  have HC := hide hcell; have HRW := hide hrow; have HST := hide hst; have HW1 := hide hw1; have HUP := hide hup; have HR2 := hide hr2; have HL := hide hn; have HM := hide hm; have HLB := hide hl; have HMB := hide hml
  have C1 := hide c1; have C2 := hide c2'; have C3 := hide c3; have C4 := hide c4; have C5 := hide c5; have C6 := hide c6; have E1 := hide e1; have E2 := hide e2; have HR := hide hr
  clear hcell hrow hst hw1 hup hr2 hm hl hml c1 c2' c3 c4 c5 c6 e1 e2 hr
  have info16 : (Tryd.prog.info? 23).map (fun i => (i.zero, i.size, i.bytes)) = some (some (.int .u16 0), 1, 2) := by kernel_rfl
  obtain ⟨i0, hi, hzz0, hzz1, hzz2⟩ := info_parts info16
  go_enter Tryd.func4, Tryd.ntmps4
  have d0 := Cells.new w #[.int .u8 a0, .int .u8 a1] 29
  have xd0_0 : ((w.alloc (.cells #[.int .u8 a0, .int .u8 a1] 29))).cell? ⟨w.heap.size, 0, none⟩ = some (.int .u8 a0) := d0.at_ 0
  have xd0_1 : ((w.alloc (.cells #[.int .u8 a0, .int .u8 a1] 29))).cell? ⟨w.heap.size, 1, none⟩ = some (.int .u8 a1) := d0.at_ 1
  have yd0_0 : ((w.alloc (.cells #[.int .u8 a0, .int .u8 a1] 29))).frozen? ⟨w.heap.size, 0, none⟩ = false := d0.free 0
  have yd0_1 : ((w.alloc (.cells #[.int .u8 a0, .int .u8 a1] 29))).frozen? ⟨w.heap.size, 1, none⟩ = false := d0.free 1
  have b0 : Below w.heap.size w (w.alloc (.cells #[.int .u8 a0, .int .u8 a1] 29)) := fresh_below _ _
  have hnews : ∀ (j : Nat) u, (ints16 l)[j]? = some u → (w.alloc (.cells #[.int .u8 a0, .int .u8 a1] 29)).cell? ⟨bk, o + j, none⟩ = some u := by
    intro j u hu
    obtain ⟨b', o', he, hb, hcs⟩ := (HRW.out _ b0).2 hn0
    injection he with he
    injection he with e1 e2 e3
    subst e1; subst e2
    exact hcs j u hu
  have HN := hide hnews
  have xk := HC.out _ k hkn b0
  clear hnews
  go_wp2_with (at_builtin; refine wpList_append_own _ rfl _ _ 22 rfl w.heap.size 23 i0 (.int .u16 0) 1 2 Tryd.underlying22 hi hzz0 hzz1 hzz2 rfl (by decide) _ 0 [] rfl ⟨rfl, .inl ⟨rfl, rfl⟩⟩ ⟨bk, o, none⟩ n c (ints16 l) rfl ?q0 ?q1 ?q2 ?q3 ?q4 ?q5 ?_)
  case q0 => simp [ints16, HL.out]
  case q1 => exact HN.out
  case q2 =>
    intro u hu
    unfold ints16 at hu
    obtain ⟨z, _, rfl⟩ := List.mem_map.1 hu
    rfl
  case q3 => unfold maxLen; omega
  case q4 => omega
  intro v' w1 hown hgrow _
  obtain ⟨g, cap, rfl⟩ := owns_at hown hn0
  obtain ⟨hg, hN, -⟩ := Nums.of_owns hown
  have b1 : Below w.heap.size w w1 := b0.grown hgrow (by simp) (fun k hk => by simp [Value.ownBlock] at hk)
  clear hown hgrow xk d0 xd0_0 xd0_1 yd0_0 yd0_1 b0 HN
  obtain ⟨q0, hq0⟩ : ∃ q, q = (holdSt l m f k 0).1 := ⟨_, rfl⟩
  have xk : w1.cell? ⟨bk, o + k, none⟩ = some (.int .u16 q0) := by rw [hq0]; exact HC.out _ k hkn b1
  have HQ := hide hq0
  clear hq0
  go_wp2_with fail
  go_loopw [10, 11] (fun s i wr => ∃ j : Nat, j ≤ n2 ∧ i = .int .i64 j ∧ s = .int .u16 (holdSt l m f k j).1 ∧ Nums wr g (holdSt l m f k j).2 ∧ Below w.heap.size w wr) (fun _ i _ => n2 - (intOf i).toNat)
  case atStart => exact ⟨0, Nat.zero_le _, rfl, v_int HQ.out, hN, b1⟩
  case round =>
    clear xk hN b1
    obtain ⟨j, hj, rfl, rfl, hN, hbel⟩ := hrel
    obtain ⟨hs1, hs2, hs3, hs4, hs5⟩ := HST.out j (by rw [HM.out]; exact hj)
    by_cases hlt : j < n2
    · have j1 : (j : Int) < (n2 : Int) := by omega
      obtain ⟨b2, o2, rfl, hbo2, hc2⟩ := HR2.out.2 (by omega)
      have hcy : wr.cell? ⟨b2, o2 + j, none⟩ = some (.int .u16 (m.getD j 0)) := by
        rw [hbel.cell (p := ⟨b2, o2 + j, none⟩) hbo2]
        exact hc2 j _ (ints16_at (by rw [HM.out]; exact hlt))
      have hcx := HC.out wr (f + j) (by omega) hbel
      have hxb := HLB.out _ (getD_mem (show f + j < l.length by rw [HL.out]; omega))
      have hyb := HMB.out _ (getD_mem (show j < m.length by rw [HM.out]; exact hlt))
      have hNl : f + j < (holdSt l m f k j).2.length := by rw [hs2, HL.out]; omega
      have hst1 : holdSt l m f k (j + 1) = if f + j = k then holdSt l m f k j else (upd (holdSt l m f k j).1 (l.getD (f + j) 0) (m.getD j 0), (holdSt l m f k j).2.set (f + j) (m.getD j 0)) := rfl
      obtain ⟨x, hx⟩ : ∃ x, x = l.getD (f + j) 0 := ⟨_, rfl⟩
      obtain ⟨y, hy⟩ : ∃ y, y = m.getD j 0 := ⟨_, rfl⟩
      rw [← hx, ← hy] at hst1
      rw [← hx] at hcx hxb
      rw [← hy] at hcy hyb
      by_cases he : f + j = k
      · rw [if_pos he] at hst1
        have e5 : ((f : Int) + (j : Int) != (k : Int)) = false := by simp; omega
        have e6 : ((f : Int) + (j : Int) == (k : Int)) = true := by simp; omega
        have HE := hide hst1
        clear hst1 hcx hcy hx hy hs2 hs3 hs4 hs5 hNl
        go_wp2_with fail
        go_roundw
        case rel => exact ⟨j + 1, by omega, by go_num, v_int (by rw [HE.out]), by rw [HE.out]; exact hN, hbel⟩
        case measure => simp [intOf]; omega
      · rw [if_neg he] at hst1
        have e5 : ((f : Int) + (j : Int) != (k : Int)) = true := by simp; omega
        have e6 : ((f : Int) + (j : Int) == (k : Int)) = false := by simp; omega
        have F1 := hide (HW1.out x hxb); have F2 := hide (HW1.out y hyb)
        have f3 := HUP.out (holdSt l m f k j).1 x y hs1 hxb hyb
        obtain ⟨s, hs⟩ : ∃ s, s = (holdSt l m f k j).1 := ⟨_, rfl⟩
        obtain ⟨N, hNN⟩ : ∃ N, N = (holdSt l m f k j).2 := ⟨_, rfl⟩
        rw [← hs] at f3 hst1 hs1 ⊢
        rw [← hNN] at hst1 hN hNl
        obtain ⟨u, hu⟩ : ∃ u, u = upd s x y := ⟨_, rfl⟩
        rw [← hu] at f3 hst1
        obtain ⟨sx, hsx⟩ : ∃ q, q = S (putW [x]) := ⟨_, rfl⟩
        obtain ⟨sy, hsy⟩ : ∃ q, q = S (putW [y]) := ⟨_, rfl⟩
        rw [← hsx] at F1 f3; rw [← hsy] at F2 f3
        have F3 := hide f3
        have HE := hide hst1
        have HNl := hide hNl
        clear hst1 f3 hx hy hs2 hs3 hs4 hs5 hs hNN hu hsx hsy hNl hs1
        have k1 : (f : Int) + (j : Int) < (n : Int) := by omega
        have k0 : (0 : Int) ≤ (f : Int) + (j : Int) := by omega
        have kw : IntKind.i64.wrap ((f : Int) + (j : Int)) = (f : Int) + (j : Int) := IntWalk.i64_in _ (by omega)
        have k3 : ((f : Int) + (j : Int)).toNat = f + j := by omega
        go_wp2_with fail
        have SK := hide (fun (zX zY : World) (zh : (Below w.heap.size w zX ∧ World.cell? zX ⟨bk, o + (f + j), none⟩ = some (.int .u16 x) ∧ World.cell? zX ⟨b2, o2 + j, none⟩ = some (.int .u16 y) ∧ Nums zX g N ∧ True)) (zb : Below zX.heap.size zX zY) => (show (Below w.heap.size w zY ∧ World.cell? zY ⟨bk, o + (f + j), none⟩ = some (.int .u16 x) ∧ World.cell? zY ⟨b2, o2 + j, none⟩ = some (.int .u16 y) ∧ Nums zY g N ∧ True) from ⟨bstep zh.1 zb, cellAt zb zh.2.1, cellAt zb zh.2.2.1, zh.2.2.2.1.below zb, trivial⟩))
        have hS0 : (Below w.heap.size w wr ∧ World.cell? wr ⟨bk, o + (f + j), none⟩ = some (.int .u16 x) ∧ World.cell? wr ⟨b2, o2 + j, none⟩ = some (.int .u16 y) ∧ Nums wr g N ∧ True) := ⟨hbel, hcx, hcy, hN, trivial⟩
        go_region_held_law (fun w' => (Below w.heap.size w w' ∧ World.cell? w' ⟨bk, o + (f + j), none⟩ = some (.int .u16 x) ∧ World.cell? w' ⟨b2, o2 + j, none⟩ = some (.int .u16 y) ∧ Nums w' g N ∧ True)) (first | assumption | exact SK.out _ _ hS0 (Below.refl _ _).drew | exact SK.out _ _ hS0 (fresh_below _ _).drew | exact SK.out _ _ (by assumption) (fresh_below _ _) | (refine SK.out _ _ ?_ (by assumption); assumption))
          (first | (go_at_call 7; (with_reducible refine Calls.mono (F1.out _ _ ?_) ?_); (focus ((repeat' (first | with_reducible refine Row.drawn ?_ | with_reducible exact Row.freshAt _ _ _ _ _ _ (by first | (simp; done) | fail) rfl rfl | (with_reducible refine Row.up ?_ (fresh_below _ _)) | (with_reducible refine Row.up ?_ (by with_reducible assumption)))); (first | done | fail))); rintro e wq ⟨rfl, bq⟩) | (go_at_call 7; (with_reducible refine Calls.mono (F2.out _ _ ?_) ?_); (focus ((repeat' (first | with_reducible refine Row.drawn ?_ | with_reducible exact Row.freshAt _ _ _ _ _ _ (by first | (simp; done) | fail) rfl rfl | (with_reducible refine Row.up ?_ (fresh_below _ _)) | (with_reducible refine Row.up ?_ (by with_reducible assumption)))); (first | done | fail))); rintro e wq ⟨rfl, bq⟩) | (go_at_call 9; (with_reducible refine (F3.out _).mono ?_); rintro e wz ⟨rfl, bz⟩))
        all_goals
          have gs : (Below w.heap.size w wz ∧ World.cell? wz ⟨bk, o + (f + j), none⟩ = some (.int .u16 x) ∧ World.cell? wz ⟨b2, o2 + j, none⟩ = some (.int .u16 y) ∧ Nums wz g N ∧ True) := by assumption
          obtain ⟨gb, g1, g2, g3, _⟩ := gs
          have x0 := g3.at_ HNl.out
          have y0 := g3.free (f + j)
          have hN5 := g3.set_ HNl.out y
          have b5 : Below w.heap.size w (wz.setCell ⟨g, f + j, none⟩ (.int .u16 y)) := gb.setCell (p := ⟨g, f + j, none⟩) hg _
          have H5 := hide hN5; have B5 := hide b5
          clear hN5 b5 g3 gb g1
          go_wp2_with fail
          go_roundw
          case rel => exact ⟨j + 1, by omega, by go_num, v_int (by rw [HE.out]), by rw [HE.out]; exact H5.out, B5.out⟩
          case measure => simp [intOf]; omega
    · obtain rfl : j = n2 := by omega
      have j1 : ¬ (j : Int) < (j : Int) := by omega
      have hkl : k < (holdSt l m f k j).2.length := by rw [hs2, HL.out]; exact hkn
      have hNL : ∀ q : Int, ((holdSt l m f k j).2.set k q).length = n := fun q => by rw [List.length_set, hs2, HL.out]
      obtain ⟨s, hs⟩ : ∃ s, s = (holdSt l m f k j).1 := ⟨_, rfl⟩
      obtain ⟨N, hNN⟩ : ∃ N, N = (holdSt l m f k j).2 := ⟨_, rfl⟩
      rw [← hs] at C2 ⊢
      rw [← hNN] at hN hkl hNL C2 C3 C5
      have HNL := hide hNL; have HKL := hide hkl
      have x0 := hN.at_ hkl
      have y0 := hN.free k
      have hN5 := hN.set_ hkl s
      have b5 : Below w.heap.size w (wr.setCell ⟨g, k, none⟩ (.int .u16 s)) := hbel.setCell (p := ⟨g, k, none⟩) hg _
      have H5 := hide hN5; have B5 := hide b5
      clear hN hN5 b5 hbel hs1 hs2 hs3 hs4 hs5 hs hNN hNL hkl
      go_wp2_with fail
      generalize wr.setCell ⟨g, k, none⟩ (.int .u16 s) = w5 at *
      clear x0 y0
      have row5 := HRW.out _ B5.out
      (with_reducible refine (C1.out _ _ _ row5).mono ?_)
      rintro e w6 ⟨rfl, b6⟩
      have hN6 := H5.out.below b6
      replace b6 : Below w.heap.size w w6 := bstep B5.out b6
      have row6 := hN6.row
      rw [HNL.out] at row6
      clear row5 H5 B5
      go_wp2_with fail
      (with_reducible refine (C2.out _ _ _ row6).mono ?_)
      rintro e w7 ⟨rfl, b7⟩
      have hN7 := hN6.below b7
      replace b7 : Below w.heap.size w w7 := bstep b6 b7
      clear hN6 row6 b6
      have h1' := h1
      subst h1'
      have h2' := h2
      subst h2'
      have qh : (h3 != h3) = false := by simp
      have qh2 : (h3 == h3) = true := by simp
      have E3 := hide e3; have E4 := hide e4
      clear e3 e4
      go_wp2_with fail
      (with_reducible refine (E1.out _).mono ?_)
      rintro e wx ⟨rfl, bx⟩
      have hNx := hN7.below bx
      replace bx : Below w.heap.size w wx := bstep b7 bx
      clear hN7 b7
      go_wp2_with fail
      (with_reducible refine (E2.out _).mono ?_)
      rintro e wy_ ⟨rfl, by_⟩
      have hNy_ := hNx.below by_
      replace by_ : Below w.heap.size w wy_ := bstep bx by_
      clear hNx bx
      go_wp2_with fail
      (with_reducible refine (E3.out _).mono ?_)
      rintro e wz_ ⟨rfl, bz_⟩
      have hNz_ := (hNy_.below (fresh_below _ _)).below bz_
      replace bz_ : Below w.heap.size w wz_ := bstep (bstep by_ (fresh_below _ _)) bz_
      clear hNy_ by_
      go_wp2_with fail
      (with_reducible refine (E4.out _).mono ?_)
      rintro e w8 ⟨rfl, b8⟩
      have hN8 := (hNz_.below (fresh_below _ _)).below b8
      replace b8 : Below w.heap.size w w8 := bstep (bstep bz_ (fresh_below _ _)) b8
      clear hNz_ bz_
      have hN9 := hN8
      have b9 := b8
      obtain ⟨w9, hw9⟩ : ∃ W, W = w8 := ⟨_, rfl⟩
      rw [← hw9] at hN9 b9 ⊢
      clear hN8 b8 hw9
      have hk9 : k < (N.set k s).length := by rw [HNL.out]; exact hkn
      have x9 := hN9.at_ hk9
      have y9 := hN9.free k
      have hNa := hN9.set_ hk9 0
      rw [List.set_set] at hNa
      have ba : Below w.heap.size w (w9.setCell ⟨g, k, none⟩ (.int .u16 0)) := b9.setCell (p := ⟨g, k, none⟩) hg _
      have HA := hide hNa; have BA := hide ba
      clear hN9 hNa ba b9
      go_wp2_with fail
      generalize w9.setCell ⟨g, k, none⟩ (.int .u16 0) = wA at *
      clear x9 y9
      have rowA := HA.out.row
      rw [HNL.out] at rowA
      (with_reducible refine (C3.out _ _ _ rowA).mono ?_)
      rintro e wB ⟨rfl, bB⟩
      have hNB := HA.out.below bB
      replace bB : Below w.heap.size w wB := bstep BA.out bB
      clear rowA HA BA
      go_wp2_with fail
      (with_reducible refine (C4.out _).mono ?_)
      rintro e wC ⟨rfl, bC⟩
      have hNC := (hNB.below (fresh_below _ _)).below bC
      replace bC : Below w.heap.size w wC := bstep (bstep bB (fresh_below _ _)) bC
      clear hNB bB
      have hkC : k < (N.set k 0).length := by rw [HNL.out]; exact hkn
      have xC := hNC.at_ hkC
      have yC := hNC.free k
      have hND := hNC.set_ hkC v
      rw [List.set_set] at hND
      have bD : Below w.heap.size w (wC.setCell ⟨g, k, none⟩ (.int .u16 v)) := bC.setCell (p := ⟨g, k, none⟩) hg _
      have HD := hide hND; have BD := hide bD
      clear hNC hND bC bD
      go_wp2_with fail
      generalize wC.setCell ⟨g, k, none⟩ (.int .u16 v) = wD at *
      clear xC yC
      have rowD := HD.out.row
      rw [HNL.out] at rowD
      (with_reducible refine (C5.out _ _ _ rowD).mono ?_)
      rintro e wE ⟨rfl, bE⟩
      replace bE : Below w.heap.size w wE := bstep BD.out bE
      clear rowD HD BD
      go_wp2_with fail
      (with_reducible refine (C6.out _).mono ?_)
      rintro e wF ⟨rfl, bF⟩
      replace bF : Below w.heap.size w wF := bstep (bstep bE (fresh_below _ _)) bF
      go_wp2_with fail
      (with_reducible refine (summed _).mono ?_)
      rintro e w30 ⟨rfl, b30⟩
      replace b30 : Below w.heap.size w w30 := by (refine bstep ?_ b30); (repeat' (first | with_reducible exact bF | with_reducible exact Below.refl _ _ | with_reducible refine Below.setCell ?_ (by first | exact Nat.le_refl _ | (dsimp only; omega)) _ | with_reducible refine bstep ?_ (fresh_below _ _) | with_reducible refine Below.drew ?_))
      have z30 : w.heap.size ≤ w30.heap.size := b30.size
      go_wp2_with fail
      go_ret
      exact ⟨rfl, (by (repeat' (first | with_reducible exact b30 | with_reducible exact Below.refl _ _ | with_reducible refine Below.setCell ?_ (by first | exact Nat.le_refl _ | (dsimp only; omega)) _ | with_reducible refine bstep ?_ (fresh_below _ _) | with_reducible refine Below.drew ?_)))⟩

end Go.Proofs.YtcghhnehmddoeaaDoor
