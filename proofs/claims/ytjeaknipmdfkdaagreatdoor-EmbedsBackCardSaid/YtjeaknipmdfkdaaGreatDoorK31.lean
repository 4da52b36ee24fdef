/- Several texts of this claim, one behind the other. -/
import Derived.Test.YtjeaknipmdfkdaaGreatDoorK2
import Derived.Test.YtjeaknipmdfkdaaGreatDoorK30
import Derived.Test.YtjeaknipmdfkdaaGreatDoorK29
import Derived.Test.YtjeaknipmdfkdaaGreatDoorK25
import Derived.Test.YtjeaknipmdfkdaaGreatDoorK1
import Derived.Test.YtjeaknipmdfkdaaGreatDoorK23
import Derived.Test.YtjeaknipmdfkdaaGreatDoorK28

section
/- The text of another tuple. -/
set_option linter.unusedVariables false
set_option linter.unusedSimpArgs false
namespace Go.Proofs.YtjeaknipmdfkdaaGreatDoor
open Go.RowKit Go.Maps
attribute [local go_sem] Oper.semAt_some

/-- the texts of an address's bytes -/
def text_c_parts : List Value := [.string { data := #[49, 48] }, .string { data := #[48] }, .string { data := #[48] }, .string { data := #[49] }]
set_option maxRecDepth 100000 in
set_option maxHeartbeats 4000000 in
theorem text_c (w : World) (hP : Pow w) : Calls Tryz.prog 102 #[.int .u32 167772161] w (Ret (.string { data := #[49, 48, 46, 48, 46, 48, 46, 49] }) w) := by
  have hj : (⟨(Lib.join (([{ data := #[49, 48] }, { data := #[48] }, { data := #[48] }, { data := #[49] }] : List ByteArray).map (·.data.toList)) ({ data := #[46] } : ByteArray).data.toList).toArray⟩ : ByteArray) = { data := #[49, 48, 46, 48, 46, 48, 46, 49] } := by decide +kernel
  have y0 : wrap64 (bits .and .u32 10 255) = 10 := by decide +kernel
  have c0 := fun W (h : Pow W) => Itoa_ret 10 ({ data := #[49, 48] }) W (by decide) (by decide) h (by decide +kernel)
  have y1 : wrap64 (bits .and .u32 2560 255) = 0 := by decide +kernel
  have c1 := fun W (h : Pow W) => Itoa_ret 0 ({ data := #[48] }) W (by decide) (by decide) h (by decide +kernel)
  have y2 : wrap64 (bits .and .u32 655360 255) = 0 := by decide +kernel
  have c2 := fun W (h : Pow W) => Itoa_ret 0 ({ data := #[48] }) W (by decide) (by decide) h (by decide +kernel)
  have y3 : wrap64 (bits .and .u32 167772161 255) = 1 := by decide +kernel
  have c3 := fun W (h : Pow W) => Itoa_ret 1 ({ data := #[49] }) W (by decide) (by decide) h (by decide +kernel)
  have c4 : ∀ (W : World) (g cap : Nat), (∀ (j : Nat) x, ([{ data := #[49, 48] }, { data := #[48] }, { data := #[48] }, { data := #[49] }] : List ByteArray)[j]? = some x → W.cell? ⟨g, 0 + j, none⟩ = some (.string x)) → g < W.heap.size → 4 ≤ cap → Calls Tryz.prog 54 #[.slice (some ⟨g, 0, none⟩) 4 cap, .string { data := #[46] }] W (Ret (.string { data := #[49, 48, 46, 48, 46, 48, 46, 49] }) W) := fun W g cap h1 h2 h3 => by
    have := Tryz.strings_Join g 0 cap ([{ data := #[49, 48] }, { data := #[48] }, { data := #[48] }, { data := #[49] }]) ({ data := #[46] }) W h1 h2 (by decide) h3 (by decide +kernel)
    rw [hj] at this
    exact this
  have HP := hide hP; have C4 := hide c4
  have C0 := hide c0; have C1 := hide c1; have C2 := hide c2; have C3 := hide c3
  clear hP hj c0 c1 c2 c3 c4
  have infoStr : (Tryz.prog.info? 9).map (fun i => (i.zero, i.size, i.bytes)) = some (some (.string { data := #[] }), 1, 16) := by kernel_rfl
  obtain ⟨i0, hi, hz0, hz1, hz2⟩ := info_parts infoStr
  go_enter Tryz.func102, Tryz.ntmps102
  go_wp2
  go_loopw [3, 4] (fun v i wr => ∃ k : Nat, k ≤ 4 ∧ i = .int .i64 (24 - 8 * (k : Int)) ∧ wr.ownsRow w.heap.size 9 1 v k (text_c_parts.take k) ∧ Below w.heap.size w wr) (fun _ i _ => (intOf i + 8).toNat)
  case atStart => exact ⟨0, by omega, rfl, ⟨rfl, .inl ⟨rfl, rfl⟩⟩, Below.refl _ _⟩
  case round =>
    obtain ⟨k, hk, rfl, hown, hbel⟩ := hrel
    have hcase : k = 0 ∨ k = 1 ∨ k = 2 ∨ k = 3 ∨ k = 4 := by omega
    rcases hcase with rfl | rfl | rfl | rfl | rfl
    · have HO := hide hown
      clear hown
      go_wp2_with fail
      (with_reducible refine (C0.out _ (HP.out.below hbel)).mono ?_)
      rintro e w1 ⟨rfl, b1⟩
      have hown1 := HO.out.kept (grown_of b1) (Classical.em _)
      have hb1 : Below w.heap.size w w1 := bstep hbel b1
      clear b1 HO
      have hown2 := hown1.alloc (.cells #[.string ({ data := #[49, 48] })] 9)
      have hbase : w.heap.size ≤ w1.heap.size := hb1.size
      go_wp2_with (at_builtin; refine wpList_append_own _ rfl _ _ 97 rfl w.heap.size 9 i0 (.string { data := #[] }) 1 16 Tryz.underlying97 hi hz0 hz1 hz2 rfl (by decide) _ 0 (text_c_parts.take 0) rfl hown2 ⟨w1.heap.size, 0, none⟩ 1 1 [.string ({ data := #[49, 48] })] rfl rfl ?q1 ?q2 ?q3 ?q4 ?q5 ?_)
      case q1 =>
        intro j u hj
        match j, hj with
        | 0, hj => simp at hj; subst hj; simp [Addr.add]
      case q2 => intro u hu; simp at hu; subst hu; rfl
      case q3 => unfold maxLen; omega
      case q4 => omega
      case q5 => simp; omega
      intro v' w2 hown hgrow _
      have hb2 : Below w.heap.size w w2 := (bstep hb1 (fresh_below w1 (.cells #[.string ({ data := #[49, 48] })] 9))).grown hgrow (by simp; omega) (owns_block hown2)
      go_wp2_with fail
      go_roundw
      case rel => exact ⟨1, by omega, by go_num, hown, hb2⟩
      case measure => simp [intOf]
    · have HO := hide hown
      clear hown
      go_wp2_with fail
      (with_reducible refine (C1.out _ (HP.out.below hbel)).mono ?_)
      rintro e w1 ⟨rfl, b1⟩
      have hown1 := HO.out.kept (grown_of b1) (Classical.em _)
      have hb1 : Below w.heap.size w w1 := bstep hbel b1
      clear b1 HO
      have hown2 := hown1.alloc (.cells #[.string ({ data := #[48] })] 9)
      have hbase : w.heap.size ≤ w1.heap.size := hb1.size
      go_wp2_with (at_builtin; refine wpList_append_own _ rfl _ _ 97 rfl w.heap.size 9 i0 (.string { data := #[] }) 1 16 Tryz.underlying97 hi hz0 hz1 hz2 rfl (by decide) _ 1 (text_c_parts.take 1) rfl hown2 ⟨w1.heap.size, 0, none⟩ 1 1 [.string ({ data := #[48] })] rfl rfl ?q1 ?q2 ?q3 ?q4 ?q5 ?_)
      case q1 =>
        intro j u hj
        match j, hj with
        | 0, hj => simp at hj; subst hj; simp [Addr.add]
      case q2 => intro u hu; simp at hu; subst hu; rfl
      case q3 => unfold maxLen; omega
      case q4 => omega
      case q5 => simp; omega
      intro v' w2 hown hgrow _
      have hb2 : Below w.heap.size w w2 := (bstep hb1 (fresh_below w1 (.cells #[.string ({ data := #[48] })] 9))).grown hgrow (by simp; omega) (owns_block hown2)
      go_wp2_with fail
      go_roundw
      case rel => exact ⟨2, by omega, by go_num, hown, hb2⟩
      case measure => simp [intOf]
    · have HO := hide hown
      clear hown
      go_wp2_with fail
      (with_reducible refine (C2.out _ (HP.out.below hbel)).mono ?_)
      rintro e w1 ⟨rfl, b1⟩
      have hown1 := HO.out.kept (grown_of b1) (Classical.em _)
      have hb1 : Below w.heap.size w w1 := bstep hbel b1
      clear b1 HO
      have hown2 := hown1.alloc (.cells #[.string ({ data := #[48] })] 9)
      have hbase : w.heap.size ≤ w1.heap.size := hb1.size
      go_wp2_with (at_builtin; refine wpList_append_own _ rfl _ _ 97 rfl w.heap.size 9 i0 (.string { data := #[] }) 1 16 Tryz.underlying97 hi hz0 hz1 hz2 rfl (by decide) _ 2 (text_c_parts.take 2) rfl hown2 ⟨w1.heap.size, 0, none⟩ 1 1 [.string ({ data := #[48] })] rfl rfl ?q1 ?q2 ?q3 ?q4 ?q5 ?_)
      case q1 =>
        intro j u hj
        match j, hj with
        | 0, hj => simp at hj; subst hj; simp [Addr.add]
      case q2 => intro u hu; simp at hu; subst hu; rfl
      case q3 => unfold maxLen; omega
      case q4 => omega
      case q5 => simp; omega
      intro v' w2 hown hgrow _
      have hb2 : Below w.heap.size w w2 := (bstep hb1 (fresh_below w1 (.cells #[.string ({ data := #[48] })] 9))).grown hgrow (by simp; omega) (owns_block hown2)
      go_wp2_with fail
      go_roundw
      case rel => exact ⟨3, by omega, by go_num, hown, hb2⟩
      case measure => simp [intOf]
    · have HO := hide hown
      clear hown
      go_wp2_with fail
      (with_reducible refine (C3.out _ (HP.out.below hbel)).mono ?_)
      rintro e w1 ⟨rfl, b1⟩
      have hown1 := HO.out.kept (grown_of b1) (Classical.em _)
      have hb1 : Below w.heap.size w w1 := bstep hbel b1
      clear b1 HO
      have hown2 := hown1.alloc (.cells #[.string ({ data := #[49] })] 9)
      have hbase : w.heap.size ≤ w1.heap.size := hb1.size
      go_wp2_with (at_builtin; refine wpList_append_own _ rfl _ _ 97 rfl w.heap.size 9 i0 (.string { data := #[] }) 1 16 Tryz.underlying97 hi hz0 hz1 hz2 rfl (by decide) _ 3 (text_c_parts.take 3) rfl hown2 ⟨w1.heap.size, 0, none⟩ 1 1 [.string ({ data := #[49] })] rfl rfl ?q1 ?q2 ?q3 ?q4 ?q5 ?_)
      case q1 =>
        intro j u hj
        match j, hj with
        | 0, hj => simp at hj; subst hj; simp [Addr.add]
      case q2 => intro u hu; simp at hu; subst hu; rfl
      case q3 => unfold maxLen; omega
      case q4 => omega
      case q5 => simp; omega
      intro v' w2 hown hgrow _
      have hb2 : Below w.heap.size w w2 := (bstep hb1 (fresh_below w1 (.cells #[.string ({ data := #[49] })] 9))).grown hgrow (by simp; omega) (owns_block hown2)
      go_wp2_with fail
      go_roundw
      case rel => exact ⟨4, by omega, by go_num, hown, hb2⟩
      case measure => simp [intOf]
    · obtain ⟨g, cap, rfl⟩ := owns_at hown (by omega)
      obtain ⟨hcap, hg⟩ := owns_cap hown
      have hrow := row_of_owns hown
      have hcs : ∀ (j : Nat) x, ([{ data := #[49, 48] }, { data := #[48] }, { data := #[48] }, { data := #[49] }] : List ByteArray)[j]? = some x → wr.cell? ⟨g, 0 + j, none⟩ = some (.string x) := by
        intro j x hx
        obtain ⟨b', o', he, hb, hc⟩ := hrow.2 (by omega)
        injection he with he
        injection he with e1 e2 e3
        subst e1; subst e2
        refine hc j _ ?_
        have := congrArg (Option.map Value.string) hx
        rw [← List.getElem?_map] at this
        exact this
      have c5 := C4.out wr g cap hcs hg hcap
      have C5 := hide c5
      clear hcs hrow hown c5 hcap hg
      go_wp2_with fail
      (with_reducible refine (C5.out).mono ?_)
      rintro e w1 ⟨rfl, b1⟩
      replace b1 : Below w.heap.size w w1 := bstep hbel b1
      go_wp2_with fail
      go_ret
      exact ⟨rfl, b1⟩

set_option maxRecDepth 100000 in
set_option maxHeartbeats 2000000 in
theorem point_c (w : World) (hP : Pow w) : Calls Tryz.prog 55 #[.agg #[.int .u32 167772161, .int .u16 5]] w (Ret (.string { data := #[49, 48, 46, 48, 46, 48, 46, 49, 58, 53] }) w) := by
  have c1 := fun W h => text_c W h
  have c2 := fun W h => Itoa_ret 5 ({ data := #[53] }) W (by decide) (by decide) h (by decide +kernel)
  have c3 : ∀ W, Pow W → Calls Tryz.prog 103 #[.int .i64 (IntKind.i64.wrap 5)] W (Ret (.string ({ data := #[53] })) W) := fun W h => by rw [show IntKind.i64.wrap 5 = 5 from by decide]; exact c2 W h
  have HP := hide hP; have C1 := hide c1; have C2 := hide c2; have C3 := hide c3
  clear hP c1 c2 c3
  have e1 : ({ data := #[49, 48, 46, 48, 46, 48, 46, 49] } : ByteArray) ++ { data := #[58] } = { data := #[49, 48, 46, 48, 46, 48, 46, 49, 58] } := by decide +kernel
  have e2 : ({ data := #[49, 48, 46, 48, 46, 48, 46, 49, 58] } : ByteArray) ++ { data := #[53] } = { data := #[49, 48, 46, 48, 46, 48, 46, 49, 58, 53] } := by decide +kernel
  have HE := hide e1; have HE2 := hide e2
  clear e1 e2
  go_enter Tryz.func55, Tryz.ntmps55
  have d0 := Cells.new w #[.int .u32 167772161, .int .u16 5] 26
  go_wp2_with fail
  have SK := hide (fun (zX zY : World) (zh : (Below w.heap.size w zX ∧ zX.cell? ⟨w.heap.size, 0, none⟩ = some (.int .u32 167772161) ∧ zX.cell? ⟨w.heap.size, 1, none⟩ = some (.int .u16 5) ∧ True)) (zb : Below zX.heap.size zX zY) => (show (Below w.heap.size w zY ∧ zY.cell? ⟨w.heap.size, 0, none⟩ = some (.int .u32 167772161) ∧ zY.cell? ⟨w.heap.size, 1, none⟩ = some (.int .u16 5) ∧ True) from ⟨bstep zh.1 zb, cellAt zb zh.2.1, cellAt zb zh.2.2.1, trivial⟩))
  have FS := hide (fun (zX : World) (zh : (Below w.heap.size w zX ∧ zX.cell? ⟨w.heap.size, 0, none⟩ = some (.int .u32 167772161) ∧ zX.cell? ⟨w.heap.size, 1, none⟩ = some (.int .u16 5) ∧ True)) => zh.1)
  have GS := hide (fun (zX : World) (zh : (Below w.heap.size w zX ∧ zX.cell? ⟨w.heap.size, 0, none⟩ = some (.int .u32 167772161) ∧ zX.cell? ⟨w.heap.size, 1, none⟩ = some (.int .u16 5) ∧ True)) => zh)
  have hS0 : (Below w.heap.size w (w.alloc (.cells #[.int .u32 167772161, .int .u16 5] 26)) ∧ (w.alloc (.cells #[.int .u32 167772161, .int .u16 5] 26)).cell? ⟨w.heap.size, 0, none⟩ = some (.int .u32 167772161) ∧ (w.alloc (.cells #[.int .u32 167772161, .int .u16 5] 26)).cell? ⟨w.heap.size, 1, none⟩ = some (.int .u16 5) ∧ True) := ⟨(by (repeat' (first | with_reducible exact Below.refl _ _ | with_reducible refine Below.setCell ?_ (by first | exact Nat.le_refl _ | (dsimp only; omega)) _ | with_reducible refine bstep ?_ (fresh_below _ _) | with_reducible refine Below.drew ?_))), d0.at_ 0, d0.at_ 1, trivial⟩
  go_region_held_law (fun w' => (Below w.heap.size w w' ∧ w'.cell? ⟨w.heap.size, 0, none⟩ = some (.int .u32 167772161) ∧ w'.cell? ⟨w.heap.size, 1, none⟩ = some (.int .u16 5) ∧ True)) (first | assumption | exact SK.out _ _ hS0 (Below.refl _ _).drew | exact SK.out _ _ hS0 (fresh_below _ _).drew | exact SK.out _ _ (by assumption) (fresh_below _ _) | (refine SK.out _ _ ?_ (by assumption); assumption))
    (first | (go_at_call 102; (with_reducible refine (C1.out _ (HP.out.below (by first | exact FS.out _ (by assumption) | exact bstep (FS.out _ (by assumption)) (fresh_below _ _) | exact bstep (bstep (FS.out _ (by assumption)) (fresh_below _ _)) (fresh_below _ _)))).mono ?_); rintro e wq ⟨rfl, bq⟩) | (go_at_call 103; (with_reducible refine (C2.out _ (HP.out.below (by first | exact FS.out _ (by assumption) | exact bstep (FS.out _ (by assumption)) (fresh_below _ _) | exact bstep (bstep (FS.out _ (by assumption)) (fresh_below _ _)) (fresh_below _ _)))).mono ?_); rintro e wq ⟨rfl, bq⟩) | (go_at_call 103; (with_reducible refine (C3.out _ (HP.out.below (by first | exact FS.out _ (by assumption) | exact bstep (FS.out _ (by assumption)) (fresh_below _ _) | exact bstep (bstep (FS.out _ (by assumption)) (fresh_below _ _)) (fresh_below _ _)))).mono ?_); rintro e wq ⟨rfl, bq⟩))
  all_goals
    go_wp2
    go_ret
    exact ⟨by first | rfl | (rw [HE.out, HE2.out]) | (simp [HE.out, HE2.out]), (by first | exact FS.out _ (by assumption) | exact bstep (FS.out _ (by assumption)) (fresh_below _ _) | exact bstep (bstep (FS.out _ (by assumption)) (fresh_below _ _)) (fresh_below _ _))⟩

set_option maxRecDepth 100000 in
set_option maxHeartbeats 2000000 in
theorem may_c (w : World) (hW : Words w) : Calls Tryz.prog 53 #[.agg #[.int .u8 17, .int .u32 167772161, .int .u16 5, .int .u32 16909060, .int .u16 53]] w (Ret (.bool true) w) := by
  obtain ⟨b, hb⟩ := (hW.below (fresh_below w (.cells #[.int .u8 17, .int .u32 167772161, .int .u16 5, .int .u32 16909060, .int .u16 53] 33))).at_
  obtain ⟨h1, h2⟩ := hb.look
  have h3 := hb.1
  clear hW hb
  go_enter Tryz.func53, Tryz.ntmps53
  have d0 := Cells.new w #[.int .u8 17, .int .u32 167772161, .int .u16 5, .int .u32 16909060, .int .u16 53] 33
  obtain ⟨xd0_0, xd0_1, xd0_2, xd0_3, xd0_4⟩ := d0.x5
  go_wp2_with fail
  go_ret
  exact ⟨rfl, (by (repeat' (first | with_reducible exact Below.refl _ _ | with_reducible refine Below.setCell ?_ (by first | exact Nat.le_refl _ | (dsimp only; omega)) _ | with_reducible refine bstep ?_ (fresh_below _ _) | with_reducible refine Below.drew ?_)))⟩

set_option maxRecDepth 100000 in
set_option maxHeartbeats 4000000 in
theorem tuple_text2 (w : World) (hT : Tabs w) : Calls Tryz.prog 27 #[.agg #[.int .u8 17, .int .u32 167772161, .int .u16 5, .int .u32 16909060, .int .u16 53]] w (Ret (.string { data := #[117, 100, 112, 32, 49, 48, 46, 48, 46, 48, 46, 49, 58, 53, 32, 49, 46, 50, 46, 51, 46, 52, 58, 53, 51] }) w) := by
  have hj : (⟨(Lib.join (([{ data := #[117, 100, 112] }, { data := #[49, 48, 46, 48, 46, 48, 46, 49, 58, 53] }, { data := #[49, 46, 50, 46, 51, 46, 52, 58, 53, 51] }] : List ByteArray).map (·.data.toList)) ({ data := #[32] } : ByteArray).data.toList).toArray⟩ : ByteArray) = { data := #[117, 100, 112, 32, 49, 48, 46, 48, 46, 48, 46, 49, 58, 53, 32, 49, 46, 50, 46, 51, 46, 52, 58, 53, 51] } := by decide +kernel
  have c4 : ∀ (W : World) (g : Nat), Row W W.heap.size (some ⟨g, 0, none⟩) 3 [.string { data := #[117, 100, 112] }, .string { data := #[49, 48, 46, 48, 46, 48, 46, 49, 58, 53] }, .string { data := #[49, 46, 50, 46, 51, 46, 52, 58, 53, 51] }] → Calls Tryz.prog 54 #[.slice (some ⟨g, 0, none⟩) 3 3, .string { data := #[32] }] W (Ret (.string { data := #[117, 100, 112, 32, 49, 48, 46, 48, 46, 48, 46, 49, 58, 53, 32, 49, 46, 50, 46, 51, 46, 52, 58, 53, 51] }) W) := fun W g hr => by
    obtain ⟨b', o', he, hb, hc⟩ := hr.2 (by omega)
    injection he with he
    injection he with e1 e2 e3
    subst e1; subst e2
    have := Tryz.strings_Join g 0 3 ([{ data := #[117, 100, 112] }, { data := #[49, 48, 46, 48, 46, 48, 46, 49, 58, 53] }, { data := #[49, 46, 50, 46, 51, 46, 52, 58, 53, 51] }]) ({ data := #[32] }) W (fun j x hx => by
      refine hc j _ ?_
      have := congrArg (Option.map Value.string) hx
      rw [← List.getElem?_map] at this
      exact this) hb (by decide) (Nat.le_refl _) (by decide +kernel)
    rw [hj] at this
    exact this
  have c1 := fun W (h : Words W) => may_c W h
  have c2 := fun W (h : Pow W) => point_c W h
  have c3 := fun W (h : Pow W) => point_b W h
  obtain ⟨b, hb⟩ := hT.2.1.at_
  obtain ⟨-, hWo, hPo⟩ := hT
  have HW := hide hWo; have HPO := hide hPo; have HB := hide hb; have C1 := hide c1; have C2 := hide c2; have C3 := hide c3; have C4 := hide c4
  clear hWo hPo hb c1 c2 c3 c4 hj
  go_enter Tryz.func27, Tryz.ntmps27
  have d0 := Cells.new w #[.int .u8 17, .int .u32 167772161, .int .u16 5, .int .u32 16909060, .int .u16 53] 33
  obtain ⟨xd0_0, xd0_1, xd0_2, xd0_3, xd0_4⟩ := d0.x5
  go_wp2_with fail
  (with_reducible refine (C1.out _ (HW.out.below (fresh_below _ _))).mono ?_)
  rintro e w1 ⟨rfl, b1⟩
  have d1 := Cells.below b1 d0
  replace b1 : Below w.heap.size w w1 := bstep (fresh_below _ _) b1
  have hw1 := HB.out.below b1
  clear xd0_0 xd0_1 xd0_2 xd0_3 xd0_4 d0
  go_wp2_with fail
  have SK := hide (fun (zX zY : World) (zh : (Below w.heap.size w zX ∧ World.cell? zX ⟨w.heap.size, 0, none⟩ = some (.int .u8 17) ∧ World.cell? zX ⟨w.heap.size, 1, none⟩ = some (.int .u32 167772161) ∧ World.cell? zX ⟨w.heap.size, 2, none⟩ = some (.int .u16 5) ∧ World.cell? zX ⟨w.heap.size, 3, none⟩ = some (.int .u32 16909060) ∧ World.cell? zX ⟨w.heap.size, 4, none⟩ = some (.int .u16 53) ∧ World.cell? zX ⟨1, 0, none⟩ = some (.map (some b)) ∧ (Instr.lookup 116 (.map (some b)) (.int .u8 17) false).run Tryz.prog zX = .ok (.string { data := #[117, 100, 112] }) zX ∧ WordsAt b zX ∧ True)) (zb : Below zX.heap.size zX zY) => (show (Below w.heap.size w zY ∧ World.cell? zY ⟨w.heap.size, 0, none⟩ = some (.int .u8 17) ∧ World.cell? zY ⟨w.heap.size, 1, none⟩ = some (.int .u32 167772161) ∧ World.cell? zY ⟨w.heap.size, 2, none⟩ = some (.int .u16 5) ∧ World.cell? zY ⟨w.heap.size, 3, none⟩ = some (.int .u32 16909060) ∧ World.cell? zY ⟨w.heap.size, 4, none⟩ = some (.int .u16 53) ∧ World.cell? zY ⟨1, 0, none⟩ = some (.map (some b)) ∧ (Instr.lookup 116 (.map (some b)) (.int .u8 17) false).run Tryz.prog zY = .ok (.string { data := #[117, 100, 112] }) zY ∧ WordsAt b zY ∧ True) from ⟨bstep zh.1 zb, cellAt zb zh.2.1, cellAt zb zh.2.2.1, cellAt zb zh.2.2.2.1, cellAt zb zh.2.2.2.2.1, cellAt zb zh.2.2.2.2.2.1, cellAt zb zh.2.2.2.2.2.2.1, (zh.2.2.2.2.2.2.2.2.1.below zb).look.1, zh.2.2.2.2.2.2.2.2.1.below zb, trivial⟩))
  have hS0 : (Below w.heap.size w w1 ∧ World.cell? w1 ⟨w.heap.size, 0, none⟩ = some (.int .u8 17) ∧ World.cell? w1 ⟨w.heap.size, 1, none⟩ = some (.int .u32 167772161) ∧ World.cell? w1 ⟨w.heap.size, 2, none⟩ = some (.int .u16 5) ∧ World.cell? w1 ⟨w.heap.size, 3, none⟩ = some (.int .u32 16909060) ∧ World.cell? w1 ⟨w.heap.size, 4, none⟩ = some (.int .u16 53) ∧ World.cell? w1 ⟨1, 0, none⟩ = some (.map (some b)) ∧ (Instr.lookup 116 (.map (some b)) (.int .u8 17) false).run Tryz.prog w1 = .ok (.string { data := #[117, 100, 112] }) w1 ∧ WordsAt b w1 ∧ True) := ⟨b1, d1.at_ 0, d1.at_ 1, d1.at_ 2, d1.at_ 3, d1.at_ 4, hw1.1, hw1.look.1, hw1, trivial⟩
  have FS := hide (fun (zX : World) (zh : (Below w.heap.size w zX ∧ World.cell? zX ⟨w.heap.size, 0, none⟩ = some (.int .u8 17) ∧ World.cell? zX ⟨w.heap.size, 1, none⟩ = some (.int .u32 167772161) ∧ World.cell? zX ⟨w.heap.size, 2, none⟩ = some (.int .u16 5) ∧ World.cell? zX ⟨w.heap.size, 3, none⟩ = some (.int .u32 16909060) ∧ World.cell? zX ⟨w.heap.size, 4, none⟩ = some (.int .u16 53) ∧ World.cell? zX ⟨1, 0, none⟩ = some (.map (some b)) ∧ (Instr.lookup 116 (.map (some b)) (.int .u8 17) false).run Tryz.prog zX = .ok (.string { data := #[117, 100, 112] }) zX ∧ WordsAt b zX ∧ True)) => zh.1)
  go_region_held_law (fun w' => (Below w.heap.size w w' ∧ World.cell? w' ⟨w.heap.size, 0, none⟩ = some (.int .u8 17) ∧ World.cell? w' ⟨w.heap.size, 1, none⟩ = some (.int .u32 167772161) ∧ World.cell? w' ⟨w.heap.size, 2, none⟩ = some (.int .u16 5) ∧ World.cell? w' ⟨w.heap.size, 3, none⟩ = some (.int .u32 16909060) ∧ World.cell? w' ⟨w.heap.size, 4, none⟩ = some (.int .u16 53) ∧ World.cell? w' ⟨1, 0, none⟩ = some (.map (some b)) ∧ (Instr.lookup 116 (.map (some b)) (.int .u8 17) false).run Tryz.prog w' = .ok (.string { data := #[117, 100, 112] }) w' ∧ WordsAt b w' ∧ True)) (first | assumption | exact SK.out _ _ hS0 (Below.refl _ _).drew | exact SK.out _ _ hS0 (fresh_below _ _).drew | exact SK.out _ _ (by assumption) (fresh_below _ _) | (refine SK.out _ _ ?_ (by assumption); assumption))
    (first | (go_at_call 55; (with_reducible refine (C2.out _ (HPO.out.below (by first | exact FS.out _ (by assumption) | exact bstep (FS.out _ (by assumption)) (fresh_below _ _) | exact bstep (bstep (FS.out _ (by assumption)) (fresh_below _ _)) (fresh_below _ _)))).mono ?_); rintro e wq ⟨rfl, bq⟩) | (go_at_call 55; (with_reducible refine (C3.out _ (HPO.out.below (by first | exact FS.out _ (by assumption) | exact bstep (FS.out _ (by assumption)) (fresh_below _ _) | exact bstep (bstep (FS.out _ (by assumption)) (fresh_below _ _)) (fresh_below _ _)))).mono ?_); rintro e wq ⟨rfl, bq⟩) | (go_at_call 54; (with_reducible refine Calls.mono (C4.out _ _ ?_) ?_); (focus ((repeat' (first | with_reducible refine Row.afterdraw ?_ | with_reducible exact Row.freshAt _ _ _ _ _ _ (by first | (simp; done) | fail) rfl rfl | (with_reducible refine Row.rise ?_ (fresh_below _ _)) | (with_reducible refine Row.rise ?_ (by with_reducible assumption)))); (first | done | fail))); rintro e wq ⟨rfl, bq⟩))
  all_goals
    go_wp2
    go_ret
    exact ⟨rfl, (by first | exact FS.out _ (by assumption) | exact bstep (FS.out _ (by assumption)) (fresh_below _ _) | exact bstep (bstep (FS.out _ (by assumption)) (fresh_below _ _)) (fresh_below _ _))⟩
end Go.Proofs.YtjeaknipmdfkdaaGreatDoor
end

section
/- The chapter's examples of errors: told, walked. -/
set_option linter.unusedVariables false
set_option linter.unusedSimpArgs false
namespace Go.Proofs.YtjeaknipmdfkdaaGreatDoor
open Go.RowKit Go.Maps
attribute [local go_sem] Oper.semAt_some

theorem Cells.newB {n : Nat} {w W : World} (h : Below n w W) (cs : Array Value) (T : TypeId) : Cells (W.alloc (.cells cs T)) W.heap.size cs T := Cells.new W cs T
theorem ti_s (w : World) (K : Kinds w) : Calls Tryz.prog 9 #[.string { data := #[69, 0, 0, 61, 0, 0, 0, 0, 64, 1, 108, 186, 1, 2, 3, 4, 10, 0, 0, 1, 3, 1, 11, 36, 0, 0, 0, 0, 69, 0, 0, 33, 0, 0, 0, 0, 64, 17, 108, 198, 10, 0, 0, 1, 1, 2, 3, 4, 0, 5, 0, 53, 0, 13, 161, 171, 113, 117, 101, 114, 121] }] w (Ret (.tuple #[.agg #[.int .u8 17, .int .u32 167772161, .int .u16 5, .int .u32 16909060, .int .u16 53], .int .i64 0]) w) := by
  have c := e_Inner w { data := #[69, 0, 0, 61, 0, 0, 0, 0, 64, 1, 108, 186, 1, 2, 3, 4, 10, 0, 0, 1, 3, 1, 11, 36, 0, 0, 0, 0, 69, 0, 0, 33, 0, 0, 0, 0, 64, 17, 108, 198, 10, 0, 0, 1, 1, 2, 3, 4, 0, 5, 0, 53, 0, 13, 161, 171, 113, 117, 101, 114, 121] } K (by decide)
  rw [told_s.2, told_s.1] at c
  exact c
theorem ti_u (w : World) (K : Kinds w) : Calls Tryz.prog 9 #[.string { data := #[69, 0, 0, 61, 0, 0, 0, 0, 63, 1, 107, 173, 1, 2, 3, 4, 5, 6, 7, 8, 3, 1, 13, 49, 0, 0, 0, 0, 69, 0, 0, 33, 0, 0, 0, 0, 64, 17, 106, 185, 5, 6, 7, 8, 1, 2, 3, 4, 35, 40, 0, 53, 0, 13, 124, 123, 113, 117, 101, 114, 121] }] w (Ret (.tuple #[.agg #[.int .u8 17, .int .u32 84281096, .int .u16 9000, .int .u32 16909060, .int .u16 53], .int .i64 0]) w) := by
  have c := e_Inner w { data := #[69, 0, 0, 61, 0, 0, 0, 0, 63, 1, 107, 173, 1, 2, 3, 4, 5, 6, 7, 8, 3, 1, 13, 49, 0, 0, 0, 0, 69, 0, 0, 33, 0, 0, 0, 0, 64, 17, 106, 185, 5, 6, 7, 8, 1, 2, 3, 4, 35, 40, 0, 53, 0, 13, 124, 123, 113, 117, 101, 114, 121] } K (by decide)
  rw [told_u.2, told_u.1] at c
  exact c
theorem ti_h (w : World) (K : Kinds w) : Calls Tryz.prog 9 #[.string { data := #[69, 0, 0, 55, 0, 0, 0, 0, 64, 1, 108, 192, 1, 2, 3, 4, 10, 0, 0, 1, 3, 1, 91, 183, 0, 0, 0, 0, 69, 0, 0, 33, 0, 0, 0, 0, 64, 17, 108, 198, 10, 0, 0, 1, 1, 2, 3, 4, 0, 5, 0, 53, 0, 13, 161] }] w (Ret (.tuple #[.agg #[.int .u8 0, .int .u32 0, .int .u16 0, .int .u32 0, .int .u16 0], .int .i64 15]) w) := by
  have c := e_Inner w { data := #[69, 0, 0, 55, 0, 0, 0, 0, 64, 1, 108, 192, 1, 2, 3, 4, 10, 0, 0, 1, 3, 1, 91, 183, 0, 0, 0, 0, 69, 0, 0, 33, 0, 0, 0, 0, 64, 17, 108, 198, 10, 0, 0, 1, 1, 2, 3, 4, 0, 5, 0, 53, 0, 13, 161] } K (by decide)
  have e : inTup { data := #[69, 0, 0, 55, 0, 0, 0, 0, 64, 1, 108, 192, 1, 2, 3, 4, 10, 0, 0, 1, 3, 1, 91, 183, 0, 0, 0, 0, 69, 0, 0, 33, 0, 0, 0, 0, 64, 17, 108, 198, 10, 0, 0, 1, 1, 2, 3, 4, 0, 5, 0, 53, 0, 13, 161] } = ⟨0, 0, 0, 0, 0⟩ := by unfold inTup; rw [told_h, if_neg (by decide)]
  rw [e, told_h] at c
  exact c
theorem ti_i (w : World) (K : Kinds w) : Calls Tryz.prog 9 #[.string { data := #[69, 0, 0, 33, 0, 0, 0, 0, 64, 17, 108, 198, 10, 0, 0, 1, 1, 2, 3, 4, 0, 5, 0, 53, 0, 13, 161, 171, 113, 117, 101, 114, 121] }] w (Ret (.tuple #[.agg #[.int .u8 0, .int .u32 0, .int .u16 0, .int .u32 0, .int .u16 0], .int .i64 15]) w) := by
  have c := e_Inner w { data := #[69, 0, 0, 33, 0, 0, 0, 0, 64, 17, 108, 198, 10, 0, 0, 1, 1, 2, 3, 4, 0, 5, 0, 53, 0, 13, 161, 171, 113, 117, 101, 114, 121] } K (by decide)
  have e : inTup { data := #[69, 0, 0, 33, 0, 0, 0, 0, 64, 17, 108, 198, 10, 0, 0, 1, 1, 2, 3, 4, 0, 5, 0, 53, 0, 13, 161, 171, 113, 117, 101, 114, 121] } = ⟨0, 0, 0, 0, 0⟩ := by unfold inTup; rw [told_i, if_neg (by decide)]
  rw [e, told_i] at c
  exact c
theorem ti_j (w : World) (K : Kinds w) : Calls Tryz.prog 9 #[.string { data := #[69, 0, 0, 89, 0, 0, 0, 0, 64, 1, 108, 158, 1, 2, 3, 4, 10, 0, 0, 1, 3, 1, 252, 254, 0, 0, 0, 0, 69, 0, 0, 61, 0, 0, 0, 0, 64, 1, 108, 186, 1, 2, 3, 4, 10, 0, 0, 1, 3, 1, 11, 36, 0, 0, 0, 0, 69, 0, 0, 33, 0, 0, 0, 0, 64, 17, 108, 198, 10, 0, 0, 1, 1, 2, 3, 4, 0, 5, 0, 53, 0, 13, 161, 171, 113, 117, 101, 114, 121] }] w (Ret (.tuple #[.agg #[.int .u8 0, .int .u32 0, .int .u16 0, .int .u32 0, .int .u16 0], .int .i64 15]) w) := by
  have c := e_Inner w { data := #[69, 0, 0, 89, 0, 0, 0, 0, 64, 1, 108, 158, 1, 2, 3, 4, 10, 0, 0, 1, 3, 1, 252, 254, 0, 0, 0, 0, 69, 0, 0, 61, 0, 0, 0, 0, 64, 1, 108, 186, 1, 2, 3, 4, 10, 0, 0, 1, 3, 1, 11, 36, 0, 0, 0, 0, 69, 0, 0, 33, 0, 0, 0, 0, 64, 17, 108, 198, 10, 0, 0, 1, 1, 2, 3, 4, 0, 5, 0, 53, 0, 13, 161, 171, 113, 117, 101, 114, 121] } K (by decide)
  have e : inTup { data := #[69, 0, 0, 89, 0, 0, 0, 0, 64, 1, 108, 158, 1, 2, 3, 4, 10, 0, 0, 1, 3, 1, 252, 254, 0, 0, 0, 0, 69, 0, 0, 61, 0, 0, 0, 0, 64, 1, 108, 186, 1, 2, 3, 4, 10, 0, 0, 1, 3, 1, 11, 36, 0, 0, 0, 0, 69, 0, 0, 33, 0, 0, 0, 0, 64, 17, 108, 198, 10, 0, 0, 1, 1, 2, 3, 4, 0, 5, 0, 53, 0, 13, 161, 171, 113, 117, 101, 114, 121] } = ⟨0, 0, 0, 0, 0⟩ := by unfold inTup; rw [told_j, if_neg (by decide)]
  rw [e, told_j] at c
  exact c
theorem tr_s (w : World) (K : Kinds w) : Calls Tryz.prog 11 #[.string { data := #[69, 0, 0, 61, 0, 0, 0, 0, 64, 1, 108, 186, 1, 2, 3, 4, 10, 0, 0, 1, 3, 1, 11, 36, 0, 0, 0, 0, 69, 0, 0, 33, 0, 0, 0, 0, 64, 17, 108, 198, 10, 0, 0, 1, 1, 2, 3, 4, 0, 5, 0, 53, 0, 13, 161, 171, 113, 117, 101, 114, 121] }, .agg #[.int .u32 16909060, .int .u16 0, .int .u32 84281096, .int .u16 0], .agg #[.int .u32 84281096, .int .u16 9000, .int .u32 16909060, .int .u16 53]] w (Ret (.tuple #[.string { data := #[69, 0, 0, 61, 0, 0, 0, 0, 63, 1, 107, 173, 1, 2, 3, 4, 5, 6, 7, 8, 3, 1, 13, 49, 0, 0, 0, 0, 69, 0, 0, 33, 0, 0, 0, 0, 64, 17, 106, 185, 5, 6, 7, 8, 1, 2, 3, 4, 35, 40, 0, 53, 0, 13, 124, 123, 113, 117, 101, 114, 121] }, .int .i64 0]) w) := by
  have c := e_Translate 16909060 0 84281096 0 84281096 9000 16909060 53 { data := #[69, 0, 0, 61, 0, 0, 0, 0, 64, 1, 108, 186, 1, 2, 3, 4, 10, 0, 0, 1, 3, 1, 11, 36, 0, 0, 0, 0, 69, 0, 0, 33, 0, 0, 0, 0, 64, 17, 108, 198, 10, 0, 0, 1, 1, 2, 3, 4, 0, 5, 0, 53, 0, 13, 161, 171, 113, 117, 101, 114, 121] } w K (by decide) (by decide) (by decide) (by decide) (by decide) (by decide) (by decide) (by decide) (by decide)
  rw [told_t.2, told_t.1] at c
  exact c
set_option maxRecDepth 100000 in
set_option maxHeartbeats 8000000 in
theorem tolds (w : World) (hTb : Tabs w) : Calls Tryz.prog 8 #[] w (Ret (.bool true) w) := by
  have KK := hide (show Kinds w from hTb.1); have TB := hide hTb
  have M0 := hide tl_made; have S0 := hide tl_s; have SH := hide tl_h; have SJ := hide tl_j
  have IS := hide ti_s; have IU := hide ti_u; have IH := hide ti_h; have II := hide ti_i; have IJ := hide ti_j; have TR := hide tr_s
  have TX := hide tuple_text; have TX2 := hide tuple_text2
  clear hTb
  go_enter Tryz.func8, Tryz.ntmps8
  have d1 := Cells.new w #[.int .u32 167772161, .int .u16 5] 26
  replace d1 := Cells.below (fresh_below (w.alloc (.cells #[.int .u32 167772161, .int .u16 5] 26)) (.cells #[.int .u32 16909060, .int .u16 53] 26)) d1
  have d2 := Cells.new (w.alloc (.cells #[.int .u32 167772161, .int .u16 5] 26)) #[.int .u32 16909060, .int .u16 53] 26
  have l0 : Below w.heap.size w ((w.alloc (.cells #[.int .u32 167772161, .int .u16 5] 26)).alloc (.cells #[.int .u32 16909060, .int .u16 53] 26)) := (bstep (fresh_below _ _) (fresh_below _ _))
  simp only [World.size_alloc] at d2
  have L0 := hide l0; have D1 := hide d1; have D2 := hide d2
  clear l0 d1 d2
  go_upto_region 2 with fail
  have l0 := L0.out; have d1 := D1.out; have d2 := D2.out
  clear L0 D1 D2
  generalize ((w.alloc (.cells #[.int .u32 167772161, .int .u16 5] 26)).alloc (.cells #[.int .u32 16909060, .int .u16 53] 26)) = wa at *
  have qd1_0 : ∀ W', Below wa.heap.size wa W' → World.cell? W' ⟨w.heap.size, 0, none⟩ = some (.int .u32 167772161) := fun W' h => Cells.at_ (Cells.below h d1) 0
  have qd1_1 : ∀ W', Below wa.heap.size wa W' → World.cell? W' ⟨w.heap.size, 1, none⟩ = some (.int .u16 5) := fun W' h => Cells.at_ (Cells.below h d1) 1
  have qd2_0 : ∀ W', Below wa.heap.size wa W' → World.cell? W' ⟨w.heap.size + 1, 0, none⟩ = some (.int .u32 16909060) := fun W' h => Cells.at_ (Cells.below h d2) 0
  have qd2_1 : ∀ W', Below wa.heap.size wa W' → World.cell? W' ⟨w.heap.size + 1, 1, none⟩ = some (.int .u16 53) := fun W' h => Cells.at_ (Cells.below h d2) 1
  have bb : Below wa.heap.size wa wa := Below.refl _ _
  have L0 := hide l0; have D1 := hide d1; have D2 := hide d2
  clear l0 d1 d2
  clear bb qd1_0 qd1_1 qd2_0 qd2_1
  have ud1 := D1.out
  have xud1_0 : wa.cell? ⟨w.heap.size, 0, none⟩ = some (.int .u32 167772161) := ud1.at_ 0
  have xud1_1 : wa.cell? ⟨w.heap.size, 1, none⟩ = some (.int .u16 5) := ud1.at_ 1
  clear ud1
  have ud2 := D2.out
  have xud2_0 : wa.cell? ⟨w.heap.size + 1, 0, none⟩ = some (.int .u32 16909060) := ud2.at_ 0
  have xud2_1 : wa.cell? ⟨w.heap.size + 1, 1, none⟩ = some (.int .u16 53) := ud2.at_ 1
  clear ud2
  go_upto_region 3 with (go_at_call 25; (with_reducible refine (M0.out _).mono ?_); rintro e2 w2 ⟨rfl, b2⟩)
  clear xud1_0 xud1_1 xud2_0 xud2_1
  have bn := b2
  replace D1 := hide (Cells.below bn D1.out)
  replace D2 := hide (Cells.below bn D2.out)
  replace L0 := hide (bstep L0.out bn)
  clear bn b2
  generalize w2 = wb at *
  have ud1 := D1.out
  have xud1_0 : wb.cell? ⟨w.heap.size, 0, none⟩ = some (.int .u32 167772161) := ud1.at_ 0
  have xud1_1 : wb.cell? ⟨w.heap.size, 1, none⟩ = some (.int .u16 5) := ud1.at_ 1
  clear ud1
  have ud2 := D2.out
  have xud2_0 : wb.cell? ⟨w.heap.size + 1, 0, none⟩ = some (.int .u32 16909060) := ud2.at_ 0
  have xud2_1 : wb.cell? ⟨w.heap.size + 1, 1, none⟩ = some (.int .u16 53) := ud2.at_ 1
  clear ud2
  go_upto_region 4 with (go_at_call 26; (with_reducible refine (S0.out _).mono ?_); rintro e2 w2 ⟨rfl, b2⟩)
  clear xud1_0 xud1_1 xud2_0 xud2_1
  have bn := b2
  replace D1 := hide (Cells.below bn D1.out)
  replace D2 := hide (Cells.below bn D2.out)
  replace L0 := hide (bstep L0.out bn)
  clear bn b2
  generalize w2 = wc at *
  go_upto_region 5 with (go_at_call 9; (with_reducible refine (IS.out _ (KK.out.below L0.out)).mono ?_); rintro e2 w2 ⟨rfl, b2⟩)
  have nn := Cells.new w2 #[.int .u8 17, .int .u32 167772161, .int .u16 5, .int .u32 16909060, .int .u16 53] 33
  have bn : Below wc.heap.size wc (w2.alloc (.cells #[.int .u8 17, .int .u32 167772161, .int .u16 5, .int .u32 16909060, .int .u16 53] 33)) := bstep b2 (fresh_below _ _)
  replace D1 := hide (Cells.below bn D1.out)
  replace D2 := hide (Cells.below bn D2.out)
  replace L0 := hide (bstep L0.out bn)
  clear bn b2
  generalize w2.heap.size = g5 at nn ⊢
  generalize (w2.alloc (.cells #[.int .u8 17, .int .u32 167772161, .int .u16 5, .int .u32 16909060, .int .u16 53] 33)) = wd at *
  have kg5 := Cells.lt nn
  have D5 := hide nn
  clear nn
  have ud2 := D2.out
  have xud2_0 : wd.cell? ⟨w.heap.size + 1, 0, none⟩ = some (.int .u32 16909060) := ud2.at_ 0
  have xud2_1 : wd.cell? ⟨w.heap.size + 1, 1, none⟩ = some (.int .u16 53) := ud2.at_ 1
  clear ud2
  go_upto_region 6 with fail
  clear xud2_0 xud2_1
  have nn := Cells.new wd #[.int .u32 84281096, .int .u16 9000, .int .u32 16909060, .int .u16 53] 28
  have bn : Below wd.heap.size wd (wd.alloc (.cells #[.int .u32 84281096, .int .u16 9000, .int .u32 16909060, .int .u16 53] 28)) := fresh_below _ _
  replace D1 := hide (Cells.below bn D1.out)
  replace D2 := hide (Cells.below bn D2.out)
  replace D5 := hide (Cells.below bn D5.out)
  replace L0 := hide (bstep L0.out bn)
  clear bn
  generalize wd.heap.size = g7 at nn ⊢
  generalize (wd.alloc (.cells #[.int .u32 84281096, .int .u16 9000, .int .u32 16909060, .int .u16 53] 28)) = we at *
  have kg7 := Cells.lt nn
  have D7 := hide nn
  clear nn
  have ud2 := D2.out
  have xud2_0 : we.cell? ⟨w.heap.size + 1, 0, none⟩ = some (.int .u32 16909060) := ud2.at_ 0
  have xud2_1 : we.cell? ⟨w.heap.size + 1, 1, none⟩ = some (.int .u16 53) := ud2.at_ 1
  clear ud2
  go_upto_region 7 with fail
  clear xud2_0 xud2_1
  have nn := Cells.new we #[.int .u32 16909060, .int .u16 0, .int .u32 84281096, .int .u16 0] 28
  have bn : Below we.heap.size we (we.alloc (.cells #[.int .u32 16909060, .int .u16 0, .int .u32 84281096, .int .u16 0] 28)) := fresh_below _ _
  replace D1 := hide (Cells.below bn D1.out)
  replace D2 := hide (Cells.below bn D2.out)
  replace D5 := hide (Cells.below bn D5.out)
  replace D7 := hide (Cells.below bn D7.out)
  replace L0 := hide (bstep L0.out bn)
  clear bn
  generalize we.heap.size = g8 at nn ⊢
  generalize (we.alloc (.cells #[.int .u32 16909060, .int .u16 0, .int .u32 84281096, .int .u16 0] 28)) = wf at *
  have kg8 := Cells.lt nn
  have D8 := hide nn
  clear nn
  have ud7 := D7.out
  obtain ⟨xud7_0, xud7_1, xud7_2, xud7_3⟩ := ud7.x4
  clear ud7
  have ud8 := D8.out
  obtain ⟨xud8_0, xud8_1, xud8_2, xud8_3⟩ := ud8.x4
  clear ud8
  go_upto_region 8 with (go_at_call 11; (with_reducible refine (TR.out _ (KK.out.below L0.out)).mono ?_); rintro e2 w2 ⟨rfl, b2⟩)
  clear xud7_0 xud7_1 xud7_2 xud7_3 xud8_0 xud8_1 xud8_2 xud8_3
  have bn := b2
  replace D1 := hide (Cells.below bn D1.out)
  replace D2 := hide (Cells.below bn D2.out)
  replace D5 := hide (Cells.below bn D5.out)
  replace L0 := hide (bstep L0.out bn)
  clear bn b2
  generalize w2 = wg at *
  go_upto_region 9 with (go_at_call 9; (with_reducible refine (IU.out _ (KK.out.below L0.out)).mono ?_); rintro e2 w2 ⟨rfl, b2⟩)
  have nn := Cells.new w2 #[.int .u8 17, .int .u32 84281096, .int .u16 9000, .int .u32 16909060, .int .u16 53] 33
  have bn : Below wg.heap.size wg (w2.alloc (.cells #[.int .u8 17, .int .u32 84281096, .int .u16 9000, .int .u32 16909060, .int .u16 53] 33)) := bstep b2 (fresh_below _ _)
  replace D1 := hide (Cells.below bn D1.out)
  replace D2 := hide (Cells.below bn D2.out)
  replace D5 := hide (Cells.below bn D5.out)
  replace L0 := hide (bstep L0.out bn)
  clear bn b2
  generalize w2.heap.size = g9 at nn ⊢
  generalize (w2.alloc (.cells #[.int .u8 17, .int .u32 84281096, .int .u16 9000, .int .u32 16909060, .int .u16 53] 33)) = wh at *
  have kg9 := Cells.lt nn
  have D9 := hide nn
  clear nn
  have d1 := D1.out; have d2 := D2.out; have l0 := L0.out
  have y10 : ∀ W, Below wh.heap.size wh W → W.cell? ⟨w.heap.size, 0, none⟩ = some (.int .u32 167772161) := fun W h => (Cells.below h d1).at_ 0
  have y20 : ∀ W, Below wh.heap.size wh W → W.cell? ⟨w.heap.size + 1, 0, none⟩ = some (.int .u32 16909060) := fun W h => (Cells.below h d2).at_ 0
  have sA : Below wh.heap.size wh wh.drew := Below.drew (Below.refl _ _)
  clear d1 d2 l0
  have hx27 : ({ data := #[69, 0, 0, 33, 0, 0, 0, 0, 64, 17, 108, 198, 10, 0, 0, 1, 1, 2, 3, 4, 0, 5, 0, 53, 0, 13, 161, 171, 113, 117, 101, 114, 121] } : ByteArray).extract 0 27 = { data := #[69, 0, 0, 33, 0, 0, 0, 0, 64, 17, 108, 198, 10, 0, 0, 1, 1, 2, 3, 4, 0, 5, 0, 53, 0, 13, 161] } := by kernel_rfl
  have HX := hide hx27
  clear hx27
  focus
    refine wp_region_J [] (fun W => Below wh.heap.size wh W) (by kernel_rfl) (sA) (fun hS0 => ?_)
    refine tJ 0 rfl hS0 ?_
    (try simp only [Act.put, putS])
    refine tJ 1 rfl hS0 ?_
    (try simp only [Act.put, putS])
    refine tJ 2 rfl hS0 ?_
    (try simp only [Act.put, putS])
    refine tJ 3 rfl hS0 ?_
    (try simp only [Act.put, putS])
    refine tJ 4 rfl hS0 ?_
    (try simp only [Act.put, putS])
    refine tJ 5 rfl hS0 ?_
    (try simp only [Act.put, putS])
    refine rJ [6, 11] ?_
    refine (AllReadyJ.cons rfl (fun K hK => ?_) (AllReadyJ.cons rfl (fun K hK => ?_) AllReadyJ.nil))
    rw [if_pos (by kernel_rfl)]
    (try simp only [putG])
    (focus go_simp)
    (focus ((try dsimp only); (try rw [HX.out]); (with_reducible refine (SH.out _).mono ?_); rintro e wi ⟨rfl, ba⟩; have sq := bstep hS0 ba; (try replace dz := Cells.below ba dz)))
    (focus (try go_wp2_with fail))
    refine hK.out _ _ ?hs (fun hS0 => ?_)
    case hs => (first | with_reducible exact hS0 | with_reducible exact sq | with_reducible exact bstep hS0 (fresh_below _ _) | (repeat' (first | with_reducible exact hS0 | with_reducible refine Below.setCell ?_ (by first | exact zz | (dsimp only; omega)) _)))
    clear hK K
    (try simp only [Act.put, putS])
    refine rJ [7, 11] ?_
    refine (AllReadyJ.cons rfl (fun K hK => ?_) (AllReadyJ.cons rfl (fun K hK => ?_) AllReadyJ.nil))
    rw [if_pos (by kernel_rfl)]
    (try simp only [putG])
    (focus go_simp)
    (focus ((with_reducible refine (IH.out _ (KK.out.below (bstep L0.out hS0))).mono ?_); rintro e wj ⟨rfl, ba⟩; have sq := bstep hS0 ba; (try replace dz := Cells.below ba dz)))
    (focus (try go_wp2_with fail))
    refine hK.out _ _ ?hs (fun hS0 => ?_)
    case hs => (first | with_reducible exact hS0 | with_reducible exact sq | with_reducible exact bstep hS0 (fresh_below _ _) | (repeat' (first | with_reducible exact hS0 | with_reducible refine Below.setCell ?_ (by first | exact zz | (dsimp only; omega)) _)))
    clear hK K
    (try simp only [Act.put, putS])
    refine tJ 8 rfl hS0 ?_
    (try simp only [Act.put, putS])
    refine tJ 9 rfl hS0 ?_
    (try simp only [Act.put, putS])
    refine tJ 10 rfl hS0 ?_
    (try simp only [Act.put, putS])
    refine rJ [11] ?_
    refine (AllReadyJ.cons rfl (fun K hK => ?_) AllReadyJ.nil)
    (focus (rw [if_pos (by kernel_rfl)]; (try simp only [putG]); (focus go_simp); have dz := Cells.newB hS0 #[.int .u8 0, .int .u32 0, .int .u16 0, .int .u32 0, .int .u16 0] 33; have zz := Below.size hS0; (try rw [show wh.drew.heap.size = wh.heap.size from rfl] at dz)))
    (focus (try go_wp2_with fail))
    refine hK.out _ _ ?hs (fun hS0 => ?_)
    case hs => (first | with_reducible exact hS0 | with_reducible exact sq | with_reducible exact bstep hS0 (fresh_below _ _) | (repeat' (first | with_reducible exact hS0 | with_reducible refine Below.setCell ?_ (by first | exact zz | (dsimp only; omega)) _)))
    clear hK K
    (try simp only [Act.put, putS])
    refine rJ [12] ?_
    refine (AllReadyJ.cons rfl (fun K hK => ?_) AllReadyJ.nil)
    (focus (rw [if_pos (by kernel_rfl)]; (try simp only [putG]); have x0 : World.cell? _ ⟨_, 0, none⟩ = some (.int .u8 0) := dz.at_ 0; have f0 := dz.free 0; have x1 : World.cell? _ ⟨_, 1, none⟩ = some (.int .u32 0) := dz.at_ 1; have f1 := dz.free 1; have x2 : World.cell? _ ⟨_, 2, none⟩ = some (.int .u16 0) := dz.at_ 2; have f2 := dz.free 2; have x3 : World.cell? _ ⟨_, 3, none⟩ = some (.int .u32 0) := dz.at_ 3; have f3 := dz.free 3; have x4 : World.cell? _ ⟨_, 4, none⟩ = some (.int .u16 0) := dz.at_ 4; have f4 := dz.free 4; (focus go_simp); clear x0 x1 x2 x3 x4 f0 f1 f2 f3 f4))
    (focus (try go_wp2_with fail))
    refine hK.out _ _ ?hs (fun hS0 => ?_)
    case hs => (first | with_reducible exact hS0 | with_reducible exact sq | with_reducible exact bstep hS0 (fresh_below _ _) | (repeat' (first | with_reducible exact hS0 | with_reducible refine Below.setCell ?_ (by first | exact zz | (dsimp only; omega)) _)))
    clear hK K
    (try simp only [Act.put, putS])
    refine tJ 13 rfl hS0 ?_
    (try simp only [Act.put, putS])
    refine wpAnyJ_done (by kernel_rfl) ?_ _
    rotate_left 1
    (focus (rw [if_pos (by kernel_rfl)]; (try simp only [putG]); (focus go_simp); have dz := Cells.newB hS0 #[.int .u8 0, .int .u32 0, .int .u16 0, .int .u32 0, .int .u16 0] 33; have zz := Below.size hS0; (try rw [show wh.drew.heap.size = wh.heap.size from rfl] at dz)))
    (focus (try go_wp2_with fail))
    refine hK.out _ _ ?hs (fun hS0 => ?_)
    case hs => (first | with_reducible exact hS0 | with_reducible exact sq | with_reducible exact bstep hS0 (fresh_below _ _) | (repeat' (first | with_reducible exact hS0 | with_reducible refine Below.setCell ?_ (by first | exact zz | (dsimp only; omega)) _)))
    clear hK K
    (try simp only [Act.put, putS])
    refine rJ [7] ?_
    refine (AllReadyJ.cons rfl (fun K hK => ?_) AllReadyJ.nil)
    rw [if_pos (by kernel_rfl)]
    (try simp only [putG])
    (focus go_simp)
    (focus ((with_reducible refine (IH.out _ (KK.out.below (bstep L0.out hS0))).mono ?_); rintro e wj ⟨rfl, ba⟩; have sq := bstep hS0 ba; (try replace dz := Cells.below ba dz)))
    (focus (try go_wp2_with fail))
    refine hK.out _ _ ?hs (fun hS0 => ?_)
    case hs => (first | with_reducible exact hS0 | with_reducible exact sq | with_reducible exact bstep hS0 (fresh_below _ _) | (repeat' (first | with_reducible exact hS0 | with_reducible refine Below.setCell ?_ (by first | exact zz | (dsimp only; omega)) _)))
    clear hK K
    (try simp only [Act.put, putS])
    refine tJ 8 rfl hS0 ?_
    (try simp only [Act.put, putS])
    refine tJ 9 rfl hS0 ?_
    (try simp only [Act.put, putS])
    refine tJ 10 rfl hS0 ?_
    (try simp only [Act.put, putS])
    refine rJ [12] ?_
    refine (AllReadyJ.cons rfl (fun K hK => ?_) AllReadyJ.nil)
    (focus (rw [if_pos (by kernel_rfl)]; (try simp only [putG]); have x0 : World.cell? _ ⟨_, 0, none⟩ = some (.int .u8 0) := dz.at_ 0; have f0 := dz.free 0; have x1 : World.cell? _ ⟨_, 1, none⟩ = some (.int .u32 0) := dz.at_ 1; have f1 := dz.free 1; have x2 : World.cell? _ ⟨_, 2, none⟩ = some (.int .u16 0) := dz.at_ 2; have f2 := dz.free 2; have x3 : World.cell? _ ⟨_, 3, none⟩ = some (.int .u32 0) := dz.at_ 3; have f3 := dz.free 3; have x4 : World.cell? _ ⟨_, 4, none⟩ = some (.int .u16 0) := dz.at_ 4; have f4 := dz.free 4; (focus go_simp); clear x0 x1 x2 x3 x4 f0 f1 f2 f3 f4))
    (focus (try go_wp2_with fail))
    refine hK.out _ _ ?hs (fun hS0 => ?_)
    case hs => (first | with_reducible exact hS0 | with_reducible exact sq | with_reducible exact bstep hS0 (fresh_below _ _) | (repeat' (first | with_reducible exact hS0 | with_reducible refine Below.setCell ?_ (by first | exact zz | (dsimp only; omega)) _)))
    clear hK K
    (try simp only [Act.put, putS])
    refine tJ 13 rfl hS0 ?_
    (try simp only [Act.put, putS])
    refine wpAnyJ_done (by kernel_rfl) ?_ _
    rotate_left 1
    (focus (rw [if_pos (by kernel_rfl)]; (try simp only [putG]); (focus go_simp); have dz := Cells.newB hS0 #[.int .u8 0, .int .u32 0, .int .u16 0, .int .u32 0, .int .u16 0] 33; have zz := Below.size hS0; (try rw [show wh.drew.heap.size = wh.heap.size from rfl] at dz)))
    (focus (try go_wp2_with fail))
    refine hK.out _ _ ?hs (fun hS0 => ?_)
    case hs => (first | with_reducible exact hS0 | with_reducible exact sq | with_reducible exact bstep hS0 (fresh_below _ _) | (repeat' (first | with_reducible exact hS0 | with_reducible refine Below.setCell ?_ (by first | exact zz | (dsimp only; omega)) _)))
    clear hK K
    (try simp only [Act.put, putS])
    refine rJ [6] ?_
    refine (AllReadyJ.cons rfl (fun K hK => ?_) AllReadyJ.nil)
    rw [if_pos (by kernel_rfl)]
    (try simp only [putG])
    (focus go_simp)
    (focus ((try dsimp only); (try rw [HX.out]); (with_reducible refine (SH.out _).mono ?_); rintro e wi ⟨rfl, ba⟩; have sq := bstep hS0 ba; (try replace dz := Cells.below ba dz)))
    (focus (try go_wp2_with fail))
    refine hK.out _ _ ?hs (fun hS0 => ?_)
    case hs => (first | with_reducible exact hS0 | with_reducible exact sq | with_reducible exact bstep hS0 (fresh_below _ _) | (repeat' (first | with_reducible exact hS0 | with_reducible refine Below.setCell ?_ (by first | exact zz | (dsimp only; omega)) _)))
    clear hK K
    (try simp only [Act.put, putS])
    refine rJ [7] ?_
    refine (AllReadyJ.cons rfl (fun K hK => ?_) AllReadyJ.nil)
    rw [if_pos (by kernel_rfl)]
    (try simp only [putG])
    (focus go_simp)
    (focus ((with_reducible refine (IH.out _ (KK.out.below (bstep L0.out hS0))).mono ?_); rintro e wj ⟨rfl, ba⟩; have sq := bstep hS0 ba; (try replace dz := Cells.below ba dz)))
    (focus (try go_wp2_with fail))
    refine hK.out _ _ ?hs (fun hS0 => ?_)
    case hs => (first | with_reducible exact hS0 | with_reducible exact sq | with_reducible exact bstep hS0 (fresh_below _ _) | (repeat' (first | with_reducible exact hS0 | with_reducible refine Below.setCell ?_ (by first | exact zz | (dsimp only; omega)) _)))
    clear hK K
    (try simp only [Act.put, putS])
    refine tJ 8 rfl hS0 ?_
    (try simp only [Act.put, putS])
    refine tJ 9 rfl hS0 ?_
    (try simp only [Act.put, putS])
    refine tJ 10 rfl hS0 ?_
    (try simp only [Act.put, putS])
    refine rJ [12] ?_
    refine (AllReadyJ.cons rfl (fun K hK => ?_) AllReadyJ.nil)
    (focus (rw [if_pos (by kernel_rfl)]; (try simp only [putG]); have x0 : World.cell? _ ⟨_, 0, none⟩ = some (.int .u8 0) := dz.at_ 0; have f0 := dz.free 0; have x1 : World.cell? _ ⟨_, 1, none⟩ = some (.int .u32 0) := dz.at_ 1; have f1 := dz.free 1; have x2 : World.cell? _ ⟨_, 2, none⟩ = some (.int .u16 0) := dz.at_ 2; have f2 := dz.free 2; have x3 : World.cell? _ ⟨_, 3, none⟩ = some (.int .u32 0) := dz.at_ 3; have f3 := dz.free 3; have x4 : World.cell? _ ⟨_, 4, none⟩ = some (.int .u16 0) := dz.at_ 4; have f4 := dz.free 4; (focus go_simp); clear x0 x1 x2 x3 x4 f0 f1 f2 f3 f4))
    (focus (try go_wp2_with fail))
    refine hK.out _ _ ?hs (fun hS0 => ?_)
    case hs => (first | with_reducible exact hS0 | with_reducible exact sq | with_reducible exact bstep hS0 (fresh_below _ _) | (repeat' (first | with_reducible exact hS0 | with_reducible refine Below.setCell ?_ (by first | exact zz | (dsimp only; omega)) _)))
    clear hK K
    (try simp only [Act.put, putS])
    refine tJ 13 rfl hS0 ?_
    (try simp only [Act.put, putS])
    refine wpAnyJ_done (by kernel_rfl) ?_ _
    rotate_left 1
  all_goals
    have d5 := D5.out; have d9 := D9.out
    obtain ⟨qd5_0, qd5_1, qd5_2, qd5_3, qd5_4⟩ := d5.q5
    obtain ⟨qd9_0, qd9_1, qd9_2, qd9_3, qd9_4⟩ := d9.q5
    clear d5 d9
    go_wp2_with (first | (go_at_call 9; (with_reducible refine (II.out _ (KK.out.below (bstep L0.out (by assumption)))).mono ?_); rintro ek wk ⟨rfl, bk⟩; have bk' := bstep (by assumption : Below wh.heap.size wh _) bk; clear bk; have bkn := bstep bk' (fresh_below wk (.cells #[.int .u8 0, .int .u32 0, .int .u16 0, .int .u32 0, .int .u16 0] 33))) | (go_at_call 26; (with_reducible refine (SJ.out _).mono ?_); rintro el wl ⟨rfl, bl⟩; have bl' := bstep (by assumption : Below wh.heap.size wh _) bl; clear bl) | (go_at_call 9; (with_reducible refine (IJ.out _ (KK.out.below (bstep L0.out (by assumption)))).mono ?_); rintro em wm ⟨rfl, bm⟩; have bm' := bstep (by assumption : Below wh.heap.size wh _) bm; clear bm; have bmn := bstep bm' (fresh_below wm (.cells #[.int .u8 0, .int .u32 0, .int .u16 0, .int .u32 0, .int .u16 0] 33))) | (go_at_call 27; (with_reducible refine (TX2.out _ (TB.out.below (bstep L0.out (by assumption)))).mono ?_); rintro en wn ⟨rfl, bn⟩; have bn' := bstep (by assumption : Below wh.heap.size wh _) bn; clear bn) | (go_at_call 27; (with_reducible refine (TX.out _ (TB.out.below (bstep L0.out (by assumption)))).mono ?_); rintro eo wo ⟨rfl, bo⟩; have bo' := bstep (by assumption : Below wh.heap.size wh _) bo; clear bo))
    go_ret
    exact ⟨rfl, bstep L0.out (by assumption)⟩
end Go.Proofs.YtjeaknipmdfkdaaGreatDoor
end

section
/- EmbedsInner walked. -/
set_option linter.unusedVariables false
set_option linter.unusedSimpArgs false
namespace Go.Proofs.YtjeaknipmdfkdaaGreatDoor
open Go.RowKit
attribute [local go_sem] Oper.semAt_some

set_option maxRecDepth 100000 in
set_option maxHeartbeats 4000000 in
theorem inner_long (s : ByteArray) (oa ob oc od a b c d : Int) (w : World) (T0 : Tabs w) (hl : (2500 : Int) < (s.size : Int)) :
    Calls Tryz.prog 7 #[.string s, .agg #[.int .u32 oa, .int .u16 ob, .int .u32 oc, .int .u16 od, .int .u32 a, .int .u16 b, .int .u32 c, .int .u16 d]] w (Ret (.bool true) w) := by
  have P5 := hide (fun W T => tolds W T); have TT := hide T0
  clear T0
  go_enter Tryz.func7, Tryz.ntmps7
  have d0 := Cells.new w #[.int .u32 oa, .int .u16 ob, .int .u32 oc, .int .u16 od, .int .u32 a, .int .u16 b, .int .u32 c, .int .u16 d] 30
  have l0 : Below w.heap.size w (w.alloc (.cells #[.int .u32 oa, .int .u16 ob, .int .u32 oc, .int .u16 od, .int .u32 a, .int .u16 b, .int .u32 c, .int .u16 d] 30)) := (fresh_below _ _)
  have L0 := hide l0; have D0 := hide d0
  clear l0 d0
  go_upto_region 1 with fail
  have l0 := L0.out; have d0 := D0.out
  clear L0 D0
  generalize (w.alloc (.cells #[.int .u32 oa, .int .u16 ob, .int .u32 oc, .int .u16 od, .int .u32 a, .int .u16 b, .int .u32 c, .int .u16 d] 30)) = wa at *
  obtain ⟨qd0_0, qd0_1, qd0_2, qd0_3, qd0_4, qd0_5, qd0_6, qd0_7⟩ := d0.q8
  have bb : Below wa.heap.size wa wa := Below.refl _ _
  have L0 := hide l0; have D0 := hide d0
  clear l0 d0
  go_wp2_with fail
  (with_reducible refine (P5.out _ (TT.out.below L0.out)).mono ?_)
  rintro e w1 ⟨rfl, b1⟩
  go_wp2_with fail
  go_ret
  exact ⟨rfl, bstep L0.out b1⟩
set_option maxRecDepth 100000 in
set_option maxHeartbeats 4000000 in
theorem inner_no (s : ByteArray) (oa ob oc od a b c d t0 t1 t2 t3 t4 r : Int) (w : World) (T0 : Tabs w) (hl : ¬ (2500 : Int) < (s.size : Int)) (hr : (r != 0) = true)
    (p0 : ∀ W, Kinds W → Calls Tryz.prog 14 #[.string s, .int .u8 1] W (Ret (.tuple #[.agg #[.int .u8 t0, .int .u32 t1, .int .u16 t2, .int .u32 t3, .int .u16 t4], .bool false]) W))
    (p1 : ∀ W, Kinds W → Calls Tryz.prog 11 #[.string s, .agg #[.int .u32 oa, .int .u16 ob, .int .u32 oc, .int .u16 od], .agg #[.int .u32 a, .int .u16 b, .int .u32 c, .int .u16 d]] W (Ret (.tuple #[.string { data := #[] }, .int .i64 r]) W)) :
    Calls Tryz.prog 7 #[.string s, .agg #[.int .u32 oa, .int .u16 ob, .int .u32 oc, .int .u16 od, .int .u32 a, .int .u16 b, .int .u32 c, .int .u16 d]] w (Ret (.bool true) w) := by
  have P0 := hide p0; have P1 := hide p1; have P5 := hide (fun W T => tolds W T); have TT := hide T0; have KK := hide (show Kinds w from T0.1)
  clear T0 p0 p1
  go_enter Tryz.func7, Tryz.ntmps7
  have d0 := Cells.new w #[.int .u32 oa, .int .u16 ob, .int .u32 oc, .int .u16 od, .int .u32 a, .int .u16 b, .int .u32 c, .int .u16 d] 30
  have l0 : Below w.heap.size w (w.alloc (.cells #[.int .u32 oa, .int .u16 ob, .int .u32 oc, .int .u16 od, .int .u32 a, .int .u16 b, .int .u32 c, .int .u16 d] 30)) := (fresh_below _ _)
  have L0 := hide l0; have D0 := hide d0
  clear l0 d0
  go_upto_region 1 with fail
  have l0 := L0.out; have d0 := D0.out
  clear L0 D0
  generalize (w.alloc (.cells #[.int .u32 oa, .int .u16 ob, .int .u32 oc, .int .u16 od, .int .u32 a, .int .u16 b, .int .u32 c, .int .u16 d] 30)) = wa at *
  obtain ⟨qd0_0, qd0_1, qd0_2, qd0_3, qd0_4, qd0_5, qd0_6, qd0_7⟩ := d0.q8
  have bb : Below wa.heap.size wa wa := Below.refl _ _
  have L0 := hide l0; have D0 := hide d0
  clear l0 d0
  clear bb qd0_0 qd0_1 qd0_2 qd0_3 qd0_4 qd0_5 qd0_6 qd0_7
  go_upto_region 4 with (go_at_call 14; (with_reducible refine (P0.out _ (KK.out.below L0.out)).mono ?_); rintro e2 w2 ⟨rfl, b2⟩)
  have nn := Cells.new w2 #[.int .u8 t0, .int .u32 t1, .int .u16 t2, .int .u32 t3, .int .u16 t4] 33
  have bn : Below wa.heap.size wa (w2.alloc (.cells #[.int .u8 t0, .int .u32 t1, .int .u16 t2, .int .u32 t3, .int .u16 t4] 33)) := bstep b2 (fresh_below _ _)
  replace D0 := hide (Cells.below bn D0.out)
  replace L0 := hide (bstep L0.out bn)
  clear bn b2
  generalize w2.heap.size = g5 at nn ⊢
  generalize (w2.alloc (.cells #[.int .u8 t0, .int .u32 t1, .int .u16 t2, .int .u32 t3, .int .u16 t4] 33)) = wb at *
  have kg5 := Cells.lt nn
  have D5 := hide nn
  clear nn
  have ud0 := D0.out
  obtain ⟨xud0_0, xud0_1, xud0_2, xud0_3, xud0_4, xud0_5, xud0_6, xud0_7⟩ := ud0.x8
  clear ud0
  go_upto_region 5 with (go_at_call 11; (with_reducible refine (P1.out _ (KK.out.below L0.out)).mono ?_); rintro e2 w2 ⟨rfl, b2⟩)
  clear xud0_0 xud0_1 xud0_2 xud0_3 xud0_4 xud0_5 xud0_6 xud0_7
  have bn := b2
  replace D0 := hide (Cells.below bn D0.out)
  replace L0 := hide (bstep L0.out bn)
  clear bn b2
  generalize w2 = wc at *
  go_wp2_with fail
  (with_reducible refine (P5.out _ (TT.out.below L0.out)).mono ?_)
  rintro e w1 ⟨rfl, b1⟩
  go_wp2_with fail
  go_ret
  exact ⟨rfl, bstep L0.out b1⟩
set_option maxRecDepth 100000 in
set_option maxHeartbeats 16000000 in
theorem inner_flow (s u da db l1 l2 h7 y7 : ByteArray) (k : Nat) (h2 y2 r v x7 q : Bool) (ty oa ob oc od a b c d t0 t1 t2 t3 t4 x0 x2 x4 x6 x8 h0 h1 h3 h4 h5 h6 y0 y1 y3 y4 y5 y6 : Int) (w : World) (T0 : Tabs w) (hl : ¬ (2500 : Int) < (s.size : Int)) (hp : (t0 == 1) = false)
    (za : db.size = da.size) (n28 : ¬ (da.size : Int) < 28) (i0 : k < da.size) (e0 : (((da[k]'i0).toNat : Nat) : Int) = ty) (n8 : ¬ (da.size : Int) < (k : Int) + 8) (hk8 : (k : Int) ≤ (da.size : Int)) (hk9 : k ≤ db.size) (hkb : k ≤ 60)
    (p0 : ∀ W, Kinds W → Calls Tryz.prog 14 #[.string s, .int .u8 1] W (Ret (.tuple #[.agg #[.int .u8 t0, .int .u32 t1, .int .u16 t2, .int .u32 t3, .int .u16 t4], .bool true]) W))
    (p1 : ∀ W, Kinds W → Calls Tryz.prog 11 #[.string s, .agg #[.int .u32 oa, .int .u16 ob, .int .u32 oc, .int .u16 od], .agg #[.int .u32 a, .int .u16 b, .int .u32 c, .int .u16 d]] W (Ret (.tuple #[.string u, .int .i64 0]) W))
    (p2 : ∀ W, Kinds W → Calls Tryz.prog 9 #[.string u] W (Ret (.tuple #[.agg #[.int .u8 t0, .int .u32 a, .int .u16 b, .int .u32 c, .int .u16 d], .int .i64 0]) W))
    (p3 : ∀ W, Kinds W → Calls Tryz.prog 19 #[.string u] W (Ret (.tuple #[.agg #[.int .u8 x0, .int .u32 oa, .int .u16 x2, .int .u32 oc, .int .u16 x4, .int .i64 3, .int .u8 x6, .bool x7, .int .u8 x8], .int .i64 0]) W))
    (p4 : ∀ W, Calls Tryz.prog 16 #[.string s] W (Ret (.string da) W)) (p5 : ∀ W, Calls Tryz.prog 16 #[.string u] W (Ret (.string db) W))
    (p6 : ∀ W, Calls Tryz.prog 17 #[.string da] W (Ret (.int .i64 (k : Int)) W)) (p7 : ∀ W, Calls Tryz.prog 17 #[.string db] W (Ret (.int .i64 (k : Int)) W))
    (p8 : True)
    (p9 : ∀ W, Calls Tryz.prog 22 #[.string s] W (Ret (.tuple #[.agg #[.int .u8 h0, .int .u16 h1, .bool h2, .int .u8 h3, .int .u8 h4, .int .u32 h5, .int .u32 h6, .string h7], .string l1, .int .i64 0]) W)) (p10 : ∀ W, Calls Tryz.prog 22 #[.string u] W (Ret (.tuple #[.agg #[.int .u8 y0, .int .u16 y1, .bool y2, .int .u8 y3, .int .u8 y4, .int .u32 y5, .int .u32 y6, .string y7], .string l2, .int .i64 0]) W))
    (p11 : ∀ (W : World) (g : Nat), g = W.heap.size → Calls Tryz.prog 23 #[.slice (some ⟨g, 0, none⟩) 1 1] (W.alloc (.cells #[.string (da.extract 0 k)] 9)) (Ret (.bool r) (W.alloc (.cells #[.string (da.extract 0 k)] 9))))
    (p12 : ∀ (W : World) (g : Nat), g = W.heap.size → Calls Tryz.prog 23 #[.slice (some ⟨g, 0, none⟩) 1 1] (W.alloc (.cells #[.string (db.extract 0 k)] 9)) (Ret (.bool r) (W.alloc (.cells #[.string (db.extract 0 k)] 9))))
    (p13 : ∀ W, Calls Tryz.prog 24 #[.string l1] W (Ret (.bool v) W)) (p14 : ∀ W, Calls Tryz.prog 24 #[.string l2] W (Ret (.bool v) W)) :
    Calls Tryz.prog 7 #[.string s, .agg #[.int .u32 oa, .int .u16 ob, .int .u32 oc, .int .u16 od, .int .u32 a, .int .u16 b, .int .u32 c, .int .u16 d]] w (Ret (.bool true) w) := by
  have P0 := hide p0; have P1 := hide p1; have P2 := hide p2; have P3 := hide p3; have P4 := hide p4; have P5 := hide p5; have P6 := hide p6; have P7 := hide p7; have P8 := hide p8; have P9 := hide p9; have P10 := hide p10; have P11 := hide p11; have P12 := hide p12; have P13 := hide p13; have P14 := hide p14
  have PZ := hide (fun W T => tolds W T); have TT := hide T0; have KK := hide (show Kinds w from T0.1)
  have hw8 : IntKind.i64.wrap ((k : Int) + 8) = (k : Int) + 8 := by rw [IntKind.wrap_i64]; omega
  have i1 : (k : Int) < (da.size : Int) := by omega
  have hk7 : (k : Int) ≤ (db.size : Int) := by omega
  have hka : k ≤ da.size := by omega
  clear T0 p0 p1 p2 p3 p4 p5 p6 p7 p8 p9 p10 p11 p12 p13 p14
  go_enter Tryz.func7, Tryz.ntmps7
  have d0 := Cells.new w #[.int .u32 oa, .int .u16 ob, .int .u32 oc, .int .u16 od, .int .u32 a, .int .u16 b, .int .u32 c, .int .u16 d] 30
  have l0 : Below w.heap.size w (w.alloc (.cells #[.int .u32 oa, .int .u16 ob, .int .u32 oc, .int .u16 od, .int .u32 a, .int .u16 b, .int .u32 c, .int .u16 d] 30)) := (fresh_below _ _)
  have L0 := hide l0; have D0 := hide d0
  clear l0 d0
  go_upto_region 1 with fail
  have l0 := L0.out; have d0 := D0.out
  clear L0 D0
  generalize (w.alloc (.cells #[.int .u32 oa, .int .u16 ob, .int .u32 oc, .int .u16 od, .int .u32 a, .int .u16 b, .int .u32 c, .int .u16 d] 30)) = wa at *
  obtain ⟨qd0_0, qd0_1, qd0_2, qd0_3, qd0_4, qd0_5, qd0_6, qd0_7⟩ := d0.q8
  have bb : Below wa.heap.size wa wa := Below.refl _ _
  have L0 := hide l0; have D0 := hide d0
  clear l0 d0
  clear bb qd0_0 qd0_1 qd0_2 qd0_3 qd0_4 qd0_5 qd0_6 qd0_7
  go_upto_region 4 with (go_at_call 14; (with_reducible refine (P0.out _ (KK.out.below L0.out)).mono ?_); rintro e2 w2 ⟨rfl, b2⟩)
  have nn := Cells.new w2 #[.int .u8 t0, .int .u32 t1, .int .u16 t2, .int .u32 t3, .int .u16 t4] 33
  have bn : Below wa.heap.size wa (w2.alloc (.cells #[.int .u8 t0, .int .u32 t1, .int .u16 t2, .int .u32 t3, .int .u16 t4] 33)) := bstep b2 (fresh_below _ _)
  replace D0 := hide (Cells.below bn D0.out)
  replace L0 := hide (bstep L0.out bn)
  clear bn b2
  generalize w2.heap.size = g5 at nn ⊢
  generalize (w2.alloc (.cells #[.int .u8 t0, .int .u32 t1, .int .u16 t2, .int .u32 t3, .int .u16 t4] 33)) = wb at *
  have kg5 := Cells.lt nn
  have D5 := hide nn
  clear nn
  have ud0 := D0.out
  obtain ⟨xud0_0, xud0_1, xud0_2, xud0_3, xud0_4, xud0_5, xud0_6, xud0_7⟩ := ud0.x8
  clear ud0
  go_upto_region 5 with (go_at_call 11; (with_reducible refine (P1.out _ (KK.out.below L0.out)).mono ?_); rintro e2 w2 ⟨rfl, b2⟩)
  clear xud0_0 xud0_1 xud0_2 xud0_3 xud0_4 xud0_5 xud0_6 xud0_7
  have bn := b2
  replace D0 := hide (Cells.below bn D0.out)
  replace D5 := hide (Cells.below bn D5.out)
  replace L0 := hide (bstep L0.out bn)
  clear bn b2
  generalize w2 = wc at *
  go_upto_region 8 with (go_at_call 9; (with_reducible refine (P2.out _ (KK.out.below L0.out)).mono ?_); rintro e2 w2 ⟨rfl, b2⟩)
  have nn := Cells.new w2 #[.int .u8 t0, .int .u32 a, .int .u16 b, .int .u32 c, .int .u16 d] 33
  have bn : Below wc.heap.size wc (w2.alloc (.cells #[.int .u8 t0, .int .u32 a, .int .u16 b, .int .u32 c, .int .u16 d] 33)) := bstep b2 (fresh_below _ _)
  replace D0 := hide (Cells.below bn D0.out)
  replace D5 := hide (Cells.below bn D5.out)
  replace L0 := hide (bstep L0.out bn)
  clear bn b2
  generalize w2.heap.size = g9 at nn ⊢
  generalize (w2.alloc (.cells #[.int .u8 t0, .int .u32 a, .int .u16 b, .int .u32 c, .int .u16 d] 33)) = wd at *
  have kg9 := Cells.lt nn
  have D9 := hide nn
  clear nn
  go_upto_region 9 with (go_at_call 19; (with_reducible refine (P3.out _ (KK.out.below L0.out)).mono ?_); rintro e2 w2 ⟨rfl, b2⟩)
  have nn := Cells.new w2 #[.int .u8 x0, .int .u32 oa, .int .u16 x2, .int .u32 oc, .int .u16 x4, .int .i64 3, .int .u8 x6, .bool x7, .int .u8 x8] 58
  have bn : Below wd.heap.size wd (w2.alloc (.cells #[.int .u8 x0, .int .u32 oa, .int .u16 x2, .int .u32 oc, .int .u16 x4, .int .i64 3, .int .u8 x6, .bool x7, .int .u8 x8] 58)) := bstep b2 (fresh_below _ _)
  replace D0 := hide (Cells.below bn D0.out)
  replace D5 := hide (Cells.below bn D5.out)
  replace D9 := hide (Cells.below bn D9.out)
  replace L0 := hide (bstep L0.out bn)
  clear bn b2
  generalize w2.heap.size = g11 at nn ⊢
  generalize (w2.alloc (.cells #[.int .u8 x0, .int .u32 oa, .int .u16 x2, .int .u32 oc, .int .u16 x4, .int .i64 3, .int .u8 x6, .bool x7, .int .u8 x8] 58)) = we at *
  have kg11 := Cells.lt nn
  have D11 := hide nn
  clear nn
  have LT9 := hide (Cells.lt D9.out); have LTw := hide (Below.size L0.out)
  have ud0 := D0.out
  obtain ⟨xud0_0, xud0_1, xud0_2, xud0_3, xud0_4, xud0_5, xud0_6, xud0_7⟩ := ud0.x8
  clear ud0
  have ud11 := D11.out
  obtain ⟨xud11_0, xud11_1, xud11_2, xud11_3, xud11_4, xud11_5, xud11_6, xud11_7, xud11_8⟩ := ud11.x9
  clear ud11
  have ud5 := D5.out
  obtain ⟨xud5_0, xud5_1, xud5_2, xud5_3, xud5_4⟩ := ud5.x5
  clear ud5
  go_upto_region 12 with fail
  clear xud0_0 xud0_1 xud0_2 xud0_3 xud0_4 xud0_5 xud0_6 xud0_7 xud11_0 xud11_1 xud11_2 xud11_3 xud11_4 xud11_5 xud11_6 xud11_7 xud11_8 xud5_0 xud5_1 xud5_2 xud5_3 xud5_4
  have nn := Cells.new we #[.int .u8 t0, .int .u32 a, .int .u16 b, .int .u32 c, .int .u16 d] 33
  have bn : Below we.heap.size we (we.alloc (.cells #[.int .u8 t0, .int .u32 a, .int .u16 b, .int .u32 c, .int .u16 d] 33)) := fresh_below _ _
  replace D5 := hide (Cells.below bn D5.out)
  replace D9 := hide (Cells.below bn D9.out)
  replace L0 := hide (bstep L0.out bn)
  clear bn
  generalize hlo : we.heap.size = g13 at nn ⊢
  have log13 := Nat.le_of_eq hlo
  clear hlo
  generalize (we.alloc (.cells #[.int .u8 t0, .int .u32 a, .int .u16 b, .int .u32 c, .int .u16 d] 33)) = wf at *
  have kg13 := Cells.lt nn
  have D13 := hide nn
  clear nn
  clear D0 D11 kg11
  have u5 := D5.out; have u9 := D9.out; have u13 := D13.out
  obtain ⟨qu5_0, qu5_1, qu5_2, qu5_3, qu5_4⟩ := u5.q5
  obtain ⟨qu9_0, qu9_1, qu9_2, qu9_3, qu9_4⟩ := u9.q5
  obtain ⟨qu13_0, qu13_1, qu13_2, qu13_3, qu13_4⟩ := u13.q5
  have bb : Below wf.heap.size wf wf := Below.refl _ _
  clear u5 u9 u13
  go_wp2_with (first | (go_at_call 16; (with_reducible refine (P4.out _).mono ?_); rintro em wm ⟨rfl, bm⟩; have bm' := bstep (by assumption : Below wf.heap.size wf _) bm; clear bm) | (go_at_call 16; (with_reducible refine (P5.out _).mono ?_); rintro en wn ⟨rfl, bn⟩; have bn' := bstep (by assumption : Below wf.heap.size wf _) bn; clear bn) | (go_at_call 17; (with_reducible refine (P6.out _).mono ?_); rintro eo wo ⟨rfl, bo⟩; have bo' := bstep (by assumption : Below wf.heap.size wf _) bo; clear bo) | (go_at_call 17; (with_reducible refine (P7.out _).mono ?_); rintro ep wp ⟨rfl, bp⟩; have bp' := bstep (by assumption : Below wf.heap.size wf _) bp; clear bp) | (go_at_call 22; (with_reducible refine (P9.out _).mono ?_); rintro eq wq ⟨rfl, bq⟩; have bq' := bstep (by assumption : Below wf.heap.size wf _) bq; clear bq; have bqn := bstep bq' (fresh_below wq (.cells #[.int .u8 h0, .int .u16 h1, .bool h2, .int .u8 h3, .int .u8 h4, .int .u32 h5, .int .u32 h6, .string h7] 65))) | (go_at_call 22; (with_reducible refine (P10.out _).mono ?_); rintro er wr ⟨rfl, br⟩; have br' := bstep (by assumption : Below wf.heap.size wf _) br; clear br; have brn := bstep br' (fresh_below wr (.cells #[.int .u8 y0, .int .u16 y1, .bool y2, .int .u8 y3, .int .u8 y4, .int .u32 y5, .int .u32 y6, .string y7] 65))) | (go_at_call 23; (with_reducible refine (P11.out _ _ (by simp)).mono ?_); rintro e7 w7 ⟨rfl, b7⟩; have b7' := bstep (bstep (by assumption : Below wf.heap.size wf _) (fresh_below _ _)) b7; clear b7) | (go_at_call 23; (with_reducible refine (P12.out _ _ (by simp)).mono ?_); rintro e8 w8 ⟨rfl, b8⟩; have b8' := bstep (bstep (by assumption : Below wf.heap.size wf _) (fresh_below _ _)) b8; clear b8) | (go_at_call 24; (with_reducible refine (P13.out _).mono ?_); rintro es ws ⟨rfl, bs⟩; have bs' := bstep (by assumption : Below wf.heap.size wf _) bs; clear bs) | (go_at_call 24; (with_reducible refine (P14.out _).mono ?_); rintro et wt ⟨rfl, bt⟩; have bt' := bstep (by assumption : Below wf.heap.size wf _) bt; clear bt) | (go_at_call 8; (with_reducible refine (PZ.out _ (TT.out.below (bstep L0.out (by assumption)))).mono ?_); rintro ez wz ⟨rfl, bz⟩; have bz' := bstep (by assumption : Below wf.heap.size wf _) bz; clear bz))
  go_ret
  exact ⟨rfl, bstep L0.out (by assumption)⟩
set_option maxRecDepth 100000 in
set_option maxHeartbeats 16000000 in
theorem inner_ask (s u da db l1 l2 h7 y7 : ByteArray) (k : Nat) (h2 y2 r v x7 q : Bool) (ty oa ob oc od a b c d t0 t1 t2 t3 t4 x0 x2 x4 x6 x8 h0 h1 h3 h4 h5 h6 y0 y1 y3 y4 y5 y6 : Int) (w : World) (T0 : Tabs w) (hl : ¬ (2500 : Int) < (s.size : Int))
    (za : db.size = da.size) (n28 : ¬ (da.size : Int) < 28) (i0 : k < da.size) (e0 : (((da[k]'i0).toNat : Nat) : Int) = ty) (n8 : ¬ (da.size : Int) < (k : Int) + 8) (hk8 : (k : Int) ≤ (da.size : Int)) (hk9 : k ≤ db.size) (hkb : k ≤ 60)
    (p0 : ∀ W, Kinds W → Calls Tryz.prog 14 #[.string s, .int .u8 1] W (Ret (.tuple #[.agg #[.int .u8 1, .int .u32 t1, .int .u16 t2, .int .u32 t3, .int .u16 t4], .bool true]) W))
    (p1 : ∀ W, Kinds W → Calls Tryz.prog 11 #[.string s, .agg #[.int .u32 oa, .int .u16 ob, .int .u32 oc, .int .u16 od], .agg #[.int .u32 a, .int .u16 b, .int .u32 c, .int .u16 d]] W (Ret (.tuple #[.string u, .int .i64 0]) W))
    (p2 : ∀ W, Kinds W → Calls Tryz.prog 9 #[.string u] W (Ret (.tuple #[.agg #[.int .u8 1, .int .u32 a, .int .u16 b, .int .u32 c, .int .u16 0], .int .i64 0]) W))
    (p3 : ∀ W, Kinds W → Calls Tryz.prog 19 #[.string u] W (Ret (.tuple #[.agg #[.int .u8 x0, .int .u32 oa, .int .u16 x2, .int .u32 oc, .int .u16 x4, .int .i64 3, .int .u8 x6, .bool x7, .int .u8 x8], .int .i64 0]) W))
    (p4 : ∀ W, Calls Tryz.prog 16 #[.string s] W (Ret (.string da) W)) (p5 : ∀ W, Calls Tryz.prog 16 #[.string u] W (Ret (.string db) W))
    (p6 : ∀ W, Calls Tryz.prog 17 #[.string da] W (Ret (.int .i64 (k : Int)) W)) (p7 : ∀ W, Calls Tryz.prog 17 #[.string db] W (Ret (.int .i64 (k : Int)) W))
    (p8 : ∀ W, Kinds W → Calls Tryz.prog 21 #[.agg #[.int .u8 ty, .int .u8 0, .int .u16 0, .string { data := #[] }, .string { data := #[] }]] W (Ret (.tuple #[.bool true, .bool q]) W))
    (p9 : ∀ W, Calls Tryz.prog 22 #[.string s] W (Ret (.tuple #[.agg #[.int .u8 h0, .int .u16 h1, .bool h2, .int .u8 h3, .int .u8 h4, .int .u32 h5, .int .u32 h6, .string h7], .string l1, .int .i64 0]) W)) (p10 : ∀ W, Calls Tryz.prog 22 #[.string u] W (Ret (.tuple #[.agg #[.int .u8 y0, .int .u16 y1, .bool y2, .int .u8 y3, .int .u8 y4, .int .u32 y5, .int .u32 y6, .string y7], .string l2, .int .i64 0]) W))
    (p11 : ∀ (W : World) (g : Nat), g = W.heap.size → Calls Tryz.prog 23 #[.slice (some ⟨g, 0, none⟩) 1 1] (W.alloc (.cells #[.string (da.extract 0 k)] 9)) (Ret (.bool r) (W.alloc (.cells #[.string (da.extract 0 k)] 9))))
    (p12 : ∀ (W : World) (g : Nat), g = W.heap.size → Calls Tryz.prog 23 #[.slice (some ⟨g, 0, none⟩) 1 1] (W.alloc (.cells #[.string (db.extract 0 k)] 9)) (Ret (.bool r) (W.alloc (.cells #[.string (db.extract 0 k)] 9))))
    (p13 : ∀ W, Calls Tryz.prog 24 #[.string l1] W (Ret (.bool v) W)) (p14 : ∀ W, Calls Tryz.prog 24 #[.string l2] W (Ret (.bool v) W)) :
    Calls Tryz.prog 7 #[.string s, .agg #[.int .u32 oa, .int .u16 ob, .int .u32 oc, .int .u16 od, .int .u32 a, .int .u16 b, .int .u32 c, .int .u16 d]] w (Ret (.bool true) w) := by
  have P0 := hide p0; have P1 := hide p1; have P2 := hide p2; have P3 := hide p3; have P4 := hide p4; have P5 := hide p5; have P6 := hide p6; have P7 := hide p7; have P8 := hide p8; have P9 := hide p9; have P10 := hide p10; have P11 := hide p11; have P12 := hide p12; have P13 := hide p13; have P14 := hide p14
  have PZ := hide (fun W T => tolds W T); have TT := hide T0; have KK := hide (show Kinds w from T0.1)
  have hw8 : IntKind.i64.wrap ((k : Int) + 8) = (k : Int) + 8 := by rw [IntKind.wrap_i64]; omega
  have i1 : (k : Int) < (da.size : Int) := by omega
  have hk7 : (k : Int) ≤ (db.size : Int) := by omega
  have hka : k ≤ da.size := by omega
  clear T0 p0 p1 p2 p3 p4 p5 p6 p7 p8 p9 p10 p11 p12 p13 p14
  go_enter Tryz.func7, Tryz.ntmps7
  have d0 := Cells.new w #[.int .u32 oa, .int .u16 ob, .int .u32 oc, .int .u16 od, .int .u32 a, .int .u16 b, .int .u32 c, .int .u16 d] 30
  have l0 : Below w.heap.size w (w.alloc (.cells #[.int .u32 oa, .int .u16 ob, .int .u32 oc, .int .u16 od, .int .u32 a, .int .u16 b, .int .u32 c, .int .u16 d] 30)) := (fresh_below _ _)
  have L0 := hide l0; have D0 := hide d0
  clear l0 d0
  go_upto_region 1 with fail
  have l0 := L0.out; have d0 := D0.out
  clear L0 D0
  generalize (w.alloc (.cells #[.int .u32 oa, .int .u16 ob, .int .u32 oc, .int .u16 od, .int .u32 a, .int .u16 b, .int .u32 c, .int .u16 d] 30)) = wa at *
  obtain ⟨qd0_0, qd0_1, qd0_2, qd0_3, qd0_4, qd0_5, qd0_6, qd0_7⟩ := d0.q8
  have bb : Below wa.heap.size wa wa := Below.refl _ _
  have L0 := hide l0; have D0 := hide d0
  clear l0 d0
  clear bb qd0_0 qd0_1 qd0_2 qd0_3 qd0_4 qd0_5 qd0_6 qd0_7
  go_upto_region 4 with (go_at_call 14; (with_reducible refine (P0.out _ (KK.out.below L0.out)).mono ?_); rintro e2 w2 ⟨rfl, b2⟩)
  have nn := Cells.new w2 #[.int .u8 1, .int .u32 t1, .int .u16 t2, .int .u32 t3, .int .u16 t4] 33
  have bn : Below wa.heap.size wa (w2.alloc (.cells #[.int .u8 1, .int .u32 t1, .int .u16 t2, .int .u32 t3, .int .u16 t4] 33)) := bstep b2 (fresh_below _ _)
  replace D0 := hide (Cells.below bn D0.out)
  replace L0 := hide (bstep L0.out bn)
  clear bn b2
  generalize w2.heap.size = g5 at nn ⊢
  generalize (w2.alloc (.cells #[.int .u8 1, .int .u32 t1, .int .u16 t2, .int .u32 t3, .int .u16 t4] 33)) = wb at *
  have kg5 := Cells.lt nn
  have D5 := hide nn
  clear nn
  have ud0 := D0.out
  obtain ⟨xud0_0, xud0_1, xud0_2, xud0_3, xud0_4, xud0_5, xud0_6, xud0_7⟩ := ud0.x8
  clear ud0
  go_upto_region 5 with (go_at_call 11; (with_reducible refine (P1.out _ (KK.out.below L0.out)).mono ?_); rintro e2 w2 ⟨rfl, b2⟩)
  clear xud0_0 xud0_1 xud0_2 xud0_3 xud0_4 xud0_5 xud0_6 xud0_7
  have bn := b2
  replace D0 := hide (Cells.below bn D0.out)
  replace D5 := hide (Cells.below bn D5.out)
  replace L0 := hide (bstep L0.out bn)
  clear bn b2
  generalize w2 = wc at *
  go_upto_region 8 with (go_at_call 9; (with_reducible refine (P2.out _ (KK.out.below L0.out)).mono ?_); rintro e2 w2 ⟨rfl, b2⟩)
  have nn := Cells.new w2 #[.int .u8 1, .int .u32 a, .int .u16 b, .int .u32 c, .int .u16 0] 33
  have bn : Below wc.heap.size wc (w2.alloc (.cells #[.int .u8 1, .int .u32 a, .int .u16 b, .int .u32 c, .int .u16 0] 33)) := bstep b2 (fresh_below _ _)
  replace D0 := hide (Cells.below bn D0.out)
  replace D5 := hide (Cells.below bn D5.out)
  replace L0 := hide (bstep L0.out bn)
  clear bn b2
  generalize w2.heap.size = g9 at nn ⊢
  generalize (w2.alloc (.cells #[.int .u8 1, .int .u32 a, .int .u16 b, .int .u32 c, .int .u16 0] 33)) = wd at *
  have kg9 := Cells.lt nn
  have D9 := hide nn
  clear nn
  go_upto_region 9 with (go_at_call 19; (with_reducible refine (P3.out _ (KK.out.below L0.out)).mono ?_); rintro e2 w2 ⟨rfl, b2⟩)
  have nn := Cells.new w2 #[.int .u8 x0, .int .u32 oa, .int .u16 x2, .int .u32 oc, .int .u16 x4, .int .i64 3, .int .u8 x6, .bool x7, .int .u8 x8] 58
  have bn : Below wd.heap.size wd (w2.alloc (.cells #[.int .u8 x0, .int .u32 oa, .int .u16 x2, .int .u32 oc, .int .u16 x4, .int .i64 3, .int .u8 x6, .bool x7, .int .u8 x8] 58)) := bstep b2 (fresh_below _ _)
  replace D0 := hide (Cells.below bn D0.out)
  replace D5 := hide (Cells.below bn D5.out)
  replace D9 := hide (Cells.below bn D9.out)
  replace L0 := hide (bstep L0.out bn)
  clear bn b2
  generalize w2.heap.size = g11 at nn ⊢
  generalize (w2.alloc (.cells #[.int .u8 x0, .int .u32 oa, .int .u16 x2, .int .u32 oc, .int .u16 x4, .int .i64 3, .int .u8 x6, .bool x7, .int .u8 x8] 58)) = we at *
  have kg11 := Cells.lt nn
  have D11 := hide nn
  clear nn
  have LT9 := hide (Cells.lt D9.out); have LTw := hide (Below.size L0.out)
  have ud0 := D0.out
  obtain ⟨xud0_0, xud0_1, xud0_2, xud0_3, xud0_4, xud0_5, xud0_6, xud0_7⟩ := ud0.x8
  clear ud0
  have ud11 := D11.out
  obtain ⟨xud11_0, xud11_1, xud11_2, xud11_3, xud11_4, xud11_5, xud11_6, xud11_7, xud11_8⟩ := ud11.x9
  clear ud11
  have ud5 := D5.out
  obtain ⟨xud5_0, xud5_1, xud5_2, xud5_3, xud5_4⟩ := ud5.x5
  clear ud5
  go_upto_region 12 with fail
  clear xud0_0 xud0_1 xud0_2 xud0_3 xud0_4 xud0_5 xud0_6 xud0_7 xud11_0 xud11_1 xud11_2 xud11_3 xud11_4 xud11_5 xud11_6 xud11_7 xud11_8 xud5_0 xud5_1 xud5_2 xud5_3 xud5_4
  have nn := Cells.new we #[.int .u8 1, .int .u32 a, .int .u16 b, .int .u32 c, .int .u16 d] 33
  have bn : Below we.heap.size we (we.alloc (.cells #[.int .u8 1, .int .u32 a, .int .u16 b, .int .u32 c, .int .u16 d] 33)) := fresh_below _ _
  replace D5 := hide (Cells.below bn D5.out)
  replace D9 := hide (Cells.below bn D9.out)
  replace L0 := hide (bstep L0.out bn)
  clear bn
  generalize hlo : we.heap.size = g13 at nn ⊢
  have log13 := Nat.le_of_eq hlo
  clear hlo
  generalize (we.alloc (.cells #[.int .u8 1, .int .u32 a, .int .u16 b, .int .u32 c, .int .u16 d] 33)) = wf at *
  have kg13 := Cells.lt nn
  have D13 := hide nn
  clear nn
  clear D0 D11 kg11
  have u5 := D5.out; have u9 := D9.out; have u13 := D13.out
  obtain ⟨qu5_0, qu5_1, qu5_2, qu5_3, qu5_4⟩ := u5.q5
  obtain ⟨qu9_0, qu9_1, qu9_2, qu9_3, qu9_4⟩ := u9.q5
  obtain ⟨qu13_0, qu13_1, qu13_2, qu13_3, qu13_4⟩ := u13.q5
  have bb : Below wf.heap.size wf wf := Below.refl _ _
  clear u5 u9 u13
  go_upto_region 18 with (first | (go_at_call 16; (with_reducible refine (P4.out _).mono ?_); rintro em wm ⟨rfl, bm⟩; have bm' := bstep (by assumption : Below wf.heap.size wf _) bm; clear bm) | (go_at_call 16; (with_reducible refine (P5.out _).mono ?_); rintro en wn ⟨rfl, bn⟩; have bn' := bstep (by assumption : Below wf.heap.size wf _) bn; clear bn) | (go_at_call 17; (with_reducible refine (P6.out _).mono ?_); rintro eo wo ⟨rfl, bo⟩; have bo' := bstep (by assumption : Below wf.heap.size wf _) bo; clear bo) | (go_at_call 17; (with_reducible refine (P7.out _).mono ?_); rintro ep wp ⟨rfl, bp⟩; have bp' := bstep (by assumption : Below wf.heap.size wf _) bp; clear bp) | (go_at_call 21; (with_reducible refine (P8.out _ (KK.out.below (bstep L0.out (by assumption)))).mono ?_); rintro ev wv ⟨rfl, bv⟩; have bv' := bstep (by assumption : Below wf.heap.size wf _) bv; clear bv))
  have d13 := Cells.below bv' D13.out; have d9 := Cells.below bv' D9.out
  have ne : g9 ≠ g13 := by have := LT9.out; omega
  have lw : w.heap.size ≤ g13 := by have := LTw.out; omega
  have n13 : Cells (wv.setCell ⟨g13, 4, none⟩ (.int .u16 0)) g13 #[.int .u8 1, .int .u32 a, .int .u16 b, .int .u32 c, .int .u16 0] 33 := d13.set_ 4 (.int .u16 0)
  have n9 := d9.other ne 4 (.int .u16 0)
  have lb := (bstep L0.out bv').setCell (p := ⟨g13, 4, none⟩) lw (.int .u16 0)
  have N13 := hide n13; have N9 := hide n9; have LB := hide lb
  obtain ⟨xd13_0, xd13_1, xd13_2, xd13_3, xd13_4⟩ := d13.x5
  obtain ⟨yd13_0, yd13_1, yd13_2, yd13_3, yd13_4⟩ := d13.y5
  clear n13 n9 lb d13 d9 L0 D5 D9 D13 qu5_0 qu5_1 qu5_2 qu5_3 qu5_4 qu9_0 qu9_1 qu9_2 qu9_3 qu9_4 qu13_0 qu13_1 qu13_2 qu13_3 qu13_4 bb
  go_upto_region 20 with fail
  generalize (wv.setCell ⟨g13, 4, none⟩ (.int .u16 0)) = wh at *
  have u9 := N9.out; have u13 := N13.out; have L0 := LB
  obtain ⟨qu9_0, qu9_1, qu9_2, qu9_3, qu9_4⟩ := u9.q5
  obtain ⟨qu13_0, qu13_1, qu13_2, qu13_3, qu13_4⟩ := u13.q5
  have bb : Below wh.heap.size wh wh := Below.refl _ _
  clear u9 u13 N9 N13 LB
  go_wp2_with (first | (go_at_call 17; (with_reducible refine (P6.out _).mono ?_); rintro eo wo ⟨rfl, bo⟩; have bo' := bstep (by assumption : Below wh.heap.size wh _) bo; clear bo) | (go_at_call 17; (with_reducible refine (P7.out _).mono ?_); rintro ep wp ⟨rfl, bp⟩; have bp' := bstep (by assumption : Below wh.heap.size wh _) bp; clear bp) | (go_at_call 22; (with_reducible refine (P9.out _).mono ?_); rintro eq wq ⟨rfl, bq⟩; have bq' := bstep (by assumption : Below wh.heap.size wh _) bq; clear bq; have bqn := bstep bq' (fresh_below wq (.cells #[.int .u8 h0, .int .u16 h1, .bool h2, .int .u8 h3, .int .u8 h4, .int .u32 h5, .int .u32 h6, .string h7] 65))) | (go_at_call 22; (with_reducible refine (P10.out _).mono ?_); rintro er wr ⟨rfl, br⟩; have br' := bstep (by assumption : Below wh.heap.size wh _) br; clear br; have brn := bstep br' (fresh_below wr (.cells #[.int .u8 y0, .int .u16 y1, .bool y2, .int .u8 y3, .int .u8 y4, .int .u32 y5, .int .u32 y6, .string y7] 65))) | (go_at_call 23; (with_reducible refine (P11.out _ _ (by simp)).mono ?_); rintro e7 w7 ⟨rfl, b7⟩; have b7' := bstep (bstep (by assumption : Below wh.heap.size wh _) (fresh_below _ _)) b7; clear b7) | (go_at_call 23; (with_reducible refine (P12.out _ _ (by simp)).mono ?_); rintro e8 w8 ⟨rfl, b8⟩; have b8' := bstep (bstep (by assumption : Below wh.heap.size wh _) (fresh_below _ _)) b8; clear b8) | (go_at_call 24; (with_reducible refine (P13.out _).mono ?_); rintro es ws ⟨rfl, bs⟩; have bs' := bstep (by assumption : Below wh.heap.size wh _) bs; clear bs) | (go_at_call 24; (with_reducible refine (P14.out _).mono ?_); rintro et wt ⟨rfl, bt⟩; have bt' := bstep (by assumption : Below wh.heap.size wh _) bt; clear bt) | (go_at_call 8; (with_reducible refine (PZ.out _ (TT.out.below (bstep L0.out (by assumption)))).mono ?_); rintro ez wz ⟨rfl, bz⟩; have bz' := bstep (by assumption : Below wh.heap.size wh _) bz; clear bz))
  go_ret
  exact ⟨rfl, bstep L0.out (by assumption)⟩
set_option maxRecDepth 100000 in
set_option maxHeartbeats 16000000 in
theorem inner_told (s u da db l1 l2 h7 y7 : ByteArray) (k : Nat) (h2 y2 r v x7 q : Bool) (ty oa ob oc od a b c d t0 t1 t2 t3 t4 x0 x2 x4 x6 x8 h0 h1 h3 h4 h5 h6 y0 y1 y3 y4 y5 y6 : Int) (w : World) (T0 : Tabs w) (hl : ¬ (2500 : Int) < (s.size : Int))
    (za : db.size = da.size) (n28 : ¬ (da.size : Int) < 28) (i0 : k < da.size) (e0 : (((da[k]'i0).toNat : Nat) : Int) = ty) (n8 : ¬ (da.size : Int) < (k : Int) + 8) (hk8 : (k : Int) ≤ (da.size : Int)) (hk9 : k ≤ db.size) (hkb : k ≤ 60)
    (p0 : ∀ W, Kinds W → Calls Tryz.prog 14 #[.string s, .int .u8 1] W (Ret (.tuple #[.agg #[.int .u8 1, .int .u32 t1, .int .u16 t2, .int .u32 t3, .int .u16 t4], .bool true]) W))
    (p1 : ∀ W, Kinds W → Calls Tryz.prog 11 #[.string s, .agg #[.int .u32 oa, .int .u16 ob, .int .u32 oc, .int .u16 od], .agg #[.int .u32 a, .int .u16 b, .int .u32 c, .int .u16 d]] W (Ret (.tuple #[.string u, .int .i64 0]) W))
    (p2 : ∀ W, Kinds W → Calls Tryz.prog 9 #[.string u] W (Ret (.tuple #[.agg #[.int .u8 1, .int .u32 a, .int .u16 0, .int .u32 c, .int .u16 d], .int .i64 0]) W))
    (p3 : ∀ W, Kinds W → Calls Tryz.prog 19 #[.string u] W (Ret (.tuple #[.agg #[.int .u8 x0, .int .u32 oa, .int .u16 x2, .int .u32 oc, .int .u16 x4, .int .i64 3, .int .u8 x6, .bool x7, .int .u8 x8], .int .i64 0]) W))
    (p4 : ∀ W, Calls Tryz.prog 16 #[.string s] W (Ret (.string da) W)) (p5 : ∀ W, Calls Tryz.prog 16 #[.string u] W (Ret (.string db) W))
    (p6 : ∀ W, Calls Tryz.prog 17 #[.string da] W (Ret (.int .i64 (k : Int)) W)) (p7 : ∀ W, Calls Tryz.prog 17 #[.string db] W (Ret (.int .i64 (k : Int)) W))
    (p8 : ∀ W, Kinds W → Calls Tryz.prog 21 #[.agg #[.int .u8 ty, .int .u8 0, .int .u16 0, .string { data := #[] }, .string { data := #[] }]] W (Ret (.tuple #[.bool false, .bool q]) W))
    (p9 : ∀ W, Calls Tryz.prog 22 #[.string s] W (Ret (.tuple #[.agg #[.int .u8 h0, .int .u16 h1, .bool h2, .int .u8 h3, .int .u8 h4, .int .u32 h5, .int .u32 h6, .string h7], .string l1, .int .i64 0]) W)) (p10 : ∀ W, Calls Tryz.prog 22 #[.string u] W (Ret (.tuple #[.agg #[.int .u8 y0, .int .u16 y1, .bool y2, .int .u8 y3, .int .u8 y4, .int .u32 y5, .int .u32 y6, .string y7], .string l2, .int .i64 0]) W))
    (p11 : ∀ (W : World) (g : Nat), g = W.heap.size → Calls Tryz.prog 23 #[.slice (some ⟨g, 0, none⟩) 1 1] (W.alloc (.cells #[.string (da.extract 0 k)] 9)) (Ret (.bool r) (W.alloc (.cells #[.string (da.extract 0 k)] 9))))
    (p12 : ∀ (W : World) (g : Nat), g = W.heap.size → Calls Tryz.prog 23 #[.slice (some ⟨g, 0, none⟩) 1 1] (W.alloc (.cells #[.string (db.extract 0 k)] 9)) (Ret (.bool r) (W.alloc (.cells #[.string (db.extract 0 k)] 9))))
    (p13 : ∀ W, Calls Tryz.prog 24 #[.string l1] W (Ret (.bool v) W)) (p14 : ∀ W, Calls Tryz.prog 24 #[.string l2] W (Ret (.bool v) W)) :
    Calls Tryz.prog 7 #[.string s, .agg #[.int .u32 oa, .int .u16 ob, .int .u32 oc, .int .u16 od, .int .u32 a, .int .u16 b, .int .u32 c, .int .u16 d]] w (Ret (.bool true) w) := by
  have P0 := hide p0; have P1 := hide p1; have P2 := hide p2; have P3 := hide p3; have P4 := hide p4; have P5 := hide p5; have P6 := hide p6; have P7 := hide p7; have P8 := hide p8; have P9 := hide p9; have P10 := hide p10; have P11 := hide p11; have P12 := hide p12; have P13 := hide p13; have P14 := hide p14
  have PZ := hide (fun W T => tolds W T); have TT := hide T0; have KK := hide (show Kinds w from T0.1)
  have hw8 : IntKind.i64.wrap ((k : Int) + 8) = (k : Int) + 8 := by rw [IntKind.wrap_i64]; omega
  have i1 : (k : Int) < (da.size : Int) := by omega
  have hk7 : (k : Int) ≤ (db.size : Int) := by omega
  have hka : k ≤ da.size := by omega
  clear T0 p0 p1 p2 p3 p4 p5 p6 p7 p8 p9 p10 p11 p12 p13 p14
  go_enter Tryz.func7, Tryz.ntmps7
  have d0 := Cells.new w #[.int .u32 oa, .int .u16 ob, .int .u32 oc, .int .u16 od, .int .u32 a, .int .u16 b, .int .u32 c, .int .u16 d] 30
  have l0 : Below w.heap.size w (w.alloc (.cells #[.int .u32 oa, .int .u16 ob, .int .u32 oc, .int .u16 od, .int .u32 a, .int .u16 b, .int .u32 c, .int .u16 d] 30)) := (fresh_below _ _)
  have L0 := hide l0; have D0 := hide d0
  clear l0 d0
  go_upto_region 1 with fail
  have l0 := L0.out; have d0 := D0.out
  clear L0 D0
  generalize (w.alloc (.cells #[.int .u32 oa, .int .u16 ob, .int .u32 oc, .int .u16 od, .int .u32 a, .int .u16 b, .int .u32 c, .int .u16 d] 30)) = wa at *
  obtain ⟨qd0_0, qd0_1, qd0_2, qd0_3, qd0_4, qd0_5, qd0_6, qd0_7⟩ := d0.q8
  have bb : Below wa.heap.size wa wa := Below.refl _ _
  have L0 := hide l0; have D0 := hide d0
  clear l0 d0
  clear bb qd0_0 qd0_1 qd0_2 qd0_3 qd0_4 qd0_5 qd0_6 qd0_7
  go_upto_region 4 with (go_at_call 14; (with_reducible refine (P0.out _ (KK.out.below L0.out)).mono ?_); rintro e2 w2 ⟨rfl, b2⟩)
  have nn := Cells.new w2 #[.int .u8 1, .int .u32 t1, .int .u16 t2, .int .u32 t3, .int .u16 t4] 33
  have bn : Below wa.heap.size wa (w2.alloc (.cells #[.int .u8 1, .int .u32 t1, .int .u16 t2, .int .u32 t3, .int .u16 t4] 33)) := bstep b2 (fresh_below _ _)
  replace D0 := hide (Cells.below bn D0.out)
  replace L0 := hide (bstep L0.out bn)
  clear bn b2
  generalize w2.heap.size = g5 at nn ⊢
  generalize (w2.alloc (.cells #[.int .u8 1, .int .u32 t1, .int .u16 t2, .int .u32 t3, .int .u16 t4] 33)) = wb at *
  have kg5 := Cells.lt nn
  have D5 := hide nn
  clear nn
  have ud0 := D0.out
  obtain ⟨xud0_0, xud0_1, xud0_2, xud0_3, xud0_4, xud0_5, xud0_6, xud0_7⟩ := ud0.x8
  clear ud0
  go_upto_region 5 with (go_at_call 11; (with_reducible refine (P1.out _ (KK.out.below L0.out)).mono ?_); rintro e2 w2 ⟨rfl, b2⟩)
  clear xud0_0 xud0_1 xud0_2 xud0_3 xud0_4 xud0_5 xud0_6 xud0_7
  have bn := b2
  replace D0 := hide (Cells.below bn D0.out)
  replace D5 := hide (Cells.below bn D5.out)
  replace L0 := hide (bstep L0.out bn)
  clear bn b2
  generalize w2 = wc at *
  go_upto_region 8 with (go_at_call 9; (with_reducible refine (P2.out _ (KK.out.below L0.out)).mono ?_); rintro e2 w2 ⟨rfl, b2⟩)
  have nn := Cells.new w2 #[.int .u8 1, .int .u32 a, .int .u16 0, .int .u32 c, .int .u16 d] 33
  have bn : Below wc.heap.size wc (w2.alloc (.cells #[.int .u8 1, .int .u32 a, .int .u16 0, .int .u32 c, .int .u16 d] 33)) := bstep b2 (fresh_below _ _)
  replace D0 := hide (Cells.below bn D0.out)
  replace D5 := hide (Cells.below bn D5.out)
  replace L0 := hide (bstep L0.out bn)
  clear bn b2
  generalize w2.heap.size = g9 at nn ⊢
  generalize (w2.alloc (.cells #[.int .u8 1, .int .u32 a, .int .u16 0, .int .u32 c, .int .u16 d] 33)) = wd at *
  have kg9 := Cells.lt nn
  have D9 := hide nn
  clear nn
  go_upto_region 9 with (go_at_call 19; (with_reducible refine (P3.out _ (KK.out.below L0.out)).mono ?_); rintro e2 w2 ⟨rfl, b2⟩)
  have nn := Cells.new w2 #[.int .u8 x0, .int .u32 oa, .int .u16 x2, .int .u32 oc, .int .u16 x4, .int .i64 3, .int .u8 x6, .bool x7, .int .u8 x8] 58
  have bn : Below wd.heap.size wd (w2.alloc (.cells #[.int .u8 x0, .int .u32 oa, .int .u16 x2, .int .u32 oc, .int .u16 x4, .int .i64 3, .int .u8 x6, .bool x7, .int .u8 x8] 58)) := bstep b2 (fresh_below _ _)
  replace D0 := hide (Cells.below bn D0.out)
  replace D5 := hide (Cells.below bn D5.out)
  replace D9 := hide (Cells.below bn D9.out)
  replace L0 := hide (bstep L0.out bn)
  clear bn b2
  generalize w2.heap.size = g11 at nn ⊢
  generalize (w2.alloc (.cells #[.int .u8 x0, .int .u32 oa, .int .u16 x2, .int .u32 oc, .int .u16 x4, .int .i64 3, .int .u8 x6, .bool x7, .int .u8 x8] 58)) = we at *
  have kg11 := Cells.lt nn
  have D11 := hide nn
  clear nn
  have LT9 := hide (Cells.lt D9.out); have LTw := hide (Below.size L0.out)
  have ud0 := D0.out
  obtain ⟨xud0_0, xud0_1, xud0_2, xud0_3, xud0_4, xud0_5, xud0_6, xud0_7⟩ := ud0.x8
  clear ud0
  have ud11 := D11.out
  obtain ⟨xud11_0, xud11_1, xud11_2, xud11_3, xud11_4, xud11_5, xud11_6, xud11_7, xud11_8⟩ := ud11.x9
  clear ud11
  have ud5 := D5.out
  obtain ⟨xud5_0, xud5_1, xud5_2, xud5_3, xud5_4⟩ := ud5.x5
  clear ud5
  go_upto_region 12 with fail
  clear xud0_0 xud0_1 xud0_2 xud0_3 xud0_4 xud0_5 xud0_6 xud0_7 xud11_0 xud11_1 xud11_2 xud11_3 xud11_4 xud11_5 xud11_6 xud11_7 xud11_8 xud5_0 xud5_1 xud5_2 xud5_3 xud5_4
  have nn := Cells.new we #[.int .u8 1, .int .u32 a, .int .u16 b, .int .u32 c, .int .u16 d] 33
  have bn : Below we.heap.size we (we.alloc (.cells #[.int .u8 1, .int .u32 a, .int .u16 b, .int .u32 c, .int .u16 d] 33)) := fresh_below _ _
  replace D5 := hide (Cells.below bn D5.out)
  replace D9 := hide (Cells.below bn D9.out)
  replace L0 := hide (bstep L0.out bn)
  clear bn
  generalize hlo : we.heap.size = g13 at nn ⊢
  have log13 := Nat.le_of_eq hlo
  clear hlo
  generalize (we.alloc (.cells #[.int .u8 1, .int .u32 a, .int .u16 b, .int .u32 c, .int .u16 d] 33)) = wf at *
  have kg13 := Cells.lt nn
  have D13 := hide nn
  clear nn
  clear D0 D11 kg11
  have u5 := D5.out; have u9 := D9.out; have u13 := D13.out
  obtain ⟨qu5_0, qu5_1, qu5_2, qu5_3, qu5_4⟩ := u5.q5
  obtain ⟨qu9_0, qu9_1, qu9_2, qu9_3, qu9_4⟩ := u9.q5
  obtain ⟨qu13_0, qu13_1, qu13_2, qu13_3, qu13_4⟩ := u13.q5
  have bb : Below wf.heap.size wf wf := Below.refl _ _
  clear u5 u9 u13
  go_upto_region 19 with (first | (go_at_call 16; (with_reducible refine (P4.out _).mono ?_); rintro em wm ⟨rfl, bm⟩; have bm' := bstep (by assumption : Below wf.heap.size wf _) bm; clear bm) | (go_at_call 16; (with_reducible refine (P5.out _).mono ?_); rintro en wn ⟨rfl, bn⟩; have bn' := bstep (by assumption : Below wf.heap.size wf _) bn; clear bn) | (go_at_call 17; (with_reducible refine (P6.out _).mono ?_); rintro eo wo ⟨rfl, bo⟩; have bo' := bstep (by assumption : Below wf.heap.size wf _) bo; clear bo) | (go_at_call 17; (with_reducible refine (P7.out _).mono ?_); rintro ep wp ⟨rfl, bp⟩; have bp' := bstep (by assumption : Below wf.heap.size wf _) bp; clear bp) | (go_at_call 21; (with_reducible refine (P8.out _ (KK.out.below (bstep L0.out (by assumption)))).mono ?_); rintro ev wv ⟨rfl, bv⟩; have bv' := bstep (by assumption : Below wf.heap.size wf _) bv; clear bv))
  have d13 := Cells.below bv' D13.out; have d9 := Cells.below bv' D9.out
  have ne : g9 ≠ g13 := by have := LT9.out; omega
  have lw : w.heap.size ≤ g13 := by have := LTw.out; omega
  have n13 : Cells (wv.setCell ⟨g13, 2, none⟩ (.int .u16 0)) g13 #[.int .u8 1, .int .u32 a, .int .u16 0, .int .u32 c, .int .u16 d] 33 := d13.set_ 2 (.int .u16 0)
  have n9 := d9.other ne 2 (.int .u16 0)
  have lb := (bstep L0.out bv').setCell (p := ⟨g13, 2, none⟩) lw (.int .u16 0)
  have N13 := hide n13; have N9 := hide n9; have LB := hide lb
  obtain ⟨xd13_0, xd13_1, xd13_2, xd13_3, xd13_4⟩ := d13.x5
  obtain ⟨yd13_0, yd13_1, yd13_2, yd13_3, yd13_4⟩ := d13.y5
  clear n13 n9 lb d13 d9 L0 D5 D9 D13 qu5_0 qu5_1 qu5_2 qu5_3 qu5_4 qu9_0 qu9_1 qu9_2 qu9_3 qu9_4 qu13_0 qu13_1 qu13_2 qu13_3 qu13_4 bb
  go_upto_region 20 with fail
  generalize (wv.setCell ⟨g13, 2, none⟩ (.int .u16 0)) = wh at *
  have u9 := N9.out; have u13 := N13.out; have L0 := LB
  obtain ⟨qu9_0, qu9_1, qu9_2, qu9_3, qu9_4⟩ := u9.q5
  obtain ⟨qu13_0, qu13_1, qu13_2, qu13_3, qu13_4⟩ := u13.q5
  have bb : Below wh.heap.size wh wh := Below.refl _ _
  clear u9 u13 N9 N13 LB
  go_wp2_with (first | (go_at_call 17; (with_reducible refine (P6.out _).mono ?_); rintro eo wo ⟨rfl, bo⟩; have bo' := bstep (by assumption : Below wh.heap.size wh _) bo; clear bo) | (go_at_call 17; (with_reducible refine (P7.out _).mono ?_); rintro ep wp ⟨rfl, bp⟩; have bp' := bstep (by assumption : Below wh.heap.size wh _) bp; clear bp) | (go_at_call 22; (with_reducible refine (P9.out _).mono ?_); rintro eq wq ⟨rfl, bq⟩; have bq' := bstep (by assumption : Below wh.heap.size wh _) bq; clear bq; have bqn := bstep bq' (fresh_below wq (.cells #[.int .u8 h0, .int .u16 h1, .bool h2, .int .u8 h3, .int .u8 h4, .int .u32 h5, .int .u32 h6, .string h7] 65))) | (go_at_call 22; (with_reducible refine (P10.out _).mono ?_); rintro er wr ⟨rfl, br⟩; have br' := bstep (by assumption : Below wh.heap.size wh _) br; clear br; have brn := bstep br' (fresh_below wr (.cells #[.int .u8 y0, .int .u16 y1, .bool y2, .int .u8 y3, .int .u8 y4, .int .u32 y5, .int .u32 y6, .string y7] 65))) | (go_at_call 23; (with_reducible refine (P11.out _ _ (by simp)).mono ?_); rintro e7 w7 ⟨rfl, b7⟩; have b7' := bstep (bstep (by assumption : Below wh.heap.size wh _) (fresh_below _ _)) b7; clear b7) | (go_at_call 23; (with_reducible refine (P12.out _ _ (by simp)).mono ?_); rintro e8 w8 ⟨rfl, b8⟩; have b8' := bstep (bstep (by assumption : Below wh.heap.size wh _) (fresh_below _ _)) b8; clear b8) | (go_at_call 24; (with_reducible refine (P13.out _).mono ?_); rintro es ws ⟨rfl, bs⟩; have bs' := bstep (by assumption : Below wh.heap.size wh _) bs; clear bs) | (go_at_call 24; (with_reducible refine (P14.out _).mono ?_); rintro et wt ⟨rfl, bt⟩; have bt' := bstep (by assumption : Below wh.heap.size wh _) bt; clear bt) | (go_at_call 8; (with_reducible refine (PZ.out _ (TT.out.below (bstep L0.out (by assumption)))).mono ?_); rintro ez wz ⟨rfl, bz⟩; have bz' := bstep (by assumption : Below wh.heap.size wh _) bz; clear bz))
  go_ret
  exact ⟨rfl, bstep L0.out (by assumption)⟩
end Go.Proofs.YtjeaknipmdfkdaaGreatDoor
end
