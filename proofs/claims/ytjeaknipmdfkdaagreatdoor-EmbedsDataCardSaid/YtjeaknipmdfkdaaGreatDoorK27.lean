/- Several texts of this claim, one behind the other. -/
import Derived.Test.YtjeaknipmdfkdaaGreatDoorK2
import Derived.Test.YtjeaknipmdfkdaaGreatDoorK26
import Derived.Test.YtjeaknipmdfkdaaGreatDoorK15
import Derived.Test.YtjeaknipmdfkdaaGreatDoorK18
import Derived.Test.YtjeaknipmdfkdaaGreatDoorK1

section
/- Endpoints and a tuple as texts: at the chapter's example. -/
set_option linter.unusedVariables false
set_option linter.unusedSimpArgs false
namespace Go.Proofs.YtjeaknipmdfkdaaGreatDoor
open Go.RowKit Go.Maps
attribute [local go_sem] Oper.semAt_some

def WordsAt (b : Nat) (w : World) : Prop := w.cell? ⟨1, 0, none⟩ = some (.map (some b)) ∧ ∃ n, w.ownsMap (H := Unit) Tryz.prog 5 (plainElem Tryz.prog 9) b n Rows.laid_porter_tuples_words
theorem Words.at_ {w : World} (h : Words w) : ∃ b, WordsAt b w := by obtain ⟨b, n, h1, h2⟩ := h; exact ⟨b, h1, n, h2⟩
theorem WordsAt.below {b : Nat} {w w' : World} (h : WordsAt b w) (k : Below w.heap.size w w') : WordsAt b w' := by
  obtain ⟨hc, n, es, clock, hb, hF⟩ := h
  exact ⟨cellAt k hc, n, es, clock, (k.block b (Array.getElem?_eq_some_iff.1 hb).1).trans hb, hF⟩
theorem WordsAt.look {b : Nat} {w : World} (h : WordsAt b w) :
    (Instr.lookup 116 (.map (some b)) (.int .u8 17) false).run Tryz.prog w = .ok (.string { data := #[117, 100, 112] }) w ∧
    (Instr.lookup 116 (.map (some b)) (.int .u8 17) true).run Tryz.prog w = .ok (.tuple #[.string { data := #[117, 100, 112] }, .bool true]) w := by
  obtain ⟨hc, n, h2⟩ := h
  obtain ⟨b', h1, h3, h4⟩ := Words.look (w := w) ⟨b, n, hc, h2⟩
  rw [hc] at h1
  injection h1 with h1
  injection h1 with h1
  injection h1 with h1
  subst h1
  exact ⟨h3, h4⟩

set_option maxRecDepth 100000 in
set_option maxHeartbeats 2000000 in
theorem point_a (w : World) (hP : Pow w) : Calls Tryz.prog 55 #[.agg #[.int .u32 84281096, .int .u16 9000]] w (Ret (.string { data := #[53, 46, 54, 46, 55, 46, 56, 58, 57, 48, 48, 48] }) w) := by
  have c1 := fun W h => text_a W h
  have c2 := fun W h => Itoa_ret 9000 ({ data := #[57, 48, 48, 48] }) W (by decide) (by decide) h (by decide +kernel)
  have c3 : ∀ W, Pow W → Calls Tryz.prog 103 #[.int .i64 (IntKind.i64.wrap 9000)] W (Ret (.string ({ data := #[57, 48, 48, 48] })) W) := fun W h => by rw [show IntKind.i64.wrap 9000 = 9000 from by decide]; exact c2 W h
  have HP := hide hP; have C1 := hide c1; have C2 := hide c2; have C3 := hide c3
  clear hP c1 c2 c3
  have e1 : ({ data := #[53, 46, 54, 46, 55, 46, 56] } : ByteArray) ++ { data := #[58] } = { data := #[53, 46, 54, 46, 55, 46, 56, 58] } := by decide +kernel
  have e2 : ({ data := #[53, 46, 54, 46, 55, 46, 56, 58] } : ByteArray) ++ { data := #[57, 48, 48, 48] } = { data := #[53, 46, 54, 46, 55, 46, 56, 58, 57, 48, 48, 48] } := by decide +kernel
  have HE := hide e1; have HE2 := hide e2
  clear e1 e2
  go_enter Tryz.func55, Tryz.ntmps55
  have d0 := Cells.new w #[.int .u32 84281096, .int .u16 9000] 26
  go_wp2_with fail
  have SK := hide (fun (zX zY : World) (zh : (Below w.heap.size w zX ∧ zX.cell? ⟨w.heap.size, 0, none⟩ = some (.int .u32 84281096) ∧ zX.cell? ⟨w.heap.size, 1, none⟩ = some (.int .u16 9000) ∧ True)) (zb : Below zX.heap.size zX zY) => (show (Below w.heap.size w zY ∧ zY.cell? ⟨w.heap.size, 0, none⟩ = some (.int .u32 84281096) ∧ zY.cell? ⟨w.heap.size, 1, none⟩ = some (.int .u16 9000) ∧ True) from ⟨bstep zh.1 zb, cellAt zb zh.2.1, cellAt zb zh.2.2.1, trivial⟩))
  have FS := hide (fun (zX : World) (zh : (Below w.heap.size w zX ∧ zX.cell? ⟨w.heap.size, 0, none⟩ = some (.int .u32 84281096) ∧ zX.cell? ⟨w.heap.size, 1, none⟩ = some (.int .u16 9000) ∧ True)) => zh.1)
  have GS := hide (fun (zX : World) (zh : (Below w.heap.size w zX ∧ zX.cell? ⟨w.heap.size, 0, none⟩ = some (.int .u32 84281096) ∧ zX.cell? ⟨w.heap.size, 1, none⟩ = some (.int .u16 9000) ∧ True)) => zh)
  have hS0 : (Below w.heap.size w (w.alloc (.cells #[.int .u32 84281096, .int .u16 9000] 26)) ∧ (w.alloc (.cells #[.int .u32 84281096, .int .u16 9000] 26)).cell? ⟨w.heap.size, 0, none⟩ = some (.int .u32 84281096) ∧ (w.alloc (.cells #[.int .u32 84281096, .int .u16 9000] 26)).cell? ⟨w.heap.size, 1, none⟩ = some (.int .u16 9000) ∧ True) := ⟨(by (repeat' (first | with_reducible exact Below.refl _ _ | with_reducible refine Below.setCell ?_ (by first | exact Nat.le_refl _ | (dsimp only; omega)) _ | with_reducible refine bstep ?_ (fresh_below _ _) | with_reducible refine Below.drew ?_))), d0.at_ 0, d0.at_ 1, trivial⟩
  go_region_held_law (fun w' => (Below w.heap.size w w' ∧ w'.cell? ⟨w.heap.size, 0, none⟩ = some (.int .u32 84281096) ∧ w'.cell? ⟨w.heap.size, 1, none⟩ = some (.int .u16 9000) ∧ True)) (first | assumption | exact SK.out _ _ hS0 (Below.refl _ _).drew | exact SK.out _ _ hS0 (fresh_below _ _).drew | exact SK.out _ _ (by assumption) (fresh_below _ _) | (refine SK.out _ _ ?_ (by assumption); assumption))
    (first | (go_at_call 102; (with_reducible refine (C1.out _ (HP.out.below (by first | exact FS.out _ (by assumption) | exact bstep (FS.out _ (by assumption)) (fresh_below _ _) | exact bstep (bstep (FS.out _ (by assumption)) (fresh_below _ _)) (fresh_below _ _)))).mono ?_); rintro e wq ⟨rfl, bq⟩) | (go_at_call 103; (with_reducible refine (C2.out _ (HP.out.below (by first | exact FS.out _ (by assumption) | exact bstep (FS.out _ (by assumption)) (fresh_below _ _) | exact bstep (bstep (FS.out _ (by assumption)) (fresh_below _ _)) (fresh_below _ _)))).mono ?_); rintro e wq ⟨rfl, bq⟩) | (go_at_call 103; (with_reducible refine (C3.out _ (HP.out.below (by first | exact FS.out _ (by assumption) | exact bstep (FS.out _ (by assumption)) (fresh_below _ _) | exact bstep (bstep (FS.out _ (by assumption)) (fresh_below _ _)) (fresh_below _ _)))).mono ?_); rintro e wq ⟨rfl, bq⟩))
  all_goals
    go_wp2
    go_ret
    exact ⟨by first | rfl | (rw [HE.out, HE2.out]) | (simp [HE.out, HE2.out]), (by first | exact FS.out _ (by assumption) | exact bstep (FS.out _ (by assumption)) (fresh_below _ _) | exact bstep (bstep (FS.out _ (by assumption)) (fresh_below _ _)) (fresh_below _ _))⟩

set_option maxRecDepth 100000 in
set_option maxHeartbeats 2000000 in
theorem point_b (w : World) (hP : Pow w) : Calls Tryz.prog 55 #[.agg #[.int .u32 16909060, .int .u16 53]] w (Ret (.string { data := #[49, 46, 50, 46, 51, 46, 52, 58, 53, 51] }) w) := by
  have c1 := fun W h => text_b W h
  have c2 := fun W h => Itoa_ret 53 ({ data := #[53, 51] }) W (by decide) (by decide) h (by decide +kernel)
  have c3 : ∀ W, Pow W → Calls Tryz.prog 103 #[.int .i64 (IntKind.i64.wrap 53)] W (Ret (.string ({ data := #[53, 51] })) W) := fun W h => by rw [show IntKind.i64.wrap 53 = 53 from by decide]; exact c2 W h
  have HP := hide hP; have C1 := hide c1; have C2 := hide c2; have C3 := hide c3
  clear hP c1 c2 c3
  have e1 : ({ data := #[49, 46, 50, 46, 51, 46, 52] } : ByteArray) ++ { data := #[58] } = { data := #[49, 46, 50, 46, 51, 46, 52, 58] } := by decide +kernel
  have e2 : ({ data := #[49, 46, 50, 46, 51, 46, 52, 58] } : ByteArray) ++ { data := #[53, 51] } = { data := #[49, 46, 50, 46, 51, 46, 52, 58, 53, 51] } := by decide +kernel
  have HE := hide e1; have HE2 := hide e2
  clear e1 e2
  go_enter Tryz.func55, Tryz.ntmps55
  have d0 := Cells.new w #[.int .u32 16909060, .int .u16 53] 26
  go_wp2_with fail
  have SK := hide (fun (zX zY : World) (zh : (Below w.heap.size w zX ∧ zX.cell? ⟨w.heap.size, 0, none⟩ = some (.int .u32 16909060) ∧ zX.cell? ⟨w.heap.size, 1, none⟩ = some (.int .u16 53) ∧ True)) (zb : Below zX.heap.size zX zY) => (show (Below w.heap.size w zY ∧ zY.cell? ⟨w.heap.size, 0, none⟩ = some (.int .u32 16909060) ∧ zY.cell? ⟨w.heap.size, 1, none⟩ = some (.int .u16 53) ∧ True) from ⟨bstep zh.1 zb, cellAt zb zh.2.1, cellAt zb zh.2.2.1, trivial⟩))
  have FS := hide (fun (zX : World) (zh : (Below w.heap.size w zX ∧ zX.cell? ⟨w.heap.size, 0, none⟩ = some (.int .u32 16909060) ∧ zX.cell? ⟨w.heap.size, 1, none⟩ = some (.int .u16 53) ∧ True)) => zh.1)
  have GS := hide (fun (zX : World) (zh : (Below w.heap.size w zX ∧ zX.cell? ⟨w.heap.size, 0, none⟩ = some (.int .u32 16909060) ∧ zX.cell? ⟨w.heap.size, 1, none⟩ = some (.int .u16 53) ∧ True)) => zh)
  have hS0 : (Below w.heap.size w (w.alloc (.cells #[.int .u32 16909060, .int .u16 53] 26)) ∧ (w.alloc (.cells #[.int .u32 16909060, .int .u16 53] 26)).cell? ⟨w.heap.size, 0, none⟩ = some (.int .u32 16909060) ∧ (w.alloc (.cells #[.int .u32 16909060, .int .u16 53] 26)).cell? ⟨w.heap.size, 1, none⟩ = some (.int .u16 53) ∧ True) := ⟨(by (repeat' (first | with_reducible exact Below.refl _ _ | with_reducible refine Below.setCell ?_ (by first | exact Nat.le_refl _ | (dsimp only; omega)) _ | with_reducible refine bstep ?_ (fresh_below _ _) | with_reducible refine Below.drew ?_))), d0.at_ 0, d0.at_ 1, trivial⟩
  go_region_held_law (fun w' => (Below w.heap.size w w' ∧ w'.cell? ⟨w.heap.size, 0, none⟩ = some (.int .u32 16909060) ∧ w'.cell? ⟨w.heap.size, 1, none⟩ = some (.int .u16 53) ∧ True)) (first | assumption | exact SK.out _ _ hS0 (Below.refl _ _).drew | exact SK.out _ _ hS0 (fresh_below _ _).drew | exact SK.out _ _ (by assumption) (fresh_below _ _) | (refine SK.out _ _ ?_ (by assumption); assumption))
    (first | (go_at_call 102; (with_reducible refine (C1.out _ (HP.out.below (by first | exact FS.out _ (by assumption) | exact bstep (FS.out _ (by assumption)) (fresh_below _ _) | exact bstep (bstep (FS.out _ (by assumption)) (fresh_below _ _)) (fresh_below _ _)))).mono ?_); rintro e wq ⟨rfl, bq⟩) | (go_at_call 103; (with_reducible refine (C2.out _ (HP.out.below (by first | exact FS.out _ (by assumption) | exact bstep (FS.out _ (by assumption)) (fresh_below _ _) | exact bstep (bstep (FS.out _ (by assumption)) (fresh_below _ _)) (fresh_below _ _)))).mono ?_); rintro e wq ⟨rfl, bq⟩) | (go_at_call 103; (with_reducible refine (C3.out _ (HP.out.below (by first | exact FS.out _ (by assumption) | exact bstep (FS.out _ (by assumption)) (fresh_below _ _) | exact bstep (bstep (FS.out _ (by assumption)) (fresh_below _ _)) (fresh_below _ _)))).mono ?_); rintro e wq ⟨rfl, bq⟩))
  all_goals
    go_wp2
    go_ret
    exact ⟨by first | rfl | (rw [HE.out, HE2.out]) | (simp [HE.out, HE2.out]), (by first | exact FS.out _ (by assumption) | exact bstep (FS.out _ (by assumption)) (fresh_below _ _) | exact bstep (bstep (FS.out _ (by assumption)) (fresh_below _ _)) (fresh_below _ _))⟩

set_option maxRecDepth 100000 in
set_option maxHeartbeats 2000000 in
theorem may_a (w : World) (hW : Words w) : Calls Tryz.prog 53 #[.agg #[.int .u8 17, .int .u32 84281096, .int .u16 9000, .int .u32 16909060, .int .u16 53]] w (Ret (.bool true) w) := by
  obtain ⟨b, hb⟩ := (hW.below (fresh_below w (.cells #[.int .u8 17, .int .u32 84281096, .int .u16 9000, .int .u32 16909060, .int .u16 53] 33))).at_
  obtain ⟨h1, h2⟩ := hb.look
  have h3 := hb.1
  clear hW hb
  go_enter Tryz.func53, Tryz.ntmps53
  have d0 := Cells.new w #[.int .u8 17, .int .u32 84281096, .int .u16 9000, .int .u32 16909060, .int .u16 53] 33
  obtain ⟨xd0_0, xd0_1, xd0_2, xd0_3, xd0_4⟩ := d0.x5
  go_wp2_with fail
  go_ret
  exact ⟨rfl, (by (repeat' (first | with_reducible exact Below.refl _ _ | with_reducible refine Below.setCell ?_ (by first | exact Nat.le_refl _ | (dsimp only; omega)) _ | with_reducible refine bstep ?_ (fresh_below _ _) | with_reducible refine Below.drew ?_)))⟩

set_option maxRecDepth 100000 in
set_option maxHeartbeats 4000000 in
theorem tuple_text (w : World) (hT : Tabs w) : Calls Tryz.prog 27 #[.agg #[.int .u8 17, .int .u32 84281096, .int .u16 9000, .int .u32 16909060, .int .u16 53]] w (Ret (.string { data := #[117, 100, 112, 32, 53, 46, 54, 46, 55, 46, 56, 58, 57, 48, 48, 48, 32, 49, 46, 50, 46, 51, 46, 52, 58, 53, 51] }) w) := by
  have hj : (⟨(Lib.join (([{ data := #[117, 100, 112] }, { data := #[53, 46, 54, 46, 55, 46, 56, 58, 57, 48, 48, 48] }, { data := #[49, 46, 50, 46, 51, 46, 52, 58, 53, 51] }] : List ByteArray).map (·.data.toList)) ({ data := #[32] } : ByteArray).data.toList).toArray⟩ : ByteArray) = { data := #[117, 100, 112, 32, 53, 46, 54, 46, 55, 46, 56, 58, 57, 48, 48, 48, 32, 49, 46, 50, 46, 51, 46, 52, 58, 53, 51] } := by decide +kernel
  have c4 : ∀ (W : World) (g : Nat), Row W W.heap.size (some ⟨g, 0, none⟩) 3 [.string { data := #[117, 100, 112] }, .string { data := #[53, 46, 54, 46, 55, 46, 56, 58, 57, 48, 48, 48] }, .string { data := #[49, 46, 50, 46, 51, 46, 52, 58, 53, 51] }] → Calls Tryz.prog 54 #[.slice (some ⟨g, 0, none⟩) 3 3, .string { data := #[32] }] W (Ret (.string { data := #[117, 100, 112, 32, 53, 46, 54, 46, 55, 46, 56, 58, 57, 48, 48, 48, 32, 49, 46, 50, 46, 51, 46, 52, 58, 53, 51] }) W) := fun W g hr => by
    obtain ⟨b', o', he, hb, hc⟩ := hr.2 (by omega)
    injection he with he
    injection he with e1 e2 e3
    subst e1; subst e2
    have := Tryz.strings_Join g 0 3 ([{ data := #[117, 100, 112] }, { data := #[53, 46, 54, 46, 55, 46, 56, 58, 57, 48, 48, 48] }, { data := #[49, 46, 50, 46, 51, 46, 52, 58, 53, 51] }]) ({ data := #[32] }) W (fun j x hx => by
      refine hc j _ ?_
      have := congrArg (Option.map Value.string) hx
      rw [← List.getElem?_map] at this
      exact this) hb (by decide) (Nat.le_refl _) (by decide +kernel)
    rw [hj] at this
    exact this
  have c1 := fun W (h : Words W) => may_a W h
  have c2 := fun W (h : Pow W) => point_a W h
  have c3 := fun W (h : Pow W) => point_b W h
  obtain ⟨b, hb⟩ := hT.2.1.at_
  obtain ⟨-, hWo, hPo⟩ := hT
  have HW := hide hWo; have HPO := hide hPo; have HB := hide hb; have C1 := hide c1; have C2 := hide c2; have C3 := hide c3; have C4 := hide c4
  clear hWo hPo hb c1 c2 c3 c4 hj
  go_enter Tryz.func27, Tryz.ntmps27
  have d0 := Cells.new w #[.int .u8 17, .int .u32 84281096, .int .u16 9000, .int .u32 16909060, .int .u16 53] 33
  obtain ⟨xd0_0, xd0_1, xd0_2, xd0_3, xd0_4⟩ := d0.x5
  go_wp2_with fail
  (with_reducible refine (C1.out _ (HW.out.below (fresh_below _ _))).mono ?_)
  rintro e w1 ⟨rfl, b1⟩
  have d1 := Cells.below b1 d0
  replace b1 : Below w.heap.size w w1 := bstep (fresh_below _ _) b1
  have hw1 := HB.out.below b1
  clear xd0_0 xd0_1 xd0_2 xd0_3 xd0_4 d0
  go_wp2_with fail
  have SK := hide (fun (zX zY : World) (zh : (Below w.heap.size w zX ∧ World.cell? zX ⟨w.heap.size, 0, none⟩ = some (.int .u8 17) ∧ World.cell? zX ⟨w.heap.size, 1, none⟩ = some (.int .u32 84281096) ∧ World.cell? zX ⟨w.heap.size, 2, none⟩ = some (.int .u16 9000) ∧ World.cell? zX ⟨w.heap.size, 3, none⟩ = some (.int .u32 16909060) ∧ World.cell? zX ⟨w.heap.size, 4, none⟩ = some (.int .u16 53) ∧ World.cell? zX ⟨1, 0, none⟩ = some (.map (some b)) ∧ (Instr.lookup 116 (.map (some b)) (.int .u8 17) false).run Tryz.prog zX = .ok (.string { data := #[117, 100, 112] }) zX ∧ WordsAt b zX ∧ True)) (zb : Below zX.heap.size zX zY) => (show (Below w.heap.size w zY ∧ World.cell? zY ⟨w.heap.size, 0, none⟩ = some (.int .u8 17) ∧ World.cell? zY ⟨w.heap.size, 1, none⟩ = some (.int .u32 84281096) ∧ World.cell? zY ⟨w.heap.size, 2, none⟩ = some (.int .u16 9000) ∧ World.cell? zY ⟨w.heap.size, 3, none⟩ = some (.int .u32 16909060) ∧ World.cell? zY ⟨w.heap.size, 4, none⟩ = some (.int .u16 53) ∧ World.cell? zY ⟨1, 0, none⟩ = some (.map (some b)) ∧ (Instr.lookup 116 (.map (some b)) (.int .u8 17) false).run Tryz.prog zY = .ok (.string { data := #[117, 100, 112] }) zY ∧ WordsAt b zY ∧ True) from ⟨bstep zh.1 zb, cellAt zb zh.2.1, cellAt zb zh.2.2.1, cellAt zb zh.2.2.2.1, cellAt zb zh.2.2.2.2.1, cellAt zb zh.2.2.2.2.2.1, cellAt zb zh.2.2.2.2.2.2.1, (zh.2.2.2.2.2.2.2.2.1.below zb).look.1, zh.2.2.2.2.2.2.2.2.1.below zb, trivial⟩))
  have hS0 : (Below w.heap.size w w1 ∧ World.cell? w1 ⟨w.heap.size, 0, none⟩ = some (.int .u8 17) ∧ World.cell? w1 ⟨w.heap.size, 1, none⟩ = some (.int .u32 84281096) ∧ World.cell? w1 ⟨w.heap.size, 2, none⟩ = some (.int .u16 9000) ∧ World.cell? w1 ⟨w.heap.size, 3, none⟩ = some (.int .u32 16909060) ∧ World.cell? w1 ⟨w.heap.size, 4, none⟩ = some (.int .u16 53) ∧ World.cell? w1 ⟨1, 0, none⟩ = some (.map (some b)) ∧ (Instr.lookup 116 (.map (some b)) (.int .u8 17) false).run Tryz.prog w1 = .ok (.string { data := #[117, 100, 112] }) w1 ∧ WordsAt b w1 ∧ True) := ⟨b1, d1.at_ 0, d1.at_ 1, d1.at_ 2, d1.at_ 3, d1.at_ 4, hw1.1, hw1.look.1, hw1, trivial⟩
  have FS := hide (fun (zX : World) (zh : (Below w.heap.size w zX ∧ World.cell? zX ⟨w.heap.size, 0, none⟩ = some (.int .u8 17) ∧ World.cell? zX ⟨w.heap.size, 1, none⟩ = some (.int .u32 84281096) ∧ World.cell? zX ⟨w.heap.size, 2, none⟩ = some (.int .u16 9000) ∧ World.cell? zX ⟨w.heap.size, 3, none⟩ = some (.int .u32 16909060) ∧ World.cell? zX ⟨w.heap.size, 4, none⟩ = some (.int .u16 53) ∧ World.cell? zX ⟨1, 0, none⟩ = some (.map (some b)) ∧ (Instr.lookup 116 (.map (some b)) (.int .u8 17) false).run Tryz.prog zX = .ok (.string { data := #[117, 100, 112] }) zX ∧ WordsAt b zX ∧ True)) => zh.1)
  go_region_held_law (fun w' => (Below w.heap.size w w' ∧ World.cell? w' ⟨w.heap.size, 0, none⟩ = some (.int .u8 17) ∧ World.cell? w' ⟨w.heap.size, 1, none⟩ = some (.int .u32 84281096) ∧ World.cell? w' ⟨w.heap.size, 2, none⟩ = some (.int .u16 9000) ∧ World.cell? w' ⟨w.heap.size, 3, none⟩ = some (.int .u32 16909060) ∧ World.cell? w' ⟨w.heap.size, 4, none⟩ = some (.int .u16 53) ∧ World.cell? w' ⟨1, 0, none⟩ = some (.map (some b)) ∧ (Instr.lookup 116 (.map (some b)) (.int .u8 17) false).run Tryz.prog w' = .ok (.string { data := #[117, 100, 112] }) w' ∧ WordsAt b w' ∧ True)) (first | assumption | exact SK.out _ _ hS0 (Below.refl _ _).drew | exact SK.out _ _ hS0 (fresh_below _ _).drew | exact SK.out _ _ (by assumption) (fresh_below _ _) | (refine SK.out _ _ ?_ (by assumption); assumption))
    (first | (go_at_call 55; (with_reducible refine (C2.out _ (HPO.out.below (by first | exact FS.out _ (by assumption) | exact bstep (FS.out _ (by assumption)) (fresh_below _ _) | exact bstep (bstep (FS.out _ (by assumption)) (fresh_below _ _)) (fresh_below _ _)))).mono ?_); rintro e wq ⟨rfl, bq⟩) | (go_at_call 55; (with_reducible refine (C3.out _ (HPO.out.below (by first | exact FS.out _ (by assumption) | exact bstep (FS.out _ (by assumption)) (fresh_below _ _) | exact bstep (bstep (FS.out _ (by assumption)) (fresh_below _ _)) (fresh_below _ _)))).mono ?_); rintro e wq ⟨rfl, bq⟩) | (go_at_call 54; (with_reducible refine Calls.mono (C4.out _ _ ?_) ?_); (focus ((repeat' (first | with_reducible refine Row.afterdraw ?_ | with_reducible exact Row.freshAt _ _ _ _ _ _ (by first | (simp; done) | fail) rfl rfl | (with_reducible refine Row.rise ?_ (fresh_below _ _)) | (with_reducible refine Row.rise ?_ (by with_reducible assumption)))); (first | done | fail))); rintro e wq ⟨rfl, bq⟩))
  all_goals
    go_wp2
    go_ret
    exact ⟨rfl, (by first | exact FS.out _ (by assumption) | exact bstep (FS.out _ (by assumption)) (fresh_below _ _) | exact bstep (bstep (FS.out _ (by assumption)) (fresh_below _ _)) (fresh_below _ _))⟩
end Go.Proofs.YtjeaknipmdfkdaaGreatDoor
end

section
/- The text of another tuple. -/
set_option linter.unusedVariables false
set_option linter.unusedSimpArgs false
namespace Go.Proofs.YtjeaknipmdfkdaaGreatDoor
open Go.RowKit Go.Maps
attribute [local go_sem] Oper.semAt_some

/-- the texts of an address's bytes -/
def text_c_parts : List Value := [.string { data := #[49, 48] }, .string { data := #[48] }, .string { data := #[48] }, .string { data := #[49] }]
set_option maxRecDepth 100000 in
set_option maxHeartbeats 4000000 in
theorem text_c (w : World) (hP : Pow w) : Calls Tryz.prog 102 #[.int .u32 167772161] w (Ret (.string { data := #[49, 48, 46, 48, 46, 48, 46, 49] }) w) := by
  have hj : (⟨(Lib.join (([{ data := #[49, 48] }, { data := #[48] }, { data := #[48] }, { data := #[49] }] : List ByteArray).map (·.data.toList)) ({ data := #[46] } : ByteArray).data.toList).toArray⟩ : ByteArray) = { data := #[49, 48, 46, 48, 46, 48, 46, 49] } := by decide +kernel
  have y0 : wrap64 (bits .and .u32 10 255) = 10 := by decide +kernel
  have c0 := fun W (h : Pow W) => Itoa_ret 10 ({ data := #[49, 48] }) W (by decide) (by decide) h (by decide +kernel)
  have y1 : wrap64 (bits .and .u32 2560 255) = 0 := by decide +kernel
  have c1 := fun W (h : Pow W) => Itoa_ret 0 ({ data := #[48] }) W (by decide) (by decide) h (by decide +kernel)
  have y2 : wrap64 (bits .and .u32 655360 255) = 0 := by decide +kernel
  have c2 := fun W (h : Pow W) => Itoa_ret 0 ({ data := #[48] }) W (by decide) (by decide) h (by decide +kernel)
  have y3 : wrap64 (bits .and .u32 167772161 255) = 1 := by decide +kernel
  have c3 := fun W (h : Pow W) => Itoa_ret 1 ({ data := #[49] }) W (by decide) (by decide) h (by decide +kernel)
  have c4 : ∀ (W : World) (g cap : Nat), (∀ (j : Nat) x, ([{ data := #[49, 48] }, { data := #[48] }, { data := #[48] }, { data := #[49] }] : List ByteArray)[j]? = some x → W.cell? ⟨g, 0 + j, none⟩ = some (.string x)) → g < W.heap.size → 4 ≤ cap → Calls Tryz.prog 54 #[.slice (some ⟨g, 0, none⟩) 4 cap, .string { data := #[46] }] W (Ret (.string { data := #[49, 48, 46, 48, 46, 48, 46, 49] }) W) := fun W g cap h1 h2 h3 => by
    have := Tryz.strings_Join g 0 cap ([{ data := #[49, 48] }, { data := #[48] }, { data := #[48] }, { data := #[49] }]) ({ data := #[46] }) W h1 h2 (by decide) h3 (by decide +kernel)
    rw [hj] at this
    exact this
  have HP := hide hP; have C4 := hide c4
  have C0 := hide c0; have C1 := hide c1; have C2 := hide c2; have C3 := hide c3
  clear hP hj c0 c1 c2 c3 c4
  have infoStr : (Tryz.prog.info? 9).map (fun i => (i.zero, i.size, i.bytes)) = some (some (.string { data := #[] }), 1, 16) := by kernel_rfl
  obtain ⟨i0, hi, hz0, hz1, hz2⟩ := info_parts infoStr
  go_enter Tryz.func102, Tryz.ntmps102
  go_wp2
  go_loopw [3, 4] (fun v i wr => ∃ k : Nat, k ≤ 4 ∧ i = .int .i64 (24 - 8 * (k : Int)) ∧ wr.ownsRow w.heap.size 9 1 v k (text_c_parts.take k) ∧ Below w.heap.size w wr) (fun _ i _ => (intOf i + 8).toNat)
  case atStart => exact ⟨0, by omega, rfl, ⟨rfl, .inl ⟨rfl, rfl⟩⟩, Below.refl _ _⟩
  case round =>
    obtain ⟨k, hk, rfl, hown, hbel⟩ := hrel
    have hcase : k = 0 ∨ k = 1 ∨ k = 2 ∨ k = 3 ∨ k = 4 := by omega
    rcases hcase with rfl | rfl | rfl | rfl | rfl
    · have HO := hide hown
      clear hown
      go_wp2_with fail
      (with_reducible refine (C0.out _ (HP.out.below hbel)).mono ?_)
      rintro e w1 ⟨rfl, b1⟩
      have hown1 := HO.out.kept (grown_of b1) (Classical.em _)
      have hb1 : Below w.heap.size w w1 := bstep hbel b1
      clear b1 HO
      have hown2 := hown1.alloc (.cells #[.string ({ data := #[49, 48] })] 9)
      have hbase : w.heap.size ≤ w1.heap.size := hb1.size
      go_wp2_with (at_builtin; refine wpList_append_own _ rfl _ _ 97 rfl w.heap.size 9 i0 (.string { data := #[] }) 1 16 Tryz.underlying97 hi hz0 hz1 hz2 rfl (by decide) _ 0 (text_c_parts.take 0) rfl hown2 ⟨w1.heap.size, 0, none⟩ 1 1 [.string ({ data := #[49, 48] })] rfl rfl ?q1 ?q2 ?q3 ?q4 ?q5 ?_)
      case q1 =>
        intro j u hj
        match j, hj with
        | 0, hj => simp at hj; subst hj; simp [Addr.add]
      case q2 => intro u hu; simp at hu; subst hu; rfl
      case q3 => unfold maxLen; omega
      case q4 => omega
      case q5 => simp; omega
      intro v' w2 hown hgrow _
      have hb2 : Below w.heap.size w w2 := (bstep hb1 (fresh_below w1 (.cells #[.string ({ data := #[49, 48] })] 9))).grown hgrow (by simp; omega) (owns_block hown2)
      go_wp2_with fail
      go_roundw
      case rel => exact ⟨1, by omega, by go_num, hown, hb2⟩
      case measure => simp [intOf]
    · have HO := hide hown
      clear hown
      go_wp2_with fail
      (with_reducible refine (C1.out _ (HP.out.below hbel)).mono ?_)
      rintro e w1 ⟨rfl, b1⟩
      have hown1 := HO.out.kept (grown_of b1) (Classical.em _)
      have hb1 : Below w.heap.size w w1 := bstep hbel b1
      clear b1 HO
      have hown2 := hown1.alloc (.cells #[.string ({ data := #[48] })] 9)
      have hbase : w.heap.size ≤ w1.heap.size := hb1.size
      go_wp2_with (at_builtin; refine wpList_append_own _ rfl _ _ 97 rfl w.heap.size 9 i0 (.string { data := #[] }) 1 16 Tryz.underlying97 hi hz0 hz1 hz2 rfl (by decide) _ 1 (text_c_parts.take 1) rfl hown2 ⟨w1.heap.size, 0, none⟩ 1 1 [.string ({ data := #[48] })] rfl rfl ?q1 ?q2 ?q3 ?q4 ?q5 ?_)
      case q1 =>
        intro j u hj
        match j, hj with
        | 0, hj => simp at hj; subst hj; simp [Addr.add]
      case q2 => intro u hu; simp at hu; subst hu; rfl
      case q3 => unfold maxLen; omega
      case q4 => omega
      case q5 => simp; omega
      intro v' w2 hown hgrow _
      have hb2 : Below w.heap.size w w2 := (bstep hb1 (fresh_below w1 (.cells #[.string ({ data := #[48] })] 9))).grown hgrow (by simp; omega) (owns_block hown2)
      go_wp2_with fail
      go_roundw
      case rel => exact ⟨2, by omega, by go_num, hown, hb2⟩
      case measure => simp [intOf]
    · have HO := hide hown
      clear hown
      go_wp2_with fail
      (with_reducible refine (C2.out _ (HP.out.below hbel)).mono ?_)
      rintro e w1 ⟨rfl, b1⟩
      have hown1 := HO.out.kept (grown_of b1) (Classical.em _)
      have hb1 : Below w.heap.size w w1 := bstep hbel b1
      clear b1 HO
      have hown2 := hown1.alloc (.cells #[.string ({ data := #[48] })] 9)
      have hbase : w.heap.size ≤ w1.heap.size := hb1.size
      go_wp2_with (at_builtin; refine wpList_append_own _ rfl _ _ 97 rfl w.heap.size 9 i0 (.string { data := #[] }) 1 16 Tryz.underlying97 hi hz0 hz1 hz2 rfl (by decide) _ 2 (text_c_parts.take 2) rfl hown2 ⟨w1.heap.size, 0, none⟩ 1 1 [.string ({ data := #[48] })] rfl rfl ?q1 ?q2 ?q3 ?q4 ?q5 ?_)
      case q1 =>
        intro j u hj
        match j, hj with
        | 0, hj => simp at hj; subst hj; simp [Addr.add]
      case q2 => intro u hu; simp at hu; subst hu; rfl
      case q3 => unfold maxLen; omega
      case q4 => omega
      case q5 => simp; omega
      intro v' w2 hown hgrow _
      have hb2 : Below w.heap.size w w2 := (bstep hb1 (fresh_below w1 (.cells #[.string ({ data := #[48] })] 9))).grown hgrow (by simp; omega) (owns_block hown2)
      go_wp2_with fail
      go_roundw
      case rel => exact ⟨3, by omega, by go_num, hown, hb2⟩
      case measure => simp [intOf]
    · have HO := hide hown
      clear hown
      go_wp2_with fail
      (with_reducible refine (C3.out _ (HP.out.below hbel)).mono ?_)
      rintro e w1 ⟨rfl, b1⟩
      have hown1 := HO.out.kept (grown_of b1) (Classical.em _)
      have hb1 : Below w.heap.size w w1 := bstep hbel b1
      clear b1 HO
      have hown2 := hown1.alloc (.cells #[.string ({ data := #[49] })] 9)
      have hbase : w.heap.size ≤ w1.heap.size := hb1.size
      go_wp2_with (at_builtin; refine wpList_append_own _ rfl _ _ 97 rfl w.heap.size 9 i0 (.string { data := #[] }) 1 16 Tryz.underlying97 hi hz0 hz1 hz2 rfl (by decide) _ 3 (text_c_parts.take 3) rfl hown2 ⟨w1.heap.size, 0, none⟩ 1 1 [.string ({ data := #[49] })] rfl rfl ?q1 ?q2 ?q3 ?q4 ?q5 ?_)
      case q1 =>
        intro j u hj
        match j, hj with
        | 0, hj => simp at hj; subst hj; simp [Addr.add]
      case q2 => intro u hu; simp at hu; subst hu; rfl
      case q3 => unfold maxLen; omega
      case q4 => omega
      case q5 => simp; omega
      intro v' w2 hown hgrow _
      have hb2 : Below w.heap.size w w2 := (bstep hb1 (fresh_below w1 (.cells #[.string ({ data := #[49] })] 9))).grown hgrow (by simp; omega) (owns_block hown2)
      go_wp2_with fail
      go_roundw
      case rel => exact ⟨4, by omega, by go_num, hown, hb2⟩
      case measure => simp [intOf]
    · obtain ⟨g, cap, rfl⟩ := owns_at hown (by omega)
      obtain ⟨hcap, hg⟩ := owns_cap hown
      have hrow := row_of_owns hown
      have hcs : ∀ (j : Nat) x, ([{ data := #[49, 48] }, { data := #[48] }, { data := #[48] }, { data := #[49] }] : List ByteArray)[j]? = some x → wr.cell? ⟨g, 0 + j, none⟩ = some (.string x) := by
        intro j x hx
        obtain ⟨b', o', he, hb, hc⟩ := hrow.2 (by omega)
        injection he with he
        injection he with e1 e2 e3
        subst e1; subst e2
        refine hc j _ ?_
        have := congrArg (Option.map Value.string) hx
        rw [← List.getElem?_map] at this
        exact this
      have c5 := C4.out wr g cap hcs hg hcap
      have C5 := hide c5
      clear hcs hrow hown c5 hcap hg
      go_wp2_with fail
      (with_reducible refine (C5.out).mono ?_)
      rintro e w1 ⟨rfl, b1⟩
      replace b1 : Below w.heap.size w w1 := bstep hbel b1
      go_wp2_with fail
      go_ret
      exact ⟨rfl, b1⟩

set_option maxRecDepth 100000 in
set_option maxHeartbeats 2000000 in
theorem point_c (w : World) (hP : Pow w) : Calls Tryz.prog 55 #[.agg #[.int .u32 167772161, .int .u16 5]] w (Ret (.string { data := #[49, 48, 46, 48, 46, 48, 46, 49, 58, 53] }) w) := by
  have c1 := fun W h => text_c W h
  have c2 := fun W h => Itoa_ret 5 ({ data := #[53] }) W (by decide) (by decide) h (by decide +kernel)
  have c3 : ∀ W, Pow W → Calls Tryz.prog 103 #[.int .i64 (IntKind.i64.wrap 5)] W (Ret (.string ({ data := #[53] })) W) := fun W h => by rw [show IntKind.i64.wrap 5 = 5 from by decide]; exact c2 W h
  have HP := hide hP; have C1 := hide c1; have C2 := hide c2; have C3 := hide c3
  clear hP c1 c2 c3
  have e1 : ({ data := #[49, 48, 46, 48, 46, 48, 46, 49] } : ByteArray) ++ { data := #[58] } = { data := #[49, 48, 46, 48, 46, 48, 46, 49, 58] } := by decide +kernel
  have e2 : ({ data := #[49, 48, 46, 48, 46, 48, 46, 49, 58] } : ByteArray) ++ { data := #[53] } = { data := #[49, 48, 46, 48, 46, 48, 46, 49, 58, 53] } := by decide +kernel
  have HE := hide e1; have HE2 := hide e2
  clear e1 e2
  go_enter Tryz.func55, Tryz.ntmps55
  have d0 := Cells.new w #[.int .u32 167772161, .int .u16 5] 26
  go_wp2_with fail
  have SK := hide (fun (zX zY : World) (zh : (Below w.heap.size w zX ∧ zX.cell? ⟨w.heap.size, 0, none⟩ = some (.int .u32 167772161) ∧ zX.cell? ⟨w.heap.size, 1, none⟩ = some (.int .u16 5) ∧ True)) (zb : Below zX.heap.size zX zY) => (show (Below w.heap.size w zY ∧ zY.cell? ⟨w.heap.size, 0, none⟩ = some (.int .u32 167772161) ∧ zY.cell? ⟨w.heap.size, 1, none⟩ = some (.int .u16 5) ∧ True) from ⟨bstep zh.1 zb, cellAt zb zh.2.1, cellAt zb zh.2.2.1, trivial⟩))
  have FS := hide (fun (zX : World) (zh : (Below w.heap.size w zX ∧ zX.cell? ⟨w.heap.size, 0, none⟩ = some (.int .u32 167772161) ∧ zX.cell? ⟨w.heap.size, 1, none⟩ = some (.int .u16 5) ∧ True)) => zh.1)
  have GS := hide (fun (zX : World) (zh : (Below w.heap.size w zX ∧ zX.cell? ⟨w.heap.size, 0, none⟩ = some (.int .u32 167772161) ∧ zX.cell? ⟨w.heap.size, 1, none⟩ = some (.int .u16 5) ∧ True)) => zh)
  have hS0 : (Below w.heap.size w (w.alloc (.cells #[.int .u32 167772161, .int .u16 5] 26)) ∧ (w.alloc (.cells #[.int .u32 167772161, .int .u16 5] 26)).cell? ⟨w.heap.size, 0, none⟩ = some (.int .u32 167772161) ∧ (w.alloc (.cells #[.int .u32 167772161, .int .u16 5] 26)).cell? ⟨w.heap.size, 1, none⟩ = some (.int .u16 5) ∧ True) := ⟨(by (repeat' (first | with_reducible exact Below.refl _ _ | with_reducible refine Below.setCell ?_ (by first | exact Nat.le_refl _ | (dsimp only; omega)) _ | with_reducible refine bstep ?_ (fresh_below _ _) | with_reducible refine Below.drew ?_))), d0.at_ 0, d0.at_ 1, trivial⟩
  go_region_held_law (fun w' => (Below w.heap.size w w' ∧ w'.cell? ⟨w.heap.size, 0, none⟩ = some (.int .u32 167772161) ∧ w'.cell? ⟨w.heap.size, 1, none⟩ = some (.int .u16 5) ∧ True)) (first | assumption | exact SK.out _ _ hS0 (Below.refl _ _).drew | exact SK.out _ _ hS0 (fresh_below _ _).drew | exact SK.out _ _ (by assumption) (fresh_below _ _) | (refine SK.out _ _ ?_ (by assumption); assumption))
    (first | (go_at_call 102; (with_reducible refine (C1.out _ (HP.out.below (by first | exact FS.out _ (by assumption) | exact bstep (FS.out _ (by assumption)) (fresh_below _ _) | exact bstep (bstep (FS.out _ (by assumption)) (fresh_below _ _)) (fresh_below _ _)))).mono ?_); rintro e wq ⟨rfl, bq⟩) | (go_at_call 103; (with_reducible refine (C2.out _ (HP.out.below (by first | exact FS.out _ (by assumption) | exact bstep (FS.out _ (by assumption)) (fresh_below _ _) | exact bstep (bstep (FS.out _ (by assumption)) (fresh_below _ _)) (fresh_below _ _)))).mono ?_); rintro e wq ⟨rfl, bq⟩) | (go_at_call 103; (with_reducible refine (C3.out _ (HP.out.below (by first | exact FS.out _ (by assumption) | exact bstep (FS.out _ (by assumption)) (fresh_below _ _) | exact bstep (bstep (FS.out _ (by assumption)) (fresh_below _ _)) (fresh_below _ _)))).mono ?_); rintro e wq ⟨rfl, bq⟩))
  all_goals
    go_wp2
    go_ret
    exact ⟨by first | rfl | (rw [HE.out, HE2.out]) | (simp [HE.out, HE2.out]), (by first | exact FS.out _ (by assumption) | exact bstep (FS.out _ (by assumption)) (fresh_below _ _) | exact bstep (bstep (FS.out _ (by assumption)) (fresh_below _ _)) (fresh_below _ _))⟩

set_option maxRecDepth 100000 in
set_option maxHeartbeats 2000000 in
theorem may_c (w : World) (hW : Words w) : Calls Tryz.prog 53 #[.agg #[.int .u8 17, .int .u32 167772161, .int .u16 5, .int .u32 16909060, .int .u16 53]] w (Ret (.bool true) w) := by
  obtain ⟨b, hb⟩ := (hW.below (fresh_below w (.cells #[.int .u8 17, .int .u32 167772161, .int .u16 5, .int .u32 16909060, .int .u16 53] 33))).at_
  obtain ⟨h1, h2⟩ := hb.look
  have h3 := hb.1
  clear hW hb
  go_enter Tryz.func53, Tryz.ntmps53
  have d0 := Cells.new w #[.int .u8 17, .int .u32 167772161, .int .u16 5, .int .u32 16909060, .int .u16 53] 33
  obtain ⟨xd0_0, xd0_1, xd0_2, xd0_3, xd0_4⟩ := d0.x5
  go_wp2_with fail
  go_ret
  exact ⟨rfl, (by (repeat' (first | with_reducible exact Below.refl _ _ | with_reducible refine Below.setCell ?_ (by first | exact Nat.le_refl _ | (dsimp only; omega)) _ | with_reducible refine bstep ?_ (fresh_below _ _) | with_reducible refine Below.drew ?_)))⟩

set_option maxRecDepth 100000 in
set_option maxHeartbeats 4000000 in
theorem tuple_text2 (w : World) (hT : Tabs w) : Calls Tryz.prog 27 #[.agg #[.int .u8 17, .int .u32 167772161, .int .u16 5, .int .u32 16909060, .int .u16 53]] w (Ret (.string { data := #[117, 100, 112, 32, 49, 48, 46, 48, 46, 48, 46, 49, 58, 53, 32, 49, 46, 50, 46, 51, 46, 52, 58, 53, 51] }) w) := by
  have hj : (⟨(Lib.join (([{ data := #[117, 100, 112] }, { data := #[49, 48, 46, 48, 46, 48, 46, 49, 58, 53] }, { data := #[49, 46, 50, 46, 51, 46, 52, 58, 53, 51] }] : List ByteArray).map (·.data.toList)) ({ data := #[32] } : ByteArray).data.toList).toArray⟩ : ByteArray) = { data := #[117, 100, 112, 32, 49, 48, 46, 48, 46, 48, 46, 49, 58, 53, 32, 49, 46, 50, 46, 51, 46, 52, 58, 53, 51] } := by decide +kernel
  have c4 : ∀ (W : World) (g : Nat), Row W W.heap.size (some ⟨g, 0, none⟩) 3 [.string { data := #[117, 100, 112] }, .string { data := #[49, 48, 46, 48, 46, 48, 46, 49, 58, 53] }, .string { data := #[49, 46, 50, 46, 51, 46, 52, 58, 53, 51] }] → Calls Tryz.prog 54 #[.slice (some ⟨g, 0, none⟩) 3 3, .string { data := #[32] }] W (Ret (.string { data := #[117, 100, 112, 32, 49, 48, 46, 48, 46, 48, 46, 49, 58, 53, 32, 49, 46, 50, 46, 51, 46, 52, 58, 53, 51] }) W) := fun W g hr => by
    obtain ⟨b', o', he, hb, hc⟩ := hr.2 (by omega)
    injection he with he
    injection he with e1 e2 e3
    subst e1; subst e2
    have := Tryz.strings_Join g 0 3 ([{ data := #[117, 100, 112] }, { data := #[49, 48, 46, 48, 46, 48, 46, 49, 58, 53] }, { data := #[49, 46, 50, 46, 51, 46, 52, 58, 53, 51] }]) ({ data := #[32] }) W (fun j x hx => by
      refine hc j _ ?_
      have := congrArg (Option.map Value.string) hx
      rw [← List.getElem?_map] at this
      exact this) hb (by decide) (Nat.le_refl _) (by decide +kernel)
    rw [hj] at this
    exact this
  have c1 := fun W (h : Words W) => may_c W h
  have c2 := fun W (h : Pow W) => point_c W h
  have c3 := fun W (h : Pow W) => point_b W h
  obtain ⟨b, hb⟩ := hT.2.1.at_
  obtain ⟨-, hWo, hPo⟩ := hT
  have HW := hide hWo; have HPO := hide hPo; have HB := hide hb; have C1 := hide c1; have C2 := hide c2; have C3 := hide c3; have C4 := hide c4
  clear hWo hPo hb c1 c2 c3 c4 hj
  go_enter Tryz.func27, Tryz.ntmps27
  have d0 := Cells.new w #[.int .u8 17, .int .u32 167772161, .int .u16 5, .int .u32 16909060, .int .u16 53] 33
  obtain ⟨xd0_0, xd0_1, xd0_2, xd0_3, xd0_4⟩ := d0.x5
  go_wp2_with fail
  (with_reducible refine (C1.out _ (HW.out.below (fresh_below _ _))).mono ?_)
  rintro e w1 ⟨rfl, b1⟩
  have d1 := Cells.below b1 d0
  replace b1 : Below w.heap.size w w1 := bstep (fresh_below _ _) b1
  have hw1 := HB.out.below b1
  clear xd0_0 xd0_1 xd0_2 xd0_3 xd0_4 d0
  go_wp2_with fail
  have SK := hide (fun (zX zY : World) (zh : (Below w.heap.size w zX ∧ World.cell? zX ⟨w.heap.size, 0, none⟩ = some (.int .u8 17) ∧ World.cell? zX ⟨w.heap.size, 1, none⟩ = some (.int .u32 167772161) ∧ World.cell? zX ⟨w.heap.size, 2, none⟩ = some (.int .u16 5) ∧ World.cell? zX ⟨w.heap.size, 3, none⟩ = some (.int .u32 16909060) ∧ World.cell? zX ⟨w.heap.size, 4, none⟩ = some (.int .u16 53) ∧ World.cell? zX ⟨1, 0, none⟩ = some (.map (some b)) ∧ (Instr.lookup 116 (.map (some b)) (.int .u8 17) false).run Tryz.prog zX = .ok (.string { data := #[117, 100, 112] }) zX ∧ WordsAt b zX ∧ True)) (zb : Below zX.heap.size zX zY) => (show (Below w.heap.size w zY ∧ World.cell? zY ⟨w.heap.size, 0, none⟩ = some (.int .u8 17) ∧ World.cell? zY ⟨w.heap.size, 1, none⟩ = some (.int .u32 167772161) ∧ World.cell? zY ⟨w.heap.size, 2, none⟩ = some (.int .u16 5) ∧ World.cell? zY ⟨w.heap.size, 3, none⟩ = some (.int .u32 16909060) ∧ World.cell? zY ⟨w.heap.size, 4, none⟩ = some (.int .u16 53) ∧ World.cell? zY ⟨1, 0, none⟩ = some (.map (some b)) ∧ (Instr.lookup 116 (.map (some b)) (.int .u8 17) false).run Tryz.prog zY = .ok (.string { data := #[117, 100, 112] }) zY ∧ WordsAt b zY ∧ True) from ⟨bstep zh.1 zb, cellAt zb zh.2.1, cellAt zb zh.2.2.1, cellAt zb zh.2.2.2.1, cellAt zb zh.2.2.2.2.1, cellAt zb zh.2.2.2.2.2.1, cellAt zb zh.2.2.2.2.2.2.1, (zh.2.2.2.2.2.2.2.2.1.below zb).look.1, zh.2.2.2.2.2.2.2.2.1.below zb, trivial⟩))
  have hS0 : (Below w.heap.size w w1 ∧ World.cell? w1 ⟨w.heap.size, 0, none⟩ = some (.int .u8 17) ∧ World.cell? w1 ⟨w.heap.size, 1, none⟩ = some (.int .u32 167772161) ∧ World.cell? w1 ⟨w.heap.size, 2, none⟩ = some (.int .u16 5) ∧ World.cell? w1 ⟨w.heap.size, 3, none⟩ = some (.int .u32 16909060) ∧ World.cell? w1 ⟨w.heap.size, 4, none⟩ = some (.int .u16 53) ∧ World.cell? w1 ⟨1, 0, none⟩ = some (.map (some b)) ∧ (Instr.lookup 116 (.map (some b)) (.int .u8 17) false).run Tryz.prog w1 = .ok (.string { data := #[117, 100, 112] }) w1 ∧ WordsAt b w1 ∧ True) := ⟨b1, d1.at_ 0, d1.at_ 1, d1.at_ 2, d1.at_ 3, d1.at_ 4, hw1.1, hw1.look.1, hw1, trivial⟩
  have FS := hide (fun (zX : World) (zh : (Below w.heap.size w zX ∧ World.cell? zX ⟨w.heap.size, 0, none⟩ = some (.int .u8 17) ∧ World.cell? zX ⟨w.heap.size, 1, none⟩ = some (.int .u32 167772161) ∧ World.cell? zX ⟨w.heap.size, 2, none⟩ = some (.int .u16 5) ∧ World.cell? zX ⟨w.heap.size, 3, none⟩ = some (.int .u32 16909060) ∧ World.cell? zX ⟨w.heap.size, 4, none⟩ = some (.int .u16 53) ∧ World.cell? zX ⟨1, 0, none⟩ = some (.map (some b)) ∧ (Instr.lookup 116 (.map (some b)) (.int .u8 17) false).run Tryz.prog zX = .ok (.string { data := #[117, 100, 112] }) zX ∧ WordsAt b zX ∧ True)) => zh.1)
  go_region_held_law (fun w' => (Below w.heap.size w w' ∧ World.cell? w' ⟨w.heap.size, 0, none⟩ = some (.int .u8 17) ∧ World.cell? w' ⟨w.heap.size, 1, none⟩ = some (.int .u32 167772161) ∧ World.cell? w' ⟨w.heap.size, 2, none⟩ = some (.int .u16 5) ∧ World.cell? w' ⟨w.heap.size, 3, none⟩ = some (.int .u32 16909060) ∧ World.cell? w' ⟨w.heap.size, 4, none⟩ = some (.int .u16 53) ∧ World.cell? w' ⟨1, 0, none⟩ = some (.map (some b)) ∧ (Instr.lookup 116 (.map (some b)) (.int .u8 17) false).run Tryz.prog w' = .ok (.string { data := #[117, 100, 112] }) w' ∧ WordsAt b w' ∧ True)) (first | assumption | exact SK.out _ _ hS0 (Below.refl _ _).drew | exact SK.out _ _ hS0 (fresh_below _ _).drew | exact SK.out _ _ (by assumption) (fresh_below _ _) | (refine SK.out _ _ ?_ (by assumption); assumption))
    (first | (go_at_call 55; (with_reducible refine (C2.out _ (HPO.out.below (by first | exact FS.out _ (by assumption) | exact bstep (FS.out _ (by assumption)) (fresh_below _ _) | exact bstep (bstep (FS.out _ (by assumption)) (fresh_below _ _)) (fresh_below _ _)))).mono ?_); rintro e wq ⟨rfl, bq⟩) | (go_at_call 55; (with_reducible refine (C3.out _ (HPO.out.below (by first | exact FS.out _ (by assumption) | exact bstep (FS.out _ (by assumption)) (fresh_below _ _) | exact bstep (bstep (FS.out _ (by assumption)) (fresh_below _ _)) (fresh_below _ _)))).mono ?_); rintro e wq ⟨rfl, bq⟩) | (go_at_call 54; (with_reducible refine Calls.mono (C4.out _ _ ?_) ?_); (focus ((repeat' (first | with_reducible refine Row.afterdraw ?_ | with_reducible exact Row.freshAt _ _ _ _ _ _ (by first | (simp; done) | fail) rfl rfl | (with_reducible refine Row.rise ?_ (fresh_below _ _)) | (with_reducible refine Row.rise ?_ (by with_reducible assumption)))); (first | done | fail))); rintro e wq ⟨rfl, bq⟩))
  all_goals
    go_wp2
    go_ret
    exact ⟨rfl, (by first | exact FS.out _ (by assumption) | exact bstep (FS.out _ (by assumption)) (fresh_below _ _) | exact bstep (bstep (FS.out _ (by assumption)) (fresh_below _ _)) (fresh_below _ _))⟩
end Go.Proofs.YtjeaknipmdfkdaaGreatDoor
end

section
/- embeds.flow: ports changed, and a sum, over this program. -/
set_option linter.unusedVariables false
set_option linter.unusedSimpArgs false
namespace Go.Proofs.YtjeaknipmdfkdaaGreatDoor
open Go.RowKit
attribute [local go_sem] Oper.semAt_some envL lookV

theorem e_layEm (W : World) (B : Nat) (s : ByteArray) (e : Int) (t : Tup) (q : Bool) (k : Nat) (p : ByteArray) (hC : Em W B s e t q) (hs : s.size ≤ 140737488351232) (h : k + p.size ≤ s.size) (n : ByteArray) (hn : S ((L s).take k ++ (L p ++ (L s).drop (k + p.size))) = n) :
    Calls Tryz.prog 33 #[.pointer (some ⟨B, 0, none⟩), .int .i64 k, .string p] W (fun en w' => en = .returned (.tuple #[]) ∧ Em w' B n e t q ∧ Only (fun i => i = B) W w') :=
  (e_lay W B _ _ s k p hC rfl hs h).mono (by
    rintro en w' ⟨h1, h2, h3⟩
    rw [hn] at h2
    exact ⟨h1, Cells.like h2 (by simp [emCells]), h3⟩)
theorem word_one (n : Int) (h : 0 ≤ n ∧ n ≤ 65535) (W : World) (A : Option Addr) (hR : Row W W.heap.size A 1 [.int .u16 n]) : Calls Tryz.prog 34 #[.slice A 1 1] W (Ret (.string (S (put16 n))) W) := by
  have c := Word A 1 1 [n] W hR (by intro x hx; simp only [List.mem_cons, List.not_mem_nil, or_false] at hx; rw [hx]; exact h) (by omega)
  rwa [putW_one] at c
set_option maxRecDepth 100000 in
set_option maxHeartbeats 16000000 in
theorem e_flow (w : World) (B : Nat) (s : ByteArray) (e : Nat) (t : Tup) (q : Bool) (a b c d : Int) (k : Nat) (hC : Em w B s e t q) (ht : t.Ok) (ha : 0 ≤ a ∧ a ≤ 4294967295) (hb : 0 ≤ b ∧ b ≤ 65535) (hc : 0 ≤ c ∧ c ≤ 4294967295) (hd : 0 ≤ d ∧ d ≤ 65535) (hs : s.size ≤ 140737488351232) (h : e + 8 ≤ s.size) (he : e ≤ 60) (hk : (t.p = 6 ∧ k = 16) ∨ (t.p = 17 ∧ k = 6)) :
    Calls Tryz.prog 65 #[.pointer (some ⟨B, 0, none⟩), .agg #[.int .u32 a, .int .u16 b, .int .u32 c, .int .u16 d], .int .i64 k] w (Turned w B (emCells (S (emFlow (L s) e t a b c d k)) e t q) 79) := by
  have hsL : (L s).length = s.size := L_length s
  obtain ⟨l1, hl1⟩ : ∃ l1, l1 = emFlowL (L s) e b d := ⟨_, rfl⟩
  have hl1n : l1.length = s.size := by rw [hl1, emFlowL_len (by omega), hsL]
  obtain ⟨zk, hzk⟩ : ∃ zk : Nat, zk = e + k := ⟨_, rfl⟩
  obtain ⟨was, hwas⟩ : ∃ was, was = get16 l1 ((e + k : Nat) : Int) := ⟨_, rfl⟩
  have hwb : 0 ≤ was ∧ was ≤ 65535 := by rw [hwas]; exact get16_bd _ _
  obtain ⟨n, hn⟩ : ∃ n, n = emFlowN (L s) e t a b c d k := ⟨_, rfl⟩
  have hnb : 0 ≤ n ∧ n ≤ 65535 := by rw [hn]; exact emFlowN_bd _ _ _ _ _ _ _ _
  obtain ⟨i1, hi1⟩ : ∃ i1, i1 = S (ipsOf t.a t.c) := ⟨_, rfl⟩
  obtain ⟨p1, hp1⟩ : ∃ p1, p1 = S (putW [t.b, t.d]) := ⟨_, rfl⟩
  obtain ⟨i2, hi2⟩ : ∃ i2, i2 = S (ipsOf a c) := ⟨_, rfl⟩
  obtain ⟨p2, hp2⟩ : ∃ p2, p2 = S (putW [b, d]) := ⟨_, rfl⟩
  have ce1 := fun W => e_ends t.a t.b t.c t.d W ht.2.1 ht.2.2.1 ht.2.2.2.1 ht.2.2.2.2
  have ce2 := fun W => e_ends a b c d W ha hb hc hd
  have cl := fun W (hC : Em W B s e t q) => e_layEm W B s e t q e p2 hC hs (by rw [hp2, S_size, putW2_len]; omega) (S l1) (by rw [hp2, L_S, S_size, putW2_len, hl1]; rfl)
  have ct := fun W (hC : W.cell? ⟨B, 0, none⟩ = some (.string (S l1))) => e_two W B (S l1) (zk : Int) hC (by rw [S_size, hl1n]; exact hs) ⟨by omega, by omega⟩
  rw [L_S, hzk, ← hwas, ← hzk] at ct
  have z1 : (i1 ++ p1).size = 12 := by rw [ByteArray.size_append, hi1, hp1, S_size, S_size]; rfl
  have z2 : (i2 ++ p2).size = 12 := by rw [ByteArray.size_append, hi2, hp2, S_size, S_size]; rfl
  have cu := fun W => Updates was (i1 ++ p1) (i2 ++ p2) W hwb (by omega) (by omega)
  rw [show updates was (L (i1 ++ p1)) (L (i2 ++ p2)) = n from by rw [hn, hi1, hp1, hi2, hp2, S_append, S_append, L_S, L_S, hwas, hl1]; rfl] at cu
  rw [← hi1, ← hp1] at ce1
  rw [← hi2, ← hp2] at ce2
  have RES : emFlow (L s) e t a b c d k = if t.p = 17 ∧ was = 0 then l1 else if e + k + 2 ≤ s.size then lay l1 (e + k) (if t.p = 17 ∧ n = 0 then 65535 else n) else l1 := by
    unfold emFlow
    rw [← hl1, ← hwas, ← hn, hsL]
  obtain ⟨RV, hRV⟩ : ∃ RV, emFlow (L s) e t a b c d k = RV := ⟨_, rfl⟩
  rw [hRV] at RES ⊢
  clear hRV
  have cw := fun m (hm : 0 ≤ m ∧ m ≤ 65535) W A hR => word_one m hm W A hR
  have cz := fun m (hf : zk + 2 ≤ s.size) W (hC : Em W B (S l1) e t q) => e_layEm W B (S l1) e t q zk (S (put16 m)) hC (by rw [S_size, hl1n]; exact hs) (by rw [S_size, S_size, put16_length, hl1n]; exact hf) (S (lay l1 zk m)) (by rw [L_S, L_S, S_size, put16_length, ← List.append_assoc]; rfl)
  have hsz1 : (S l1).size = s.size := by rw [S_size, hl1n]
  obtain ⟨s1, hs1⟩ : ∃ s1, s1 = S l1 := ⟨_, rfl⟩
  rw [← hs1] at cl ct cz hsz1
  have kw : IntKind.i64.wrap ((e : Int) + (k : Int)) = (zk : Int) := by rw [IntWalk.i64_in _ (by omega), hzk]; omega
  have kw2 : IntKind.i64.wrap ((zk : Int) + 2) = (zk : Int) + 2 := IntWalk.i64_in _ (by omega)
  have CE1 := hide ce1; have CE2 := hide ce2; have CL := hide cl; have CT := hide ct; have CU := hide cu; have CW := hide cw; have CZ := hide cz
  have RS := hide RES; have HZK := hide hzk; have HS1 := hide hs1; have HNB := hide hnb; have HSZ1 := hide hsz1; have HC := hide hC
  have hz1 : (i1 ++ p1).size ≤ 1000 := by omega
  have hz3 : ¬ 9223372036854775807 < i1.size + p1.size := by rw [← ByteArray.size_append]; omega
  have hz4 : ¬ 9223372036854775807 < i2.size + p2.size := by rw [← ByteArray.size_append]; omega
  have hz2 : (i2 ++ p2).size ≤ 1000 := by omega
  have hB : B < w.heap.size := Cells.lt hC
  have HKK := hide hk; have HH := hide h; have HS := hide hs; have HEE := hide he
  clear ce1 ce2 cl ct cu cw cz RES hwas hn hi1 hp1 hi2 hp2 hl1 hl1n hsL hzk hs1 hnb hwb z1 z2 hC ht ha hb hc hd hs h he hk hsz1
  go_enter Tryz.func65, Tryz.ntmps65
  have d0 := Cells.new w #[.int .u32 a, .int .u16 b, .int .u32 c, .int .u16 d] 28
  have bn := fresh_below w (.cells #[.int .u32 a, .int .u16 b, .int .u32 c, .int .u16 d] 28)
  have D0 := hide d0; have BN := hide bn
  clear d0 bn
  go_upto_region 1 with fail
  generalize (w.alloc (.cells #[.int .u32 a, .int .u16 b, .int .u32 c, .int .u16 d] 28)) = w1 at *
  have em1 := Cells.below BN.out HC.out
  have d0 := D0.out
  unfold emCells at em1
  obtain ⟨qem1_0, qem1_1, qem1_2, qem1_3, qem1_4, qem1_5, qem1_6, qem1_7⟩ := em1.q8
  obtain ⟨qd0_0, qd0_1, qd0_2, qd0_3⟩ := d0.q4
  have EM1 := hide em1
  clear em1 d0
  have s1' : Below w1.heap.size w1 w1.drew := Below.drew (Below.refl _ _)
  focus
    refine wp_region_J [] (fun W => Below w1.heap.size w1 W) (by kernel_rfl) (s1') (fun hS0 => ?_)
    refine tJ 0 rfl hS0 ?_
    (try simp only [Act.put, putS])
    refine tJ 1 rfl hS0 ?_
    (try simp only [Act.put, putS])
    refine tJ 2 rfl hS0 ?_
    (try simp only [Act.put, putS])
    refine tJ 3 rfl hS0 ?_
    (try simp only [Act.put, putS])
    refine tJ 4 rfl hS0 ?_
    (try simp only [Act.put, putS])
    refine tJ 5 rfl hS0 ?_
    (try simp only [Act.put, putS])
    refine tJ 6 rfl hS0 ?_
    (try simp only [Act.put, putS])
    refine tJ 7 rfl hS0 ?_
    (try simp only [Act.put, putS])
    refine tJ 8 rfl hS0 ?_
    (try simp only [Act.put, putS])
    refine tJ 9 rfl hS0 ?_
    (try simp only [Act.put, putS])
    refine tJ 10 rfl hS0 ?_
    (try simp only [Act.put, putS])
    refine rJ [11] ?_
    refine (AllReadyJ.cons rfl (fun K hK => ?_) AllReadyJ.nil)
    rw [if_pos (by kernel_rfl)]
    (try simp only [putG])
    (focus go_simp)
    (focus ((with_reducible refine (CE1.out _).mono ?_); rintro e wa ⟨rfl, ba⟩; have sq := bstep hS0 ba))
    (focus (try go_wp2_with fail))
    refine hK.out _ _ ?hs (fun hS0 => ?_)
    case hs => (first | with_reducible exact hS0 | with_reducible exact sq)
    clear hK K
    (try simp only [Act.put, putS])
    refine tJ 12 rfl hS0 ?_
    (try simp only [Act.put, putS])
    refine tJ 13 rfl hS0 ?_
    (try simp only [Act.put, putS])
    refine tJ 14 rfl hS0 ?_
    (try simp only [Act.put, putS])
    refine tJ 15 rfl hS0 ?_
    (try simp only [Act.put, putS])
    refine tJ 16 rfl hS0 ?_
    (try simp only [Act.put, putS])
    refine wpAnyJ_done (by kernel_rfl) ?_ _
  go_upto_region 3 with (go_at_call 63; (with_reducible refine (CE2.out _).mono ?_); rintro e wb ⟨rfl, bb⟩)
  have sb := bstep hS0 bb
  clear s1' sq hS0 ba bb qd0_0 qd0_1 qd0_2 qd0_3 CE1 CE2
  have s3 : Below w1.heap.size w1 wb.drew := Below.drew sb
  focus
    refine wp_region_J [8] (fun W => Below w1.heap.size w1 W) (by kernel_rfl) (s3) (fun hS0 => ?_)
    refine bJ 0 [0, 1, 2, 8] rfl hS0 ?_
    (try simp only [Act.put, putS])
    refine bJ 1 [1, 2, 8] rfl hS0 ?_
    (try simp only [Act.put, putS])
    refine tJ 2 rfl hS0 ?_
    (try simp only [Act.put, putS])
    refine bJ 3 [3, 4, 5, 6, 8] rfl hS0 ?_
    (try simp only [Act.put, putS])
    refine bJ 4 [4, 5, 6, 8] rfl hS0 ?_
    (try simp only [Act.put, putS])
    refine bJ 5 [5, 6, 8] rfl hS0 ?_
    (try simp only [Act.put, putS])
    refine tJ 6 rfl hS0 ?_
    (try simp only [Act.put, putS])
    refine tJ 7 rfl hS0 ?_
    (try simp only [Act.put, putS])
    refine rJ [8] ?_
    refine (AllReadyJ.last rfl (by kernel_rfl) (fun K hK => ?_) AllReadyJ.nil)
    rw [if_pos (by kernel_rfl)]
    (try simp only [putG])
    (focus go_simp)
    (focus ((refine (CL.out _ (Cells.below hS0 EM1.out)).mono ?_); rintro e w3 ⟨rfl, em3, on3⟩))
    (focus (try go_wp2_with fail))
    refine hK.out _ _ ?_
    clear hK K
    (try simp only [Act.put, putS])
    refine wpAnyJ_done (by kernel_rfl) ?_ _
  have on : Only (fun i => i = B) w w3 := Only.trans (Only.of_below (bstep BN.out hS0) (Nat.le_refl _)) on3
  have EM3 := hide em3; have ON := hide on
  clear s3 sb hS0 on on3 qem1_0 qem1_1 qem1_2 qem1_3 qem1_4 qem1_5 qem1_6 qem1_7 EM1 D0 BN CL HC
  unfold Em emCells at em3
  obtain ⟨qem3_0, qem3_1, qem3_2, qem3_3, qem3_4, qem3_5, qem3_6, qem3_7⟩ := em3.q8
  clear em3
  have bb : Below w3.heap.size w3 w3 := Below.refl _ _
  go_upto_region 6 with (go_at_call 64; (with_reducible refine (CT.out _ (qem3_0 _ (by assumption))).mono ?_); rintro e w4 ⟨rfl, b4⟩)
  clear bb CT kw
  have LAST := hide (fun W (hW : Below w3.heap.size w3 W) (hr : RV = l1) => (show Turned w B (emCells (S RV) e t q) 79 (.returned (.tuple #[])) W from ⟨rfl, by rw [hr, ← HS1.out]; exact Cells.below hW EM3.out, Only.then ON.out hW⟩))
  have LAY := hide (fun W W' m (hW : Below w3.heap.size w3 W) (hr : RV = lay l1 zk m) (h1 : Em W' B (S (lay l1 zk m)) e t q) (h2 : Only (fun i => i = B) W W') => (show Turned w B (emCells (S RV) e t q) 79 (.returned (.tuple #[])) W' from ⟨rfl, by rw [hr]; exact h1, Only.trans (Only.then ON.out hW) h2⟩))
  have EMB := hide (fun W (hW : Below w3.heap.size w3 W) => Cells.below hW EM3.out)
  rcases HKK.out with ⟨p6, k16⟩ | ⟨p17, k6⟩
  · have n17 : (t.p == 17) = false := by rw [p6]; rfl
    have hr : RV = if zk + 2 ≤ s.size then lay l1 zk n else l1 := by
      rw [RS.out, if_neg (fun h : t.p = 17 ∧ was = 0 => by omega), ← HZK.out, if_neg (fun h : t.p = 17 ∧ n = 0 => by omega)]
    have HR := hide hr; have HNP := hide p6
    clear hr p6 k16
    by_cases hf : zk + 2 ≤ s.size
    · have hfz : (zk : Int) + 2 ≤ (s1.size : Int) := by have := HSZ1.out; omega
      have hr2 : RV = lay l1 zk n := by rw [HR.out, if_pos hf]
      have HR2 := hide hr2; have HF := hide hf
      clear hr2 hf HR
      go_upto_region 11 with (go_at_call 32; (with_reducible refine (CU.out _).mono ?_); rintro e w5 ⟨rfl, b5⟩; have b5' := bstep b4 b5)
      have s11 : Below w3.heap.size w3 w5.drew := Below.drew b5'
      focus
        refine wp_region_J [7] (fun W => Below w3.heap.size w3 W) (by kernel_rfl) (s11) (fun hS0 => ?_)
        refine bJ 0 [0, 1, 2, 7] rfl hS0 ?_
        (try simp only [Act.put, putS])
        refine bJ 1 [1, 2, 7] rfl hS0 ?_
        (try simp only [Act.put, putS])
        refine tJ 2 rfl hS0 ?_
        (try simp only [Act.put, putS])
        refine tJ 3 rfl hS0 ?_
        (try simp only [Act.put, putS])
        refine bJ 4 [4, 5, 6, 7] rfl hS0 ?_
        (try simp only [Act.put, putS])
        refine rJ [5] ?_
        refine (AllReadyJ.cons rfl (fun K hK => ?_) AllReadyJ.nil)
        rw [if_pos (by kernel_rfl)]
        (try simp only [putG])
        (focus go_simp)
        refine hK.out _ _ ?hs (fun hS0 => ?_)
        case hs => (first | with_reducible exact hS0 | with_reducible exact sq | exact bstep hS0 (fresh_below _ _))
        clear hK K
        (try simp only [Act.put, putS])
        refine rJ [6] ?_
        refine (AllReadyJ.cons rfl (fun K hK => ?_) AllReadyJ.nil)
        rw [if_pos (by kernel_rfl)]
        (try simp only [putG])
        (focus go_simp)
        (focus ((refine (CW.out n HNB.out _ _ (by (repeat' (first | with_reducible refine Row.afterdraw ?_ | with_reducible exact Row.freshAt _ _ _ _ _ _ (by simp) rfl rfl | (with_reducible refine Row.rise ?_ (fresh_below _ _)))))).mono ?_); rintro e w6 ⟨rfl, b6⟩; have sq := bstep hS0 b6))
        (focus (try go_wp2_with fail))
        refine hK.out _ _ ?hs (fun hS0 => ?_)
        case hs => (first | with_reducible exact hS0 | with_reducible exact sq | exact bstep hS0 (fresh_below _ _))
        clear hK K
        (try simp only [Act.put, putS])
        refine rJ [7] ?_
        refine (AllReadyJ.last rfl (by kernel_rfl) (fun K hK => ?_) AllReadyJ.nil)
        rw [if_pos (by kernel_rfl)]
        (try simp only [putG])
        (focus go_simp)
        (focus ((refine (CZ.out n HF.out _ (EMB.out _ hS0)).mono ?_); rintro e w7 ⟨rfl, em7, on7⟩))
        (focus (try go_wp2_with fail))
        refine hK.out _ _ ?_
        clear hK K
        (try simp only [Act.put, putS])
        refine wpAnyJ_done (by kernel_rfl) ?_ _
      go_wp2_with fail
      first | go_end0 | ((try simp only [Exit.inBlock, Exit.then]); refine bodyPost_ret (v := .tuple #[]) (by simp [results, Tryz.results65, go_sem]; try rfl) rfl ?_)
      exact LAY.out _ _ n hS0 HR2.out em7 on7
    · have hfz : ¬ (zk : Int) + 2 ≤ (s1.size : Int) := by have := HSZ1.out; omega
      have hr2 : RV = l1 := by rw [HR.out, if_neg hf]
      have HR2 := hide hr2
      clear hr2 hf HR
      go_wp2_with (go_at_call 32; (with_reducible refine (CU.out _).mono ?_); rintro e w5 ⟨rfl, b5⟩; have b5' := bstep b4 b5)
      first | go_end0 | ((try simp only [Exit.inBlock, Exit.then]); refine bodyPost_ret (v := .tuple #[]) (by simp [results, Tryz.results65, go_sem]; try rfl) rfl ?_)
      exact LAST.out _ b5' HR2.out
  · have i17 : (t.p == 17) = true := by rw [p17]; rfl
    have hf : zk + 2 ≤ s.size := by have := HZK.out; have := HH.out; omega
    have hfz : (zk : Int) + 2 ≤ (s1.size : Int) := by have := HSZ1.out; omega
    have HP17 := hide p17; have HF := hide hf
    clear p17 k6 hf
    by_cases hz : was = 0
    · have hr2 : RV = l1 := by rw [RS.out, if_pos ⟨HP17.out, hz⟩]
      have HR2 := hide hr2
      subst hz
      clear hr2
      go_wp2_with fail
      first | go_end0 | ((try simp only [Exit.inBlock, Exit.then]); refine bodyPost_ret (v := .tuple #[]) (by simp [results, Tryz.results65, go_sem]; try rfl) rfl ?_)
      exact LAST.out _ b4 HR2.out
    · have hzb : (was == 0) = false := by simpa using hz
      by_cases hn0 : n = 0
      · have hr2 : RV = lay l1 zk 65535 := by rw [RS.out, if_neg (fun h => hz h.2), ← HZK.out, if_pos HF.out, if_pos ⟨HP17.out, hn0⟩]
        have HR2 := hide hr2
        clear hr2 hz RS
        subst hn0
        go_upto_region 11 with (go_at_call 32; (with_reducible refine (CU.out _).mono ?_); rintro e w5 ⟨rfl, b5⟩; have b5' := bstep b4 b5)
        have s11 : Below w3.heap.size w3 w5.drew := Below.drew b5'
        focus
          refine wp_region_J [7] (fun W => Below w3.heap.size w3 W) (by kernel_rfl) (s11) (fun hS0 => ?_)
          refine bJ 0 [0, 1, 2, 7] rfl hS0 ?_
          (try simp only [Act.put, putS])
          refine bJ 1 [1, 2, 7] rfl hS0 ?_
          (try simp only [Act.put, putS])
          refine tJ 2 rfl hS0 ?_
          (try simp only [Act.put, putS])
          refine tJ 3 rfl hS0 ?_
          (try simp only [Act.put, putS])
          refine bJ 4 [4, 5, 6, 7] rfl hS0 ?_
          (try simp only [Act.put, putS])
          refine rJ [5] ?_
          refine (AllReadyJ.cons rfl (fun K hK => ?_) AllReadyJ.nil)
          rw [if_pos (by kernel_rfl)]
          (try simp only [putG])
          (focus go_simp)
          refine hK.out _ _ ?hs (fun hS0 => ?_)
          case hs => (first | with_reducible exact hS0 | with_reducible exact sq | exact bstep hS0 (fresh_below _ _))
          clear hK K
          (try simp only [Act.put, putS])
          refine rJ [6] ?_
          refine (AllReadyJ.cons rfl (fun K hK => ?_) AllReadyJ.nil)
          rw [if_pos (by kernel_rfl)]
          (try simp only [putG])
          (focus go_simp)
          (focus ((refine (CW.out 65535 ⟨by decide, by decide⟩ _ _ (by (repeat' (first | with_reducible refine Row.afterdraw ?_ | with_reducible exact Row.freshAt _ _ _ _ _ _ (by simp) rfl rfl | (with_reducible refine Row.rise ?_ (fresh_below _ _)))))).mono ?_); rintro e w6 ⟨rfl, b6⟩; have sq := bstep hS0 b6))
          (focus (try go_wp2_with fail))
          refine hK.out _ _ ?hs (fun hS0 => ?_)
          case hs => (first | with_reducible exact hS0 | with_reducible exact sq | exact bstep hS0 (fresh_below _ _))
          clear hK K
          (try simp only [Act.put, putS])
          refine rJ [7] ?_
          refine (AllReadyJ.last rfl (by kernel_rfl) (fun K hK => ?_) AllReadyJ.nil)
          rw [if_pos (by kernel_rfl)]
          (try simp only [putG])
          (focus go_simp)
          (focus ((refine (CZ.out 65535 HF.out _ (EMB.out _ hS0)).mono ?_); rintro e w7 ⟨rfl, em7, on7⟩))
          (focus (try go_wp2_with fail))
          refine hK.out _ _ ?_
          clear hK K
          (try simp only [Act.put, putS])
          refine wpAnyJ_done (by kernel_rfl) ?_ _
        go_wp2_with fail
        first | go_end0 | ((try simp only [Exit.inBlock, Exit.then]); refine bodyPost_ret (v := .tuple #[]) (by simp [results, Tryz.results65, go_sem]; try rfl) rfl ?_)
        exact LAY.out _ _ 65535 hS0 HR2.out em7 on7
      · have hr2 : RV = lay l1 zk n := by rw [RS.out, if_neg (fun h => hz h.2), ← HZK.out, if_pos HF.out, if_neg (fun h => hn0 h.2)]
        have HR2 := hide hr2
        have hnb : (n == 0) = false := by simpa using hn0
        clear hr2 hz hn0 RS
        go_upto_region 11 with (go_at_call 32; (with_reducible refine (CU.out _).mono ?_); rintro e w5 ⟨rfl, b5⟩; have b5' := bstep b4 b5)
        have s11 : Below w3.heap.size w3 w5.drew := Below.drew b5'
        focus
          refine wp_region_J [7] (fun W => Below w3.heap.size w3 W) (by kernel_rfl) (s11) (fun hS0 => ?_)
          refine bJ 0 [0, 1, 2, 7] rfl hS0 ?_
          (try simp only [Act.put, putS])
          refine bJ 1 [1, 2, 7] rfl hS0 ?_
          (try simp only [Act.put, putS])
          refine tJ 2 rfl hS0 ?_
          (try simp only [Act.put, putS])
          refine tJ 3 rfl hS0 ?_
          (try simp only [Act.put, putS])
          refine bJ 4 [4, 5, 6, 7] rfl hS0 ?_
          (try simp only [Act.put, putS])
          refine rJ [5] ?_
          refine (AllReadyJ.cons rfl (fun K hK => ?_) AllReadyJ.nil)
          rw [if_pos (by kernel_rfl)]
          (try simp only [putG])
          (focus go_simp)
          refine hK.out _ _ ?hs (fun hS0 => ?_)
          case hs => (first | with_reducible exact hS0 | with_reducible exact sq | exact bstep hS0 (fresh_below _ _))
          clear hK K
          (try simp only [Act.put, putS])
          refine rJ [6] ?_
          refine (AllReadyJ.cons rfl (fun K hK => ?_) AllReadyJ.nil)
          rw [if_pos (by kernel_rfl)]
          (try simp only [putG])
          (focus go_simp)
          (focus ((refine (CW.out n HNB.out _ _ (by (repeat' (first | with_reducible refine Row.afterdraw ?_ | with_reducible exact Row.freshAt _ _ _ _ _ _ (by simp) rfl rfl | (with_reducible refine Row.rise ?_ (fresh_below _ _)))))).mono ?_); rintro e w6 ⟨rfl, b6⟩; have sq := bstep hS0 b6))
          (focus (try go_wp2_with fail))
          refine hK.out _ _ ?hs (fun hS0 => ?_)
          case hs => (first | with_reducible exact hS0 | with_reducible exact sq | exact bstep hS0 (fresh_below _ _))
          clear hK K
          (try simp only [Act.put, putS])
          refine rJ [7] ?_
          refine (AllReadyJ.last rfl (by kernel_rfl) (fun K hK => ?_) AllReadyJ.nil)
          rw [if_pos (by kernel_rfl)]
          (try simp only [putG])
          (focus go_simp)
          (focus ((refine (CZ.out n HF.out _ (EMB.out _ hS0)).mono ?_); rintro e w7 ⟨rfl, em7, on7⟩))
          (focus (try go_wp2_with fail))
          refine hK.out _ _ ?_
          clear hK K
          (try simp only [Act.put, putS])
          refine wpAnyJ_done (by kernel_rfl) ?_ _
        go_wp2_with fail
        first | go_end0 | ((try simp only [Exit.inBlock, Exit.then]); refine bodyPost_ret (v := .tuple #[]) (by simp [results, Tryz.results65, go_sem]; try rfl) rfl ?_)
        exact LAY.out _ _ n hS0 HR2.out em7 on7
end Go.Proofs.YtjeaknipmdfkdaaGreatDoor
end
