/- Several texts of this claim, one behind the other. -/
import Derived.Test.YtpidgmamollmgaaGreatDoorM26
import Derived.Test.YtpidgmamollmgaaGreatDoorM6
import Derived.Test.YtpidgmamollmgaaGreatDoorM17

section
/- Endpoints and a tuple as texts: at the chapter's example. -/
set_option linter.unusedVariables false
set_option linter.unusedSimpArgs false
namespace Go.Proofs.YtpidgmamollmgaaGreatDoor
open Go.RowKit Go.Maps
attribute [local go_sem] Oper.semAt_some

def WordsAt (b : Nat) (w : World) : Prop := w.cell? ⟨0, 0, none⟩ = some (.map (some b)) ∧ ∃ n, w.ownsMap (H := Unit) Tryz.prog 5 (plainElem Tryz.prog 9) b n Rows.laid_porter_tuples_words
theorem Words.at_ {w : World} (h : Words w) : ∃ b, WordsAt b w := by obtain ⟨b, n, h1, h2⟩ := h; exact ⟨b, h1, n, h2⟩
theorem WordsAt.below {b : Nat} {w w' : World} (h : WordsAt b w) (k : Below w.heap.size w w') : WordsAt b w' := by
  obtain ⟨hc, n, es, clock, hb, hF⟩ := h
  exact ⟨cellAt k hc, n, es, clock, (k.block b (Array.getElem?_eq_some_iff.1 hb).1).trans hb, hF⟩
theorem WordsAt.look {b : Nat} {w : World} (h : WordsAt b w) :
    (Instr.lookup 78 (.map (some b)) (.int .u8 17) false).run Tryz.prog w = .ok (.string { data := #[117, 100, 112] }) w ∧
    (Instr.lookup 78 (.map (some b)) (.int .u8 17) true).run Tryz.prog w = .ok (.tuple #[.string { data := #[117, 100, 112] }, .bool true]) w := by
  obtain ⟨hc, n, h2⟩ := h
  obtain ⟨b', h1, h3, h4⟩ := Words.look (w := w) ⟨b, n, hc, h2⟩
  rw [hc] at h1
  injection h1 with h1
  injection h1 with h1
  injection h1 with h1
  subst h1
  exact ⟨h3, h4⟩

set_option maxRecDepth 100000 in
set_option maxHeartbeats 2000000 in
theorem point_a (w : World) (hP : Pow w) : Calls Tryz.prog 32 #[.agg #[.int .u32 84281096, .int .u16 9000]] w (Ret (.string { data := #[53, 46, 54, 46, 55, 46, 56, 58, 57, 48, 48, 48] }) w) := by
  have c1 := fun W h => text_a W h
  have c2 := fun W h => Itoa_ret 9000 ({ data := #[57, 48, 48, 48] }) W (by decide) (by decide) h (by decide +kernel)
  have c3 : ∀ W, Pow W → Calls Tryz.prog 87 #[.int .i64 (IntKind.i64.wrap 9000)] W (Ret (.string ({ data := #[57, 48, 48, 48] })) W) := fun W h => by rw [show IntKind.i64.wrap 9000 = 9000 from by decide]; exact c2 W h
  have HP := hide hP; have C1 := hide c1; have C2 := hide c2; have C3 := hide c3
  clear hP c1 c2 c3
  have e1 : ({ data := #[53, 46, 54, 46, 55, 46, 56] } : ByteArray) ++ { data := #[58] } = { data := #[53, 46, 54, 46, 55, 46, 56, 58] } := by decide +kernel
  have e2 : ({ data := #[53, 46, 54, 46, 55, 46, 56, 58] } : ByteArray) ++ { data := #[57, 48, 48, 48] } = { data := #[53, 46, 54, 46, 55, 46, 56, 58, 57, 48, 48, 48] } := by decide +kernel
  have HE := hide e1; have HE2 := hide e2
  clear e1 e2
  go_enter Tryz.func32, Tryz.ntmps32
  have d0 := Cells.new w #[.int .u32 84281096, .int .u16 9000] 26
  go_wp2_with fail
  have SK := hide (fun (zX zY : World) (zh : (Below w.heap.size w zX ∧ zX.cell? ⟨w.heap.size, 0, none⟩ = some (.int .u32 84281096) ∧ zX.cell? ⟨w.heap.size, 1, none⟩ = some (.int .u16 9000) ∧ True)) (zb : Below zX.heap.size zX zY) => (show (Below w.heap.size w zY ∧ zY.cell? ⟨w.heap.size, 0, none⟩ = some (.int .u32 84281096) ∧ zY.cell? ⟨w.heap.size, 1, none⟩ = some (.int .u16 9000) ∧ True) from ⟨bstep zh.1 zb, cellAt zb zh.2.1, cellAt zb zh.2.2.1, trivial⟩))
  have FS := hide (fun (zX : World) (zh : (Below w.heap.size w zX ∧ zX.cell? ⟨w.heap.size, 0, none⟩ = some (.int .u32 84281096) ∧ zX.cell? ⟨w.heap.size, 1, none⟩ = some (.int .u16 9000) ∧ True)) => zh.1)
  have GS := hide (fun (zX : World) (zh : (Below w.heap.size w zX ∧ zX.cell? ⟨w.heap.size, 0, none⟩ = some (.int .u32 84281096) ∧ zX.cell? ⟨w.heap.size, 1, none⟩ = some (.int .u16 9000) ∧ True)) => zh)
  have hS0 : (Below w.heap.size w (w.alloc (.cells #[.int .u32 84281096, .int .u16 9000] 26)) ∧ (w.alloc (.cells #[.int .u32 84281096, .int .u16 9000] 26)).cell? ⟨w.heap.size, 0, none⟩ = some (.int .u32 84281096) ∧ (w.alloc (.cells #[.int .u32 84281096, .int .u16 9000] 26)).cell? ⟨w.heap.size, 1, none⟩ = some (.int .u16 9000) ∧ True) := ⟨(by (repeat' (first | with_reducible exact Below.refl _ _ | with_reducible refine Below.setCell ?_ (by first | exact Nat.le_refl _ | (dsimp only; omega)) _ | with_reducible refine bstep ?_ (fresh_below _ _) | with_reducible refine Below.drew ?_))), d0.at_ 0, d0.at_ 1, trivial⟩
  go_region_held_law (fun w' => (Below w.heap.size w w' ∧ w'.cell? ⟨w.heap.size, 0, none⟩ = some (.int .u32 84281096) ∧ w'.cell? ⟨w.heap.size, 1, none⟩ = some (.int .u16 9000) ∧ True)) (first | assumption | exact SK.out _ _ hS0 (Below.refl _ _).drew | exact SK.out _ _ hS0 (fresh_below _ _).drew | exact SK.out _ _ (by assumption) (fresh_below _ _) | (refine SK.out _ _ ?_ (by assumption); assumption))
    (first | (go_at_call 86; (with_reducible refine (C1.out _ (HP.out.below (by first | exact FS.out _ (by assumption) | exact bstep (FS.out _ (by assumption)) (fresh_below _ _) | exact bstep (bstep (FS.out _ (by assumption)) (fresh_below _ _)) (fresh_below _ _)))).mono ?_); rintro e wq ⟨rfl, bq⟩) | (go_at_call 87; (with_reducible refine (C2.out _ (HP.out.below (by first | exact FS.out _ (by assumption) | exact bstep (FS.out _ (by assumption)) (fresh_below _ _) | exact bstep (bstep (FS.out _ (by assumption)) (fresh_below _ _)) (fresh_below _ _)))).mono ?_); rintro e wq ⟨rfl, bq⟩) | (go_at_call 87; (with_reducible refine (C3.out _ (HP.out.below (by first | exact FS.out _ (by assumption) | exact bstep (FS.out _ (by assumption)) (fresh_below _ _) | exact bstep (bstep (FS.out _ (by assumption)) (fresh_below _ _)) (fresh_below _ _)))).mono ?_); rintro e wq ⟨rfl, bq⟩))
  all_goals
    go_wp2
    go_ret
    exact ⟨by first | rfl | (rw [HE.out, HE2.out]) | (simp [HE.out, HE2.out]), (by first | exact FS.out _ (by assumption) | exact bstep (FS.out _ (by assumption)) (fresh_below _ _) | exact bstep (bstep (FS.out _ (by assumption)) (fresh_below _ _)) (fresh_below _ _))⟩

set_option maxRecDepth 100000 in
set_option maxHeartbeats 2000000 in
theorem point_b (w : World) (hP : Pow w) : Calls Tryz.prog 32 #[.agg #[.int .u32 16909060, .int .u16 53]] w (Ret (.string { data := #[49, 46, 50, 46, 51, 46, 52, 58, 53, 51] }) w) := by
  have c1 := fun W h => text_b W h
  have c2 := fun W h => Itoa_ret 53 ({ data := #[53, 51] }) W (by decide) (by decide) h (by decide +kernel)
  have c3 : ∀ W, Pow W → Calls Tryz.prog 87 #[.int .i64 (IntKind.i64.wrap 53)] W (Ret (.string ({ data := #[53, 51] })) W) := fun W h => by rw [show IntKind.i64.wrap 53 = 53 from by decide]; exact c2 W h
  have HP := hide hP; have C1 := hide c1; have C2 := hide c2; have C3 := hide c3
  clear hP c1 c2 c3
  have e1 : ({ data := #[49, 46, 50, 46, 51, 46, 52] } : ByteArray) ++ { data := #[58] } = { data := #[49, 46, 50, 46, 51, 46, 52, 58] } := by decide +kernel
  have e2 : ({ data := #[49, 46, 50, 46, 51, 46, 52, 58] } : ByteArray) ++ { data := #[53, 51] } = { data := #[49, 46, 50, 46, 51, 46, 52, 58, 53, 51] } := by decide +kernel
  have HE := hide e1; have HE2 := hide e2
  clear e1 e2
  go_enter Tryz.func32, Tryz.ntmps32
  have d0 := Cells.new w #[.int .u32 16909060, .int .u16 53] 26
  go_wp2_with fail
  have SK := hide (fun (zX zY : World) (zh : (Below w.heap.size w zX ∧ zX.cell? ⟨w.heap.size, 0, none⟩ = some (.int .u32 16909060) ∧ zX.cell? ⟨w.heap.size, 1, none⟩ = some (.int .u16 53) ∧ True)) (zb : Below zX.heap.size zX zY) => (show (Below w.heap.size w zY ∧ zY.cell? ⟨w.heap.size, 0, none⟩ = some (.int .u32 16909060) ∧ zY.cell? ⟨w.heap.size, 1, none⟩ = some (.int .u16 53) ∧ True) from ⟨bstep zh.1 zb, cellAt zb zh.2.1, cellAt zb zh.2.2.1, trivial⟩))
  have FS := hide (fun (zX : World) (zh : (Below w.heap.size w zX ∧ zX.cell? ⟨w.heap.size, 0, none⟩ = some (.int .u32 16909060) ∧ zX.cell? ⟨w.heap.size, 1, none⟩ = some (.int .u16 53) ∧ True)) => zh.1)
  have GS := hide (fun (zX : World) (zh : (Below w.heap.size w zX ∧ zX.cell? ⟨w.heap.size, 0, none⟩ = some (.int .u32 16909060) ∧ zX.cell? ⟨w.heap.size, 1, none⟩ = some (.int .u16 53) ∧ True)) => zh)
  have hS0 : (Below w.heap.size w (w.alloc (.cells #[.int .u32 16909060, .int .u16 53] 26)) ∧ (w.alloc (.cells #[.int .u32 16909060, .int .u16 53] 26)).cell? ⟨w.heap.size, 0, none⟩ = some (.int .u32 16909060) ∧ (w.alloc (.cells #[.int .u32 16909060, .int .u16 53] 26)).cell? ⟨w.heap.size, 1, none⟩ = some (.int .u16 53) ∧ True) := ⟨(by (repeat' (first | with_reducible exact Below.refl _ _ | with_reducible refine Below.setCell ?_ (by first | exact Nat.le_refl _ | (dsimp only; omega)) _ | with_reducible refine bstep ?_ (fresh_below _ _) | with_reducible refine Below.drew ?_))), d0.at_ 0, d0.at_ 1, trivial⟩
  go_region_held_law (fun w' => (Below w.heap.size w w' ∧ w'.cell? ⟨w.heap.size, 0, none⟩ = some (.int .u32 16909060) ∧ w'.cell? ⟨w.heap.size, 1, none⟩ = some (.int .u16 53) ∧ True)) (first | assumption | exact SK.out _ _ hS0 (Below.refl _ _).drew | exact SK.out _ _ hS0 (fresh_below _ _).drew | exact SK.out _ _ (by assumption) (fresh_below _ _) | (refine SK.out _ _ ?_ (by assumption); assumption))
    (first | (go_at_call 86; (with_reducible refine (C1.out _ (HP.out.below (by first | exact FS.out _ (by assumption) | exact bstep (FS.out _ (by assumption)) (fresh_below _ _) | exact bstep (bstep (FS.out _ (by assumption)) (fresh_below _ _)) (fresh_below _ _)))).mono ?_); rintro e wq ⟨rfl, bq⟩) | (go_at_call 87; (with_reducible refine (C2.out _ (HP.out.below (by first | exact FS.out _ (by assumption) | exact bstep (FS.out _ (by assumption)) (fresh_below _ _) | exact bstep (bstep (FS.out _ (by assumption)) (fresh_below _ _)) (fresh_below _ _)))).mono ?_); rintro e wq ⟨rfl, bq⟩) | (go_at_call 87; (with_reducible refine (C3.out _ (HP.out.below (by first | exact FS.out _ (by assumption) | exact bstep (FS.out _ (by assumption)) (fresh_below _ _) | exact bstep (bstep (FS.out _ (by assumption)) (fresh_below _ _)) (fresh_below _ _)))).mono ?_); rintro e wq ⟨rfl, bq⟩))
  all_goals
    go_wp2
    go_ret
    exact ⟨by first | rfl | (rw [HE.out, HE2.out]) | (simp [HE.out, HE2.out]), (by first | exact FS.out _ (by assumption) | exact bstep (FS.out _ (by assumption)) (fresh_below _ _) | exact bstep (bstep (FS.out _ (by assumption)) (fresh_below _ _)) (fresh_below _ _))⟩

set_option maxRecDepth 100000 in
set_option maxHeartbeats 2000000 in
theorem may_a (w : World) (hW : Words w) : Calls Tryz.prog 30 #[.agg #[.int .u8 17, .int .u32 84281096, .int .u16 9000, .int .u32 16909060, .int .u16 53]] w (Ret (.bool true) w) := by
  obtain ⟨b, hb⟩ := (hW.below (fresh_below w (.cells #[.int .u8 17, .int .u32 84281096, .int .u16 9000, .int .u32 16909060, .int .u16 53] 36))).at_
  obtain ⟨h1, h2⟩ := hb.look
  have h3 := hb.1
  clear hW hb
  go_enter Tryz.func30, Tryz.ntmps30
  have d0 := Cells.new w #[.int .u8 17, .int .u32 84281096, .int .u16 9000, .int .u32 16909060, .int .u16 53] 36
  have xd0_0 : (w.alloc (.cells #[.int .u8 17, .int .u32 84281096, .int .u16 9000, .int .u32 16909060, .int .u16 53] 36)).cell? ⟨w.heap.size, 0, none⟩ = some (.int .u8 17) := d0.at_ 0
  have xd0_1 : (w.alloc (.cells #[.int .u8 17, .int .u32 84281096, .int .u16 9000, .int .u32 16909060, .int .u16 53] 36)).cell? ⟨w.heap.size, 1, none⟩ = some (.int .u32 84281096) := d0.at_ 1
  have xd0_2 : (w.alloc (.cells #[.int .u8 17, .int .u32 84281096, .int .u16 9000, .int .u32 16909060, .int .u16 53] 36)).cell? ⟨w.heap.size, 2, none⟩ = some (.int .u16 9000) := d0.at_ 2
  have xd0_3 : (w.alloc (.cells #[.int .u8 17, .int .u32 84281096, .int .u16 9000, .int .u32 16909060, .int .u16 53] 36)).cell? ⟨w.heap.size, 3, none⟩ = some (.int .u32 16909060) := d0.at_ 3
  have xd0_4 : (w.alloc (.cells #[.int .u8 17, .int .u32 84281096, .int .u16 9000, .int .u32 16909060, .int .u16 53] 36)).cell? ⟨w.heap.size, 4, none⟩ = some (.int .u16 53) := d0.at_ 4
  go_wp2_with fail
  go_ret
  exact ⟨rfl, (by (repeat' (first | with_reducible exact Below.refl _ _ | with_reducible refine Below.setCell ?_ (by first | exact Nat.le_refl _ | (dsimp only; omega)) _ | with_reducible refine bstep ?_ (fresh_below _ _) | with_reducible refine Below.drew ?_)))⟩

set_option maxRecDepth 100000 in
set_option maxHeartbeats 4000000 in
theorem tuple_text (w : World) (hT : Tabs w) : Calls Tryz.prog 13 #[.agg #[.int .u8 17, .int .u32 84281096, .int .u16 9000, .int .u32 16909060, .int .u16 53]] w (Ret (.string { data := #[117, 100, 112, 32, 53, 46, 54, 46, 55, 46, 56, 58, 57, 48, 48, 48, 32, 49, 46, 50, 46, 51, 46, 52, 58, 53, 51] }) w) := by
  have hj : (⟨(Lib.join (([{ data := #[117, 100, 112] }, { data := #[53, 46, 54, 46, 55, 46, 56, 58, 57, 48, 48, 48] }, { data := #[49, 46, 50, 46, 51, 46, 52, 58, 53, 51] }] : List ByteArray).map (·.data.toList)) ({ data := #[32] } : ByteArray).data.toList).toArray⟩ : ByteArray) = { data := #[117, 100, 112, 32, 53, 46, 54, 46, 55, 46, 56, 58, 57, 48, 48, 48, 32, 49, 46, 50, 46, 51, 46, 52, 58, 53, 51] } := by decide +kernel
  have c4 : ∀ (W : World) (g : Nat), Row W W.heap.size (some ⟨g, 0, none⟩) 3 [.string { data := #[117, 100, 112] }, .string { data := #[53, 46, 54, 46, 55, 46, 56, 58, 57, 48, 48, 48] }, .string { data := #[49, 46, 50, 46, 51, 46, 52, 58, 53, 51] }] → Calls Tryz.prog 31 #[.slice (some ⟨g, 0, none⟩) 3 3, .string { data := #[32] }] W (Ret (.string { data := #[117, 100, 112, 32, 53, 46, 54, 46, 55, 46, 56, 58, 57, 48, 48, 48, 32, 49, 46, 50, 46, 51, 46, 52, 58, 53, 51] }) W) := fun W g hr => by
    obtain ⟨b', o', he, hb, hc⟩ := hr.2 (by omega)
    injection he with he
    injection he with e1 e2 e3
    subst e1; subst e2
    have := Tryz.strings_Join g 0 3 ([{ data := #[117, 100, 112] }, { data := #[53, 46, 54, 46, 55, 46, 56, 58, 57, 48, 48, 48] }, { data := #[49, 46, 50, 46, 51, 46, 52, 58, 53, 51] }]) ({ data := #[32] }) W (fun j x hx => by
      refine hc j _ ?_
      have := congrArg (Option.map Value.string) hx
      rw [← List.getElem?_map] at this
      exact this) hb (by decide) (Nat.le_refl _) (by decide +kernel)
    rw [hj] at this
    exact this
  have c1 := fun W (h : Words W) => may_a W h
  have c2 := fun W (h : Pow W) => point_a W h
  have c3 := fun W (h : Pow W) => point_b W h
  obtain ⟨b, hb⟩ := hT.2.1.at_
  obtain ⟨-, hWo, hPo⟩ := hT
  have HW := hide hWo; have HPO := hide hPo; have HB := hide hb; have C1 := hide c1; have C2 := hide c2; have C3 := hide c3; have C4 := hide c4
  clear hWo hPo hb c1 c2 c3 c4 hj
  go_enter Tryz.func13, Tryz.ntmps13
  have d0 := Cells.new w #[.int .u8 17, .int .u32 84281096, .int .u16 9000, .int .u32 16909060, .int .u16 53] 36
  have xd0_0 : (w.alloc (.cells #[.int .u8 17, .int .u32 84281096, .int .u16 9000, .int .u32 16909060, .int .u16 53] 36)).cell? ⟨w.heap.size, 0, none⟩ = some (.int .u8 17) := d0.at_ 0
  have xd0_1 : (w.alloc (.cells #[.int .u8 17, .int .u32 84281096, .int .u16 9000, .int .u32 16909060, .int .u16 53] 36)).cell? ⟨w.heap.size, 1, none⟩ = some (.int .u32 84281096) := d0.at_ 1
  have xd0_2 : (w.alloc (.cells #[.int .u8 17, .int .u32 84281096, .int .u16 9000, .int .u32 16909060, .int .u16 53] 36)).cell? ⟨w.heap.size, 2, none⟩ = some (.int .u16 9000) := d0.at_ 2
  have xd0_3 : (w.alloc (.cells #[.int .u8 17, .int .u32 84281096, .int .u16 9000, .int .u32 16909060, .int .u16 53] 36)).cell? ⟨w.heap.size, 3, none⟩ = some (.int .u32 16909060) := d0.at_ 3
  have xd0_4 : (w.alloc (.cells #[.int .u8 17, .int .u32 84281096, .int .u16 9000, .int .u32 16909060, .int .u16 53] 36)).cell? ⟨w.heap.size, 4, none⟩ = some (.int .u16 53) := d0.at_ 4
  go_wp2_with fail
  (with_reducible refine (C1.out _ (HW.out.below (fresh_below _ _))).mono ?_)
  rintro e w1 ⟨rfl, b1⟩
  have d1 := Cells.below b1 d0
  replace b1 : Below w.heap.size w w1 := bstep (fresh_below _ _) b1
  have hw1 := HB.out.below b1
  clear xd0_0 xd0_1 xd0_2 xd0_3 xd0_4 d0
  go_wp2_with fail
  have SK := hide (fun (zX zY : World) (zh : (Below w.heap.size w zX ∧ World.cell? zX ⟨w.heap.size, 0, none⟩ = some (.int .u8 17) ∧ World.cell? zX ⟨w.heap.size, 1, none⟩ = some (.int .u32 84281096) ∧ World.cell? zX ⟨w.heap.size, 2, none⟩ = some (.int .u16 9000) ∧ World.cell? zX ⟨w.heap.size, 3, none⟩ = some (.int .u32 16909060) ∧ World.cell? zX ⟨w.heap.size, 4, none⟩ = some (.int .u16 53) ∧ World.cell? zX ⟨0, 0, none⟩ = some (.map (some b)) ∧ (Instr.lookup 78 (.map (some b)) (.int .u8 17) false).run Tryz.prog zX = .ok (.string { data := #[117, 100, 112] }) zX ∧ WordsAt b zX ∧ True)) (zb : Below zX.heap.size zX zY) => (show (Below w.heap.size w zY ∧ World.cell? zY ⟨w.heap.size, 0, none⟩ = some (.int .u8 17) ∧ World.cell? zY ⟨w.heap.size, 1, none⟩ = some (.int .u32 84281096) ∧ World.cell? zY ⟨w.heap.size, 2, none⟩ = some (.int .u16 9000) ∧ World.cell? zY ⟨w.heap.size, 3, none⟩ = some (.int .u32 16909060) ∧ World.cell? zY ⟨w.heap.size, 4, none⟩ = some (.int .u16 53) ∧ World.cell? zY ⟨0, 0, none⟩ = some (.map (some b)) ∧ (Instr.lookup 78 (.map (some b)) (.int .u8 17) false).run Tryz.prog zY = .ok (.string { data := #[117, 100, 112] }) zY ∧ WordsAt b zY ∧ True) from ⟨bstep zh.1 zb, cellAt zb zh.2.1, cellAt zb zh.2.2.1, cellAt zb zh.2.2.2.1, cellAt zb zh.2.2.2.2.1, cellAt zb zh.2.2.2.2.2.1, cellAt zb zh.2.2.2.2.2.2.1, (zh.2.2.2.2.2.2.2.2.1.below zb).look.1, zh.2.2.2.2.2.2.2.2.1.below zb, trivial⟩))
  have hS0 : (Below w.heap.size w w1 ∧ World.cell? w1 ⟨w.heap.size, 0, none⟩ = some (.int .u8 17) ∧ World.cell? w1 ⟨w.heap.size, 1, none⟩ = some (.int .u32 84281096) ∧ World.cell? w1 ⟨w.heap.size, 2, none⟩ = some (.int .u16 9000) ∧ World.cell? w1 ⟨w.heap.size, 3, none⟩ = some (.int .u32 16909060) ∧ World.cell? w1 ⟨w.heap.size, 4, none⟩ = some (.int .u16 53) ∧ World.cell? w1 ⟨0, 0, none⟩ = some (.map (some b)) ∧ (Instr.lookup 78 (.map (some b)) (.int .u8 17) false).run Tryz.prog w1 = .ok (.string { data := #[117, 100, 112] }) w1 ∧ WordsAt b w1 ∧ True) := ⟨b1, d1.at_ 0, d1.at_ 1, d1.at_ 2, d1.at_ 3, d1.at_ 4, hw1.1, hw1.look.1, hw1, trivial⟩
  have FS := hide (fun (zX : World) (zh : (Below w.heap.size w zX ∧ World.cell? zX ⟨w.heap.size, 0, none⟩ = some (.int .u8 17) ∧ World.cell? zX ⟨w.heap.size, 1, none⟩ = some (.int .u32 84281096) ∧ World.cell? zX ⟨w.heap.size, 2, none⟩ = some (.int .u16 9000) ∧ World.cell? zX ⟨w.heap.size, 3, none⟩ = some (.int .u32 16909060) ∧ World.cell? zX ⟨w.heap.size, 4, none⟩ = some (.int .u16 53) ∧ World.cell? zX ⟨0, 0, none⟩ = some (.map (some b)) ∧ (Instr.lookup 78 (.map (some b)) (.int .u8 17) false).run Tryz.prog zX = .ok (.string { data := #[117, 100, 112] }) zX ∧ WordsAt b zX ∧ True)) => zh.1)
  go_region_held_law (fun w' => (Below w.heap.size w w' ∧ World.cell? w' ⟨w.heap.size, 0, none⟩ = some (.int .u8 17) ∧ World.cell? w' ⟨w.heap.size, 1, none⟩ = some (.int .u32 84281096) ∧ World.cell? w' ⟨w.heap.size, 2, none⟩ = some (.int .u16 9000) ∧ World.cell? w' ⟨w.heap.size, 3, none⟩ = some (.int .u32 16909060) ∧ World.cell? w' ⟨w.heap.size, 4, none⟩ = some (.int .u16 53) ∧ World.cell? w' ⟨0, 0, none⟩ = some (.map (some b)) ∧ (Instr.lookup 78 (.map (some b)) (.int .u8 17) false).run Tryz.prog w' = .ok (.string { data := #[117, 100, 112] }) w' ∧ WordsAt b w' ∧ True)) (first | assumption | exact SK.out _ _ hS0 (Below.refl _ _).drew | exact SK.out _ _ hS0 (fresh_below _ _).drew | exact SK.out _ _ (by assumption) (fresh_below _ _) | (refine SK.out _ _ ?_ (by assumption); assumption))
    (first | (go_at_call 32; (with_reducible refine (C2.out _ (HPO.out.below (by first | exact FS.out _ (by assumption) | exact bstep (FS.out _ (by assumption)) (fresh_below _ _) | exact bstep (bstep (FS.out _ (by assumption)) (fresh_below _ _)) (fresh_below _ _)))).mono ?_); rintro e wq ⟨rfl, bq⟩) | (go_at_call 32; (with_reducible refine (C3.out _ (HPO.out.below (by first | exact FS.out _ (by assumption) | exact bstep (FS.out _ (by assumption)) (fresh_below _ _) | exact bstep (bstep (FS.out _ (by assumption)) (fresh_below _ _)) (fresh_below _ _)))).mono ?_); rintro e wq ⟨rfl, bq⟩) | (go_at_call 31; (with_reducible refine Calls.mono (C4.out _ _ ?_) ?_); (focus ((repeat' (first | with_reducible refine Row.afterdraw ?_ | with_reducible exact Row.freshAt _ _ _ _ _ _ (by first | (simp; done) | fail) rfl rfl | (with_reducible refine Row.rise ?_ (fresh_below _ _)) | (with_reducible refine Row.rise ?_ (by with_reducible assumption)))); (first | done | fail))); rintro e wq ⟨rfl, bq⟩))
  all_goals
    go_wp2
    go_ret
    exact ⟨rfl, (by first | exact FS.out _ (by assumption) | exact bstep (FS.out _ (by assumption)) (fresh_below _ _) | exact bstep (bstep (FS.out _ (by assumption)) (fresh_below _ _)) (fresh_below _ _))⟩
end Go.Proofs.YtpidgmamollmgaaGreatDoor
end

section
/- The document's answer for ip (porterref04) over this program: a header's bytes. -/
set_option linter.unusedVariables false
set_option linter.unusedSimpArgs false
namespace Go.Proofs.YtpidgmamollmgaaGreatDoor
open Go.RowKit
attribute [local go_sem] Oper.semAt_some

set_option maxRecDepth 100000 in
set_option maxHeartbeats 2000000 in
theorem r4_Bytes (t i l p s d size sum : Int) (f : Bool) (o : ByteArray) (w : World) (hk : (Hd.mk t i f l p s d o).Ok) (h1 : o.size ≤ 40) (h2 : o.size % 4 = 0) (hz : 0 ≤ size ∧ size ≤ 65535) (hm : 0 ≤ sum ∧ sum ≤ 65535) :
    Calls Tryz.prog 72 #[.agg #[.int .u8 t, .int .u16 i, .bool f, .int .u8 l, .int .u8 p, .int .u32 s, .int .u32 d, .string o], .int .i64 size, .int .u16 sum] w (Ret (.string (S ((Hd.mk t i f l p s d o).bytes size sum))) w) := by
  obtain ⟨⟨t0, t1⟩, ⟨i0, i1⟩, ⟨l0, l1⟩, ⟨p0, p1⟩, hs, hd, ho⟩ := hk
  simp only at t0 t1 i0 i1 l0 l1 p0 p1 hs hd ho
  obtain ⟨c, hc⟩ : ∃ c, c = (Hd.mk t i f l p s d o).cut := ⟨_, rfl⟩
  have hcb : 0 ≤ c ∧ c ≤ 65535 := by rw [hc]; unfold Hd.cut; split <;> omega
  obtain ⟨v, hv⟩ : ∃ v, v = 69 + (o.size : Int) / 4 := ⟨_, rfl⟩
  have hend : S [byt v, byt t] ++ S (putW [size, i, c]) ++ S [byt l, byt p] ++ S (put16 sum) ++ S (put32 s) ++ S (put32 d) ++ o = S ((Hd.mk t i f l p s d o).bytes size sum) := by
    apply L_inj
    unfold Hd.bytes Hd.words
    rw [← hc]
    have e1 : put16 ((64 + (20 + (o.size : Int)) / 4) * 256 + t) = [byt v, byt t] := by
      unfold put16
      rw [show ((64 + (20 + (o.size : Int)) / 4) * 256 + t) / 256 = v from by rw [hv]; omega, byt_eq ((64 + (20 + (o.size : Int)) / 4) * 256 + t) t (by omega) t0 (by omega)]
    have e2 : put16 (l * 256 + p) = [byt l, byt p] := by
      unfold put16
      rw [show (l * 256 + p) / 256 = l from by omega, byt_eq (l * 256 + p) p (by omega) p0 (by omega)]
    simp only [L_append, L_S, putW, List.flatMap_cons, List.flatMap_nil, List.append_assoc, List.append_nil, e1, e2]
  have hl : ∀ x ∈ [size, i, c], 0 ≤ x ∧ x ≤ 65535 := by
    intro x hx
    simp only [List.mem_cons, List.not_mem_nil, or_false] at hx
    rcases hx with rfl | rfl | rfl <;> omega
  have f1 := fun (A : Option Addr) (W : World) (hr : Row W W.heap.size A 3 (ints16 [size, i, c])) => r_Word A 3 3 [size, i, c] W hr hl (by omega)
  have f2 := fun W => r_Put16 sum W hm.1 hm.2
  have f3 := fun W => r_Put32 s W hs.1 hs.2
  have f4 := fun W => r_Put32 d W hd.1 hd.2
  obtain ⟨s1, hs1⟩ : ∃ x, x = S [byt v, byt t] := ⟨_, rfl⟩
  obtain ⟨s2, hs2⟩ : ∃ x, x = S (putW [size, i, c]) := ⟨_, rfl⟩
  obtain ⟨s3, hs3⟩ : ∃ x, x = S [byt l, byt p] := ⟨_, rfl⟩
  obtain ⟨s4, hs4⟩ : ∃ x, x = S (put16 sum) := ⟨_, rfl⟩
  obtain ⟨s5, hs5⟩ : ∃ x, x = S (put32 s) := ⟨_, rfl⟩
  obtain ⟨s6, hs6⟩ : ∃ x, x = S (put32 d) := ⟨_, rfl⟩
  have a1 : s1.size = 2 := by rw [hs1]; rfl
  have a2 : s2.size = 6 := by rw [hs2]; rfl
  have a3 : s3.size = 2 := by rw [hs3]; rfl
  have a4 : s4.size = 2 := by rw [hs4]; rfl
  have a5 : s5.size = 4 := by rw [hs5]; rfl
  have a6 : s6.size = 4 := by rw [hs6]; rfl
  rw [← hs1, ← hs2, ← hs3, ← hs4, ← hs5, ← hs6] at hend
  rw [← hs2] at f1; rw [← hs4] at f2; rw [← hs5] at f3; rw [← hs6] at f4
  have cv : ∀ (W : World) (b : Nat), W.cell? ⟨b, 0, none⟩ = some (.int .u8 v) → W.cell? ⟨b, 1, none⟩ = some (.int .u8 t) → (convert 86 9 (.slice (some ⟨b, 0, none⟩) 2 2)).run Tryz.prog W = .ok (.string s1) W := fun W b h0 h1 => by
    rw [hs1]
    exact run_convert_bytes_arg (P := Tryz.prog) W 86 5 Tryz.underlying86 Tryz.underlying5 b 0 2 2 [v, t] rfl
      (fun i hi => by
        match i, hi with
        | 0, _ => exact h0
        | 1, _ => exact h1) 9 Tryz.underlying9
  have cw : ∀ (W : World) (b : Nat), W.cell? ⟨b, 0, none⟩ = some (.int .u8 l) → W.cell? ⟨b, 1, none⟩ = some (.int .u8 p) → (convert 86 9 (.slice (some ⟨b, 0, none⟩) 2 2)).run Tryz.prog W = .ok (.string s3) W := fun W b h0 h1 => by
    rw [hs3]
    exact run_convert_bytes_arg (P := Tryz.prog) W 86 5 Tryz.underlying86 Tryz.underlying5 b 0 2 2 [l, p] rfl
      (fun i hi => by
        match i, hi with
        | 0, _ => exact h0
        | 1, _ => exact h1) 9 Tryz.underlying9
  have b5 : (s1 ++ s2).size = 8 := by rw [ByteArray.size_append, a1, a2]
  have b6 : (s1 ++ s2 ++ s3).size = 10 := by rw [ByteArray.size_append, b5, a3]
  have b7 : (s1 ++ s2 ++ s3 ++ s4).size = 12 := by rw [ByteArray.size_append, b6, a4]
  have b8 : (s1 ++ s2 ++ s3 ++ s4 ++ s5).size = 16 := by rw [ByteArray.size_append, b7, a5]
  have b9 : (s1 ++ s2 ++ s3 ++ s4 ++ s5 ++ s6).size = 20 := by rw [ByteArray.size_append, b8, a6]
  have b10 : (s1 ++ s2 ++ s3 ++ s4 ++ s5 ++ s6 ++ o).size = 20 + o.size := by rw [ByteArray.size_append, b9]
  have wz : IntKind.u16.wrap size = size := by rw [IntKind.wrap_u16]; omega
  have wv : IntKind.u8.wrap v = v := by rw [IntKind.wrap_u8]; omega
  have hv2 : 69 + (o.size : Int) / 4 = v := hv.symm
  have F1 := hide f1; have F2 := hide f2; have F3 := hide f3; have F4 := hide f4; have HE := hide hend; have HC := hide hc
  clear f1 f2 f3 f4 hend hs1 hs2 hs3 hs4 hs5 hs6 hl hs hd hv hc hcb
  have hf : f = true ∨ f = false := by cases f <;> simp
  rcases hf with rfl | rfl
  · have hc : c = 16384 := HC.out
    subst hc
    go_enter Tryz.func72, Tryz.ntmps72
    have d0 := Cells.new w #[.int .u8 t, .int .u16 i, .bool true, .int .u8 l, .int .u8 p, .int .u32 s, .int .u32 d, .string o] 57
    have d1 := Cells.below (fresh_below (w.alloc (.cells #[.int .u8 t, .int .u16 i, .bool true, .int .u8 l, .int .u8 p, .int .u32 s, .int .u32 d, .string o] 57)) (.cells #[.int .u8 v, .int .u8 t] 5)) d0
    have xd0_0 : ((w.alloc (.cells #[.int .u8 t, .int .u16 i, .bool true, .int .u8 l, .int .u8 p, .int .u32 s, .int .u32 d, .string o] 57))).cell? ⟨w.heap.size, 0, none⟩ = some (.int .u8 t) := d0.at_ 0
    have xd0_1 : ((w.alloc (.cells #[.int .u8 t, .int .u16 i, .bool true, .int .u8 l, .int .u8 p, .int .u32 s, .int .u32 d, .string o] 57))).cell? ⟨w.heap.size, 1, none⟩ = some (.int .u16 i) := d0.at_ 1
    have xd0_2 : ((w.alloc (.cells #[.int .u8 t, .int .u16 i, .bool true, .int .u8 l, .int .u8 p, .int .u32 s, .int .u32 d, .string o] 57))).cell? ⟨w.heap.size, 2, none⟩ = some (.bool true) := d0.at_ 2
    have xd0_3 : ((w.alloc (.cells #[.int .u8 t, .int .u16 i, .bool true, .int .u8 l, .int .u8 p, .int .u32 s, .int .u32 d, .string o] 57))).cell? ⟨w.heap.size, 3, none⟩ = some (.int .u8 l) := d0.at_ 3
    have xd0_4 : ((w.alloc (.cells #[.int .u8 t, .int .u16 i, .bool true, .int .u8 l, .int .u8 p, .int .u32 s, .int .u32 d, .string o] 57))).cell? ⟨w.heap.size, 4, none⟩ = some (.int .u8 p) := d0.at_ 4
    have xd0_5 : ((w.alloc (.cells #[.int .u8 t, .int .u16 i, .bool true, .int .u8 l, .int .u8 p, .int .u32 s, .int .u32 d, .string o] 57))).cell? ⟨w.heap.size, 5, none⟩ = some (.int .u32 s) := d0.at_ 5
    have xd0_6 : ((w.alloc (.cells #[.int .u8 t, .int .u16 i, .bool true, .int .u8 l, .int .u8 p, .int .u32 s, .int .u32 d, .string o] 57))).cell? ⟨w.heap.size, 6, none⟩ = some (.int .u32 d) := d0.at_ 6
    have xd0_7 : ((w.alloc (.cells #[.int .u8 t, .int .u16 i, .bool true, .int .u8 l, .int .u8 p, .int .u32 s, .int .u32 d, .string o] 57))).cell? ⟨w.heap.size, 7, none⟩ = some (.string o) := d0.at_ 7
    have yd0_0 : ((w.alloc (.cells #[.int .u8 t, .int .u16 i, .bool true, .int .u8 l, .int .u8 p, .int .u32 s, .int .u32 d, .string o] 57))).frozen? ⟨w.heap.size, 0, none⟩ = false := d0.free 0
    have yd0_1 : ((w.alloc (.cells #[.int .u8 t, .int .u16 i, .bool true, .int .u8 l, .int .u8 p, .int .u32 s, .int .u32 d, .string o] 57))).frozen? ⟨w.heap.size, 1, none⟩ = false := d0.free 1
    have yd0_2 : ((w.alloc (.cells #[.int .u8 t, .int .u16 i, .bool true, .int .u8 l, .int .u8 p, .int .u32 s, .int .u32 d, .string o] 57))).frozen? ⟨w.heap.size, 2, none⟩ = false := d0.free 2
    have yd0_3 : ((w.alloc (.cells #[.int .u8 t, .int .u16 i, .bool true, .int .u8 l, .int .u8 p, .int .u32 s, .int .u32 d, .string o] 57))).frozen? ⟨w.heap.size, 3, none⟩ = false := d0.free 3
    have yd0_4 : ((w.alloc (.cells #[.int .u8 t, .int .u16 i, .bool true, .int .u8 l, .int .u8 p, .int .u32 s, .int .u32 d, .string o] 57))).frozen? ⟨w.heap.size, 4, none⟩ = false := d0.free 4
    have yd0_5 : ((w.alloc (.cells #[.int .u8 t, .int .u16 i, .bool true, .int .u8 l, .int .u8 p, .int .u32 s, .int .u32 d, .string o] 57))).frozen? ⟨w.heap.size, 5, none⟩ = false := d0.free 5
    have yd0_6 : ((w.alloc (.cells #[.int .u8 t, .int .u16 i, .bool true, .int .u8 l, .int .u8 p, .int .u32 s, .int .u32 d, .string o] 57))).frozen? ⟨w.heap.size, 6, none⟩ = false := d0.free 6
    have yd0_7 : ((w.alloc (.cells #[.int .u8 t, .int .u16 i, .bool true, .int .u8 l, .int .u8 p, .int .u32 s, .int .u32 d, .string o] 57))).frozen? ⟨w.heap.size, 7, none⟩ = false := d0.free 7
    have xd1_0 : (((w.alloc (.cells #[.int .u8 t, .int .u16 i, .bool true, .int .u8 l, .int .u8 p, .int .u32 s, .int .u32 d, .string o] 57)).alloc (.cells #[.int .u8 v, .int .u8 t] 5))).cell? ⟨w.heap.size, 0, none⟩ = some (.int .u8 t) := d1.at_ 0
    have xd1_1 : (((w.alloc (.cells #[.int .u8 t, .int .u16 i, .bool true, .int .u8 l, .int .u8 p, .int .u32 s, .int .u32 d, .string o] 57)).alloc (.cells #[.int .u8 v, .int .u8 t] 5))).cell? ⟨w.heap.size, 1, none⟩ = some (.int .u16 i) := d1.at_ 1
    have xd1_2 : (((w.alloc (.cells #[.int .u8 t, .int .u16 i, .bool true, .int .u8 l, .int .u8 p, .int .u32 s, .int .u32 d, .string o] 57)).alloc (.cells #[.int .u8 v, .int .u8 t] 5))).cell? ⟨w.heap.size, 2, none⟩ = some (.bool true) := d1.at_ 2
    have xd1_3 : (((w.alloc (.cells #[.int .u8 t, .int .u16 i, .bool true, .int .u8 l, .int .u8 p, .int .u32 s, .int .u32 d, .string o] 57)).alloc (.cells #[.int .u8 v, .int .u8 t] 5))).cell? ⟨w.heap.size, 3, none⟩ = some (.int .u8 l) := d1.at_ 3
    have xd1_4 : (((w.alloc (.cells #[.int .u8 t, .int .u16 i, .bool true, .int .u8 l, .int .u8 p, .int .u32 s, .int .u32 d, .string o] 57)).alloc (.cells #[.int .u8 v, .int .u8 t] 5))).cell? ⟨w.heap.size, 4, none⟩ = some (.int .u8 p) := d1.at_ 4
    have xd1_5 : (((w.alloc (.cells #[.int .u8 t, .int .u16 i, .bool true, .int .u8 l, .int .u8 p, .int .u32 s, .int .u32 d, .string o] 57)).alloc (.cells #[.int .u8 v, .int .u8 t] 5))).cell? ⟨w.heap.size, 5, none⟩ = some (.int .u32 s) := d1.at_ 5
    have xd1_6 : (((w.alloc (.cells #[.int .u8 t, .int .u16 i, .bool true, .int .u8 l, .int .u8 p, .int .u32 s, .int .u32 d, .string o] 57)).alloc (.cells #[.int .u8 v, .int .u8 t] 5))).cell? ⟨w.heap.size, 6, none⟩ = some (.int .u32 d) := d1.at_ 6
    have xd1_7 : (((w.alloc (.cells #[.int .u8 t, .int .u16 i, .bool true, .int .u8 l, .int .u8 p, .int .u32 s, .int .u32 d, .string o] 57)).alloc (.cells #[.int .u8 v, .int .u8 t] 5))).cell? ⟨w.heap.size, 7, none⟩ = some (.string o) := d1.at_ 7
    have yd1_0 : (((w.alloc (.cells #[.int .u8 t, .int .u16 i, .bool true, .int .u8 l, .int .u8 p, .int .u32 s, .int .u32 d, .string o] 57)).alloc (.cells #[.int .u8 v, .int .u8 t] 5))).frozen? ⟨w.heap.size, 0, none⟩ = false := d1.free 0
    have yd1_1 : (((w.alloc (.cells #[.int .u8 t, .int .u16 i, .bool true, .int .u8 l, .int .u8 p, .int .u32 s, .int .u32 d, .string o] 57)).alloc (.cells #[.int .u8 v, .int .u8 t] 5))).frozen? ⟨w.heap.size, 1, none⟩ = false := d1.free 1
    have yd1_2 : (((w.alloc (.cells #[.int .u8 t, .int .u16 i, .bool true, .int .u8 l, .int .u8 p, .int .u32 s, .int .u32 d, .string o] 57)).alloc (.cells #[.int .u8 v, .int .u8 t] 5))).frozen? ⟨w.heap.size, 2, none⟩ = false := d1.free 2
    have yd1_3 : (((w.alloc (.cells #[.int .u8 t, .int .u16 i, .bool true, .int .u8 l, .int .u8 p, .int .u32 s, .int .u32 d, .string o] 57)).alloc (.cells #[.int .u8 v, .int .u8 t] 5))).frozen? ⟨w.heap.size, 3, none⟩ = false := d1.free 3
    have yd1_4 : (((w.alloc (.cells #[.int .u8 t, .int .u16 i, .bool true, .int .u8 l, .int .u8 p, .int .u32 s, .int .u32 d, .string o] 57)).alloc (.cells #[.int .u8 v, .int .u8 t] 5))).frozen? ⟨w.heap.size, 4, none⟩ = false := d1.free 4
    have yd1_5 : (((w.alloc (.cells #[.int .u8 t, .int .u16 i, .bool true, .int .u8 l, .int .u8 p, .int .u32 s, .int .u32 d, .string o] 57)).alloc (.cells #[.int .u8 v, .int .u8 t] 5))).frozen? ⟨w.heap.size, 5, none⟩ = false := d1.free 5
    have yd1_6 : (((w.alloc (.cells #[.int .u8 t, .int .u16 i, .bool true, .int .u8 l, .int .u8 p, .int .u32 s, .int .u32 d, .string o] 57)).alloc (.cells #[.int .u8 v, .int .u8 t] 5))).frozen? ⟨w.heap.size, 6, none⟩ = false := d1.free 6
    have yd1_7 : (((w.alloc (.cells #[.int .u8 t, .int .u16 i, .bool true, .int .u8 l, .int .u8 p, .int .u32 s, .int .u32 d, .string o] 57)).alloc (.cells #[.int .u8 v, .int .u8 t] 5))).frozen? ⟨w.heap.size, 7, none⟩ = false := d1.free 7
    go_wp2_with fail
    (with_reducible refine (F1.out _ _ (by (repeat' (first | with_reducible refine Row.drawn ?_ | with_reducible exact Row.freshAt _ _ _ _ _ _ (by simp) rfl rfl | (with_reducible refine Row.up ?_ (fresh_below _ _)) | (with_reducible refine Row.up ?_ (by with_reducible assumption)))))).mono ?_)
    rintro e w2 ⟨rfl, b2⟩
    have d2 := Cells.up d1 (fresh_below _ _) b2
    replace b2 : Below w.heap.size w w2 := bstep (bstep (bstep (fresh_below _ _) (fresh_below _ _)) (fresh_below _ _)) b2
    have d3 := Cells.below (fresh_below w2 (.cells #[.int .u8 l, .int .u8 p] 5)) d2
    have b3 : Below w.heap.size w (w2.alloc (.cells #[.int .u8 l, .int .u8 p] 5)) := bstep b2 (fresh_below _ _)
    have xd2_0 : w2.cell? ⟨w.heap.size, 0, none⟩ = some (.int .u8 t) := d2.at_ 0
    have xd2_1 : w2.cell? ⟨w.heap.size, 1, none⟩ = some (.int .u16 i) := d2.at_ 1
    have xd2_2 : w2.cell? ⟨w.heap.size, 2, none⟩ = some (.bool true) := d2.at_ 2
    have xd2_3 : w2.cell? ⟨w.heap.size, 3, none⟩ = some (.int .u8 l) := d2.at_ 3
    have xd2_4 : w2.cell? ⟨w.heap.size, 4, none⟩ = some (.int .u8 p) := d2.at_ 4
    have xd2_5 : w2.cell? ⟨w.heap.size, 5, none⟩ = some (.int .u32 s) := d2.at_ 5
    have xd2_6 : w2.cell? ⟨w.heap.size, 6, none⟩ = some (.int .u32 d) := d2.at_ 6
    have xd2_7 : w2.cell? ⟨w.heap.size, 7, none⟩ = some (.string o) := d2.at_ 7
    have yd2_0 : w2.frozen? ⟨w.heap.size, 0, none⟩ = false := d2.free 0
    have yd2_1 : w2.frozen? ⟨w.heap.size, 1, none⟩ = false := d2.free 1
    have yd2_2 : w2.frozen? ⟨w.heap.size, 2, none⟩ = false := d2.free 2
    have yd2_3 : w2.frozen? ⟨w.heap.size, 3, none⟩ = false := d2.free 3
    have yd2_4 : w2.frozen? ⟨w.heap.size, 4, none⟩ = false := d2.free 4
    have yd2_5 : w2.frozen? ⟨w.heap.size, 5, none⟩ = false := d2.free 5
    have yd2_6 : w2.frozen? ⟨w.heap.size, 6, none⟩ = false := d2.free 6
    have yd2_7 : w2.frozen? ⟨w.heap.size, 7, none⟩ = false := d2.free 7
    have xd3_0 : ((w2.alloc (.cells #[.int .u8 l, .int .u8 p] 5))).cell? ⟨w.heap.size, 0, none⟩ = some (.int .u8 t) := d3.at_ 0
    have xd3_1 : ((w2.alloc (.cells #[.int .u8 l, .int .u8 p] 5))).cell? ⟨w.heap.size, 1, none⟩ = some (.int .u16 i) := d3.at_ 1
    have xd3_2 : ((w2.alloc (.cells #[.int .u8 l, .int .u8 p] 5))).cell? ⟨w.heap.size, 2, none⟩ = some (.bool true) := d3.at_ 2
    have xd3_3 : ((w2.alloc (.cells #[.int .u8 l, .int .u8 p] 5))).cell? ⟨w.heap.size, 3, none⟩ = some (.int .u8 l) := d3.at_ 3
    have xd3_4 : ((w2.alloc (.cells #[.int .u8 l, .int .u8 p] 5))).cell? ⟨w.heap.size, 4, none⟩ = some (.int .u8 p) := d3.at_ 4
    have xd3_5 : ((w2.alloc (.cells #[.int .u8 l, .int .u8 p] 5))).cell? ⟨w.heap.size, 5, none⟩ = some (.int .u32 s) := d3.at_ 5
    have xd3_6 : ((w2.alloc (.cells #[.int .u8 l, .int .u8 p] 5))).cell? ⟨w.heap.size, 6, none⟩ = some (.int .u32 d) := d3.at_ 6
    have xd3_7 : ((w2.alloc (.cells #[.int .u8 l, .int .u8 p] 5))).cell? ⟨w.heap.size, 7, none⟩ = some (.string o) := d3.at_ 7
    have yd3_0 : ((w2.alloc (.cells #[.int .u8 l, .int .u8 p] 5))).frozen? ⟨w.heap.size, 0, none⟩ = false := d3.free 0
    have yd3_1 : ((w2.alloc (.cells #[.int .u8 l, .int .u8 p] 5))).frozen? ⟨w.heap.size, 1, none⟩ = false := d3.free 1
    have yd3_2 : ((w2.alloc (.cells #[.int .u8 l, .int .u8 p] 5))).frozen? ⟨w.heap.size, 2, none⟩ = false := d3.free 2
    have yd3_3 : ((w2.alloc (.cells #[.int .u8 l, .int .u8 p] 5))).frozen? ⟨w.heap.size, 3, none⟩ = false := d3.free 3
    have yd3_4 : ((w2.alloc (.cells #[.int .u8 l, .int .u8 p] 5))).frozen? ⟨w.heap.size, 4, none⟩ = false := d3.free 4
    have yd3_5 : ((w2.alloc (.cells #[.int .u8 l, .int .u8 p] 5))).frozen? ⟨w.heap.size, 5, none⟩ = false := d3.free 5
    have yd3_6 : ((w2.alloc (.cells #[.int .u8 l, .int .u8 p] 5))).frozen? ⟨w.heap.size, 6, none⟩ = false := d3.free 6
    have yd3_7 : ((w2.alloc (.cells #[.int .u8 l, .int .u8 p] 5))).frozen? ⟨w.heap.size, 7, none⟩ = false := d3.free 7
    go_wp2_with fail
    clear xd0_0 xd0_1 xd0_2 xd0_3 xd0_4 xd0_5 xd0_6 xd0_7 xd1_0 xd1_1 xd1_2 xd1_3 xd1_4 xd1_5 xd1_6 xd1_7 d0 d1
    generalize (w2.alloc (.cells #[.int .u8 l, .int .u8 p] 5)) = w3 at *
    have SK := hide (fun (zX zY : World) (zh : (Below w.heap.size w zX ∧ zX.cell? ⟨w.heap.size, 5, none⟩ = some (.int .u32 s) ∧ zX.cell? ⟨w.heap.size, 6, none⟩ = some (.int .u32 d) ∧ zX.cell? ⟨w.heap.size, 7, none⟩ = some (.string o) ∧ True)) (zb : Below zX.heap.size zX zY) => (show (Below w.heap.size w zY ∧ zY.cell? ⟨w.heap.size, 5, none⟩ = some (.int .u32 s) ∧ zY.cell? ⟨w.heap.size, 6, none⟩ = some (.int .u32 d) ∧ zY.cell? ⟨w.heap.size, 7, none⟩ = some (.string o) ∧ True) from ⟨bstep zh.1 zb, cellAt zb zh.2.1, cellAt zb zh.2.2.1, cellAt zb zh.2.2.2.1, trivial⟩))
    have FS := hide (fun (zX : World) (zh : (Below w.heap.size w zX ∧ zX.cell? ⟨w.heap.size, 5, none⟩ = some (.int .u32 s) ∧ zX.cell? ⟨w.heap.size, 6, none⟩ = some (.int .u32 d) ∧ zX.cell? ⟨w.heap.size, 7, none⟩ = some (.string o) ∧ True)) => zh.1)
    have GS := hide (fun (zX : World) (zh : (Below w.heap.size w zX ∧ zX.cell? ⟨w.heap.size, 5, none⟩ = some (.int .u32 s) ∧ zX.cell? ⟨w.heap.size, 6, none⟩ = some (.int .u32 d) ∧ zX.cell? ⟨w.heap.size, 7, none⟩ = some (.string o) ∧ True)) => zh)
    have hS0 : (Below w.heap.size w w3 ∧ w3.cell? ⟨w.heap.size, 5, none⟩ = some (.int .u32 s) ∧ w3.cell? ⟨w.heap.size, 6, none⟩ = some (.int .u32 d) ∧ w3.cell? ⟨w.heap.size, 7, none⟩ = some (.string o) ∧ True) := ⟨(by (repeat' (first | with_reducible exact b3 | with_reducible exact Below.refl _ _ | with_reducible refine Below.setCell ?_ (by first | exact Nat.le_refl _ | (dsimp only; omega)) _ | with_reducible refine bstep ?_ (fresh_below _ _) | with_reducible refine Below.drew ?_))), d3.at_ 5, d3.at_ 6, d3.at_ 7, trivial⟩
    go_region_held_law (fun w' => (Below w.heap.size w w' ∧ w'.cell? ⟨w.heap.size, 5, none⟩ = some (.int .u32 s) ∧ w'.cell? ⟨w.heap.size, 6, none⟩ = some (.int .u32 d) ∧ w'.cell? ⟨w.heap.size, 7, none⟩ = some (.string o) ∧ True)) (first | assumption | exact SK.out _ _ hS0 (Below.refl _ _).drew | exact SK.out _ _ hS0 (fresh_below _ _).drew | exact SK.out _ _ (by assumption) (fresh_below _ _) | (refine SK.out _ _ ?_ (by assumption); assumption))
      (first | (go_at_call 56; (with_reducible refine (F2.out _).mono ?_); rintro e wq ⟨rfl, bq⟩) | (go_at_call 100; (with_reducible refine (F3.out _).mono ?_); rintro e wq ⟨rfl, bq⟩) | (go_at_call 100; (with_reducible refine (F4.out _).mono ?_); rintro e wq ⟨rfl, bq⟩))
    all_goals
      have gs := GS.out _ (by assumption)
      obtain ⟨gb, g0, g1, g2, _⟩ := gs
      go_wp2
      go_ret
      exact ⟨congrArg Ending.returned (v_str HE.out), (by first | exact FS.out _ (by assumption) | exact bstep (FS.out _ (by assumption)) (fresh_below _ _) | exact bstep (bstep (FS.out _ (by assumption)) (fresh_below _ _)) (fresh_below _ _))⟩
  · have hc : c = 0 := HC.out
    subst hc
    go_enter Tryz.func72, Tryz.ntmps72
    have d0 := Cells.new w #[.int .u8 t, .int .u16 i, .bool false, .int .u8 l, .int .u8 p, .int .u32 s, .int .u32 d, .string o] 57
    have d1 := Cells.below (fresh_below (w.alloc (.cells #[.int .u8 t, .int .u16 i, .bool false, .int .u8 l, .int .u8 p, .int .u32 s, .int .u32 d, .string o] 57)) (.cells #[.int .u8 v, .int .u8 t] 5)) d0
    have xd0_0 : ((w.alloc (.cells #[.int .u8 t, .int .u16 i, .bool false, .int .u8 l, .int .u8 p, .int .u32 s, .int .u32 d, .string o] 57))).cell? ⟨w.heap.size, 0, none⟩ = some (.int .u8 t) := d0.at_ 0
    have xd0_1 : ((w.alloc (.cells #[.int .u8 t, .int .u16 i, .bool false, .int .u8 l, .int .u8 p, .int .u32 s, .int .u32 d, .string o] 57))).cell? ⟨w.heap.size, 1, none⟩ = some (.int .u16 i) := d0.at_ 1
    have xd0_2 : ((w.alloc (.cells #[.int .u8 t, .int .u16 i, .bool false, .int .u8 l, .int .u8 p, .int .u32 s, .int .u32 d, .string o] 57))).cell? ⟨w.heap.size, 2, none⟩ = some (.bool false) := d0.at_ 2
    have xd0_3 : ((w.alloc (.cells #[.int .u8 t, .int .u16 i, .bool false, .int .u8 l, .int .u8 p, .int .u32 s, .int .u32 d, .string o] 57))).cell? ⟨w.heap.size, 3, none⟩ = some (.int .u8 l) := d0.at_ 3
    have xd0_4 : ((w.alloc (.cells #[.int .u8 t, .int .u16 i, .bool false, .int .u8 l, .int .u8 p, .int .u32 s, .int .u32 d, .string o] 57))).cell? ⟨w.heap.size, 4, none⟩ = some (.int .u8 p) := d0.at_ 4
    have xd0_5 : ((w.alloc (.cells #[.int .u8 t, .int .u16 i, .bool false, .int .u8 l, .int .u8 p, .int .u32 s, .int .u32 d, .string o] 57))).cell? ⟨w.heap.size, 5, none⟩ = some (.int .u32 s) := d0.at_ 5
    have xd0_6 : ((w.alloc (.cells #[.int .u8 t, .int .u16 i, .bool false, .int .u8 l, .int .u8 p, .int .u32 s, .int .u32 d, .string o] 57))).cell? ⟨w.heap.size, 6, none⟩ = some (.int .u32 d) := d0.at_ 6
    have xd0_7 : ((w.alloc (.cells #[.int .u8 t, .int .u16 i, .bool false, .int .u8 l, .int .u8 p, .int .u32 s, .int .u32 d, .string o] 57))).cell? ⟨w.heap.size, 7, none⟩ = some (.string o) := d0.at_ 7
    have yd0_0 : ((w.alloc (.cells #[.int .u8 t, .int .u16 i, .bool false, .int .u8 l, .int .u8 p, .int .u32 s, .int .u32 d, .string o] 57))).frozen? ⟨w.heap.size, 0, none⟩ = false := d0.free 0
    have yd0_1 : ((w.alloc (.cells #[.int .u8 t, .int .u16 i, .bool false, .int .u8 l, .int .u8 p, .int .u32 s, .int .u32 d, .string o] 57))).frozen? ⟨w.heap.size, 1, none⟩ = false := d0.free 1
    have yd0_2 : ((w.alloc (.cells #[.int .u8 t, .int .u16 i, .bool false, .int .u8 l, .int .u8 p, .int .u32 s, .int .u32 d, .string o] 57))).frozen? ⟨w.heap.size, 2, none⟩ = false := d0.free 2
    have yd0_3 : ((w.alloc (.cells #[.int .u8 t, .int .u16 i, .bool false, .int .u8 l, .int .u8 p, .int .u32 s, .int .u32 d, .string o] 57))).frozen? ⟨w.heap.size, 3, none⟩ = false := d0.free 3
    have yd0_4 : ((w.alloc (.cells #[.int .u8 t, .int .u16 i, .bool false, .int .u8 l, .int .u8 p, .int .u32 s, .int .u32 d, .string o] 57))).frozen? ⟨w.heap.size, 4, none⟩ = false := d0.free 4
    have yd0_5 : ((w.alloc (.cells #[.int .u8 t, .int .u16 i, .bool false, .int .u8 l, .int .u8 p, .int .u32 s, .int .u32 d, .string o] 57))).frozen? ⟨w.heap.size, 5, none⟩ = false := d0.free 5
    have yd0_6 : ((w.alloc (.cells #[.int .u8 t, .int .u16 i, .bool false, .int .u8 l, .int .u8 p, .int .u32 s, .int .u32 d, .string o] 57))).frozen? ⟨w.heap.size, 6, none⟩ = false := d0.free 6
    have yd0_7 : ((w.alloc (.cells #[.int .u8 t, .int .u16 i, .bool false, .int .u8 l, .int .u8 p, .int .u32 s, .int .u32 d, .string o] 57))).frozen? ⟨w.heap.size, 7, none⟩ = false := d0.free 7
    have xd1_0 : (((w.alloc (.cells #[.int .u8 t, .int .u16 i, .bool false, .int .u8 l, .int .u8 p, .int .u32 s, .int .u32 d, .string o] 57)).alloc (.cells #[.int .u8 v, .int .u8 t] 5))).cell? ⟨w.heap.size, 0, none⟩ = some (.int .u8 t) := d1.at_ 0
    have xd1_1 : (((w.alloc (.cells #[.int .u8 t, .int .u16 i, .bool false, .int .u8 l, .int .u8 p, .int .u32 s, .int .u32 d, .string o] 57)).alloc (.cells #[.int .u8 v, .int .u8 t] 5))).cell? ⟨w.heap.size, 1, none⟩ = some (.int .u16 i) := d1.at_ 1
    have xd1_2 : (((w.alloc (.cells #[.int .u8 t, .int .u16 i, .bool false, .int .u8 l, .int .u8 p, .int .u32 s, .int .u32 d, .string o] 57)).alloc (.cells #[.int .u8 v, .int .u8 t] 5))).cell? ⟨w.heap.size, 2, none⟩ = some (.bool false) := d1.at_ 2
    have xd1_3 : (((w.alloc (.cells #[.int .u8 t, .int .u16 i, .bool false, .int .u8 l, .int .u8 p, .int .u32 s, .int .u32 d, .string o] 57)).alloc (.cells #[.int .u8 v, .int .u8 t] 5))).cell? ⟨w.heap.size, 3, none⟩ = some (.int .u8 l) := d1.at_ 3
    have xd1_4 : (((w.alloc (.cells #[.int .u8 t, .int .u16 i, .bool false, .int .u8 l, .int .u8 p, .int .u32 s, .int .u32 d, .string o] 57)).alloc (.cells #[.int .u8 v, .int .u8 t] 5))).cell? ⟨w.heap.size, 4, none⟩ = some (.int .u8 p) := d1.at_ 4
    have xd1_5 : (((w.alloc (.cells #[.int .u8 t, .int .u16 i, .bool false, .int .u8 l, .int .u8 p, .int .u32 s, .int .u32 d, .string o] 57)).alloc (.cells #[.int .u8 v, .int .u8 t] 5))).cell? ⟨w.heap.size, 5, none⟩ = some (.int .u32 s) := d1.at_ 5
    have xd1_6 : (((w.alloc (.cells #[.int .u8 t, .int .u16 i, .bool false, .int .u8 l, .int .u8 p, .int .u32 s, .int .u32 d, .string o] 57)).alloc (.cells #[.int .u8 v, .int .u8 t] 5))).cell? ⟨w.heap.size, 6, none⟩ = some (.int .u32 d) := d1.at_ 6
    have xd1_7 : (((w.alloc (.cells #[.int .u8 t, .int .u16 i, .bool false, .int .u8 l, .int .u8 p, .int .u32 s, .int .u32 d, .string o] 57)).alloc (.cells #[.int .u8 v, .int .u8 t] 5))).cell? ⟨w.heap.size, 7, none⟩ = some (.string o) := d1.at_ 7
    have yd1_0 : (((w.alloc (.cells #[.int .u8 t, .int .u16 i, .bool false, .int .u8 l, .int .u8 p, .int .u32 s, .int .u32 d, .string o] 57)).alloc (.cells #[.int .u8 v, .int .u8 t] 5))).frozen? ⟨w.heap.size, 0, none⟩ = false := d1.free 0
    have yd1_1 : (((w.alloc (.cells #[.int .u8 t, .int .u16 i, .bool false, .int .u8 l, .int .u8 p, .int .u32 s, .int .u32 d, .string o] 57)).alloc (.cells #[.int .u8 v, .int .u8 t] 5))).frozen? ⟨w.heap.size, 1, none⟩ = false := d1.free 1
    have yd1_2 : (((w.alloc (.cells #[.int .u8 t, .int .u16 i, .bool false, .int .u8 l, .int .u8 p, .int .u32 s, .int .u32 d, .string o] 57)).alloc (.cells #[.int .u8 v, .int .u8 t] 5))).frozen? ⟨w.heap.size, 2, none⟩ = false := d1.free 2
    have yd1_3 : (((w.alloc (.cells #[.int .u8 t, .int .u16 i, .bool false, .int .u8 l, .int .u8 p, .int .u32 s, .int .u32 d, .string o] 57)).alloc (.cells #[.int .u8 v, .int .u8 t] 5))).frozen? ⟨w.heap.size, 3, none⟩ = false := d1.free 3
    have yd1_4 : (((w.alloc (.cells #[.int .u8 t, .int .u16 i, .bool false, .int .u8 l, .int .u8 p, .int .u32 s, .int .u32 d, .string o] 57)).alloc (.cells #[.int .u8 v, .int .u8 t] 5))).frozen? ⟨w.heap.size, 4, none⟩ = false := d1.free 4
    have yd1_5 : (((w.alloc (.cells #[.int .u8 t, .int .u16 i, .bool false, .int .u8 l, .int .u8 p, .int .u32 s, .int .u32 d, .string o] 57)).alloc (.cells #[.int .u8 v, .int .u8 t] 5))).frozen? ⟨w.heap.size, 5, none⟩ = false := d1.free 5
    have yd1_6 : (((w.alloc (.cells #[.int .u8 t, .int .u16 i, .bool false, .int .u8 l, .int .u8 p, .int .u32 s, .int .u32 d, .string o] 57)).alloc (.cells #[.int .u8 v, .int .u8 t] 5))).frozen? ⟨w.heap.size, 6, none⟩ = false := d1.free 6
    have yd1_7 : (((w.alloc (.cells #[.int .u8 t, .int .u16 i, .bool false, .int .u8 l, .int .u8 p, .int .u32 s, .int .u32 d, .string o] 57)).alloc (.cells #[.int .u8 v, .int .u8 t] 5))).frozen? ⟨w.heap.size, 7, none⟩ = false := d1.free 7
    go_wp2_with fail
    (with_reducible refine (F1.out _ _ (by (repeat' (first | with_reducible refine Row.drawn ?_ | with_reducible exact Row.freshAt _ _ _ _ _ _ (by simp) rfl rfl | (with_reducible refine Row.up ?_ (fresh_below _ _)) | (with_reducible refine Row.up ?_ (by with_reducible assumption)))))).mono ?_)
    rintro e w2 ⟨rfl, b2⟩
    have d2 := Cells.up d1 (fresh_below _ _) b2
    replace b2 : Below w.heap.size w w2 := bstep (bstep (bstep (fresh_below _ _) (fresh_below _ _)) (fresh_below _ _)) b2
    have d3 := Cells.below (fresh_below w2 (.cells #[.int .u8 l, .int .u8 p] 5)) d2
    have b3 : Below w.heap.size w (w2.alloc (.cells #[.int .u8 l, .int .u8 p] 5)) := bstep b2 (fresh_below _ _)
    have xd2_0 : w2.cell? ⟨w.heap.size, 0, none⟩ = some (.int .u8 t) := d2.at_ 0
    have xd2_1 : w2.cell? ⟨w.heap.size, 1, none⟩ = some (.int .u16 i) := d2.at_ 1
    have xd2_2 : w2.cell? ⟨w.heap.size, 2, none⟩ = some (.bool false) := d2.at_ 2
    have xd2_3 : w2.cell? ⟨w.heap.size, 3, none⟩ = some (.int .u8 l) := d2.at_ 3
    have xd2_4 : w2.cell? ⟨w.heap.size, 4, none⟩ = some (.int .u8 p) := d2.at_ 4
    have xd2_5 : w2.cell? ⟨w.heap.size, 5, none⟩ = some (.int .u32 s) := d2.at_ 5
    have xd2_6 : w2.cell? ⟨w.heap.size, 6, none⟩ = some (.int .u32 d) := d2.at_ 6
    have xd2_7 : w2.cell? ⟨w.heap.size, 7, none⟩ = some (.string o) := d2.at_ 7
    have yd2_0 : w2.frozen? ⟨w.heap.size, 0, none⟩ = false := d2.free 0
    have yd2_1 : w2.frozen? ⟨w.heap.size, 1, none⟩ = false := d2.free 1
    have yd2_2 : w2.frozen? ⟨w.heap.size, 2, none⟩ = false := d2.free 2
    have yd2_3 : w2.frozen? ⟨w.heap.size, 3, none⟩ = false := d2.free 3
    have yd2_4 : w2.frozen? ⟨w.heap.size, 4, none⟩ = false := d2.free 4
    have yd2_5 : w2.frozen? ⟨w.heap.size, 5, none⟩ = false := d2.free 5
    have yd2_6 : w2.frozen? ⟨w.heap.size, 6, none⟩ = false := d2.free 6
    have yd2_7 : w2.frozen? ⟨w.heap.size, 7, none⟩ = false := d2.free 7
    have xd3_0 : ((w2.alloc (.cells #[.int .u8 l, .int .u8 p] 5))).cell? ⟨w.heap.size, 0, none⟩ = some (.int .u8 t) := d3.at_ 0
    have xd3_1 : ((w2.alloc (.cells #[.int .u8 l, .int .u8 p] 5))).cell? ⟨w.heap.size, 1, none⟩ = some (.int .u16 i) := d3.at_ 1
    have xd3_2 : ((w2.alloc (.cells #[.int .u8 l, .int .u8 p] 5))).cell? ⟨w.heap.size, 2, none⟩ = some (.bool false) := d3.at_ 2
    have xd3_3 : ((w2.alloc (.cells #[.int .u8 l, .int .u8 p] 5))).cell? ⟨w.heap.size, 3, none⟩ = some (.int .u8 l) := d3.at_ 3
    have xd3_4 : ((w2.alloc (.cells #[.int .u8 l, .int .u8 p] 5))).cell? ⟨w.heap.size, 4, none⟩ = some (.int .u8 p) := d3.at_ 4
    have xd3_5 : ((w2.alloc (.cells #[.int .u8 l, .int .u8 p] 5))).cell? ⟨w.heap.size, 5, none⟩ = some (.int .u32 s) := d3.at_ 5
    have xd3_6 : ((w2.alloc (.cells #[.int .u8 l, .int .u8 p] 5))).cell? ⟨w.heap.size, 6, none⟩ = some (.int .u32 d) := d3.at_ 6
    have xd3_7 : ((w2.alloc (.cells #[.int .u8 l, .int .u8 p] 5))).cell? ⟨w.heap.size, 7, none⟩ = some (.string o) := d3.at_ 7
    have yd3_0 : ((w2.alloc (.cells #[.int .u8 l, .int .u8 p] 5))).frozen? ⟨w.heap.size, 0, none⟩ = false := d3.free 0
    have yd3_1 : ((w2.alloc (.cells #[.int .u8 l, .int .u8 p] 5))).frozen? ⟨w.heap.size, 1, none⟩ = false := d3.free 1
    have yd3_2 : ((w2.alloc (.cells #[.int .u8 l, .int .u8 p] 5))).frozen? ⟨w.heap.size, 2, none⟩ = false := d3.free 2
    have yd3_3 : ((w2.alloc (.cells #[.int .u8 l, .int .u8 p] 5))).frozen? ⟨w.heap.size, 3, none⟩ = false := d3.free 3
    have yd3_4 : ((w2.alloc (.cells #[.int .u8 l, .int .u8 p] 5))).frozen? ⟨w.heap.size, 4, none⟩ = false := d3.free 4
    have yd3_5 : ((w2.alloc (.cells #[.int .u8 l, .int .u8 p] 5))).frozen? ⟨w.heap.size, 5, none⟩ = false := d3.free 5
    have yd3_6 : ((w2.alloc (.cells #[.int .u8 l, .int .u8 p] 5))).frozen? ⟨w.heap.size, 6, none⟩ = false := d3.free 6
    have yd3_7 : ((w2.alloc (.cells #[.int .u8 l, .int .u8 p] 5))).frozen? ⟨w.heap.size, 7, none⟩ = false := d3.free 7
    go_wp2_with fail
    clear xd0_0 xd0_1 xd0_2 xd0_3 xd0_4 xd0_5 xd0_6 xd0_7 xd1_0 xd1_1 xd1_2 xd1_3 xd1_4 xd1_5 xd1_6 xd1_7 d0 d1
    generalize (w2.alloc (.cells #[.int .u8 l, .int .u8 p] 5)) = w3 at *
    have SK := hide (fun (zX zY : World) (zh : (Below w.heap.size w zX ∧ zX.cell? ⟨w.heap.size, 5, none⟩ = some (.int .u32 s) ∧ zX.cell? ⟨w.heap.size, 6, none⟩ = some (.int .u32 d) ∧ zX.cell? ⟨w.heap.size, 7, none⟩ = some (.string o) ∧ True)) (zb : Below zX.heap.size zX zY) => (show (Below w.heap.size w zY ∧ zY.cell? ⟨w.heap.size, 5, none⟩ = some (.int .u32 s) ∧ zY.cell? ⟨w.heap.size, 6, none⟩ = some (.int .u32 d) ∧ zY.cell? ⟨w.heap.size, 7, none⟩ = some (.string o) ∧ True) from ⟨bstep zh.1 zb, cellAt zb zh.2.1, cellAt zb zh.2.2.1, cellAt zb zh.2.2.2.1, trivial⟩))
    have FS := hide (fun (zX : World) (zh : (Below w.heap.size w zX ∧ zX.cell? ⟨w.heap.size, 5, none⟩ = some (.int .u32 s) ∧ zX.cell? ⟨w.heap.size, 6, none⟩ = some (.int .u32 d) ∧ zX.cell? ⟨w.heap.size, 7, none⟩ = some (.string o) ∧ True)) => zh.1)
    have GS := hide (fun (zX : World) (zh : (Below w.heap.size w zX ∧ zX.cell? ⟨w.heap.size, 5, none⟩ = some (.int .u32 s) ∧ zX.cell? ⟨w.heap.size, 6, none⟩ = some (.int .u32 d) ∧ zX.cell? ⟨w.heap.size, 7, none⟩ = some (.string o) ∧ True)) => zh)
    have hS0 : (Below w.heap.size w w3 ∧ w3.cell? ⟨w.heap.size, 5, none⟩ = some (.int .u32 s) ∧ w3.cell? ⟨w.heap.size, 6, none⟩ = some (.int .u32 d) ∧ w3.cell? ⟨w.heap.size, 7, none⟩ = some (.string o) ∧ True) := ⟨(by (repeat' (first | with_reducible exact b3 | with_reducible exact Below.refl _ _ | with_reducible refine Below.setCell ?_ (by first | exact Nat.le_refl _ | (dsimp only; omega)) _ | with_reducible refine bstep ?_ (fresh_below _ _) | with_reducible refine Below.drew ?_))), d3.at_ 5, d3.at_ 6, d3.at_ 7, trivial⟩
    go_region_held_law (fun w' => (Below w.heap.size w w' ∧ w'.cell? ⟨w.heap.size, 5, none⟩ = some (.int .u32 s) ∧ w'.cell? ⟨w.heap.size, 6, none⟩ = some (.int .u32 d) ∧ w'.cell? ⟨w.heap.size, 7, none⟩ = some (.string o) ∧ True)) (first | assumption | exact SK.out _ _ hS0 (Below.refl _ _).drew | exact SK.out _ _ hS0 (fresh_below _ _).drew | exact SK.out _ _ (by assumption) (fresh_below _ _) | (refine SK.out _ _ ?_ (by assumption); assumption))
      (first | (go_at_call 56; (with_reducible refine (F2.out _).mono ?_); rintro e wq ⟨rfl, bq⟩) | (go_at_call 100; (with_reducible refine (F3.out _).mono ?_); rintro e wq ⟨rfl, bq⟩) | (go_at_call 100; (with_reducible refine (F4.out _).mono ?_); rintro e wq ⟨rfl, bq⟩))
    all_goals
      have gs := GS.out _ (by assumption)
      obtain ⟨gb, g0, g1, g2, _⟩ := gs
      go_wp2
      go_ret
      exact ⟨congrArg Ending.returned (v_str HE.out), (by first | exact FS.out _ (by assumption) | exact bstep (FS.out _ (by assumption)) (fresh_below _ _) | exact bstep (bstep (FS.out _ (by assumption)) (fresh_below _ _)) (fresh_below _ _))⟩
end Go.Proofs.YtpidgmamollmgaaGreatDoor
end
