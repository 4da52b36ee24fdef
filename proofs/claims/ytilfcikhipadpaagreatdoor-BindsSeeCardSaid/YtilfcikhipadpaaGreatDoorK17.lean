/- Several texts of this claim, one behind the other. -/
import Derived.Test.YtilfcikhipadpaaGreatDoorK16

section
/- The document's answer for ip (porterref04) over this program: a header's bytes. -/
set_option linter.unusedVariables false
set_option linter.unusedSimpArgs false
namespace Go.Proofs.YtilfcikhipadpaaGreatDoor
open Go.RowKit
attribute [local go_sem] Oper.semAt_some

set_option maxRecDepth 100000 in
set_option maxHeartbeats 2000000 in
theorem r4_Bytes (t i l p s d size sum : Int) (f : Bool) (o : ByteArray) (w : World) (hk : (Hd.mk t i f l p s d o).Ok) (h1 : o.size ≤ 40) (h2 : o.size % 4 = 0) (hz : 0 ≤ size ∧ size ≤ 65535) (hm : 0 ≤ sum ∧ sum ≤ 65535) :
    Calls Tryz.prog 130 #[.agg #[.int .u8 t, .int .u16 i, .bool f, .int .u8 l, .int .u8 p, .int .u32 s, .int .u32 d, .string o], .int .i64 size, .int .u16 sum] w (Ret (.string (S ((Hd.mk t i f l p s d o).bytes size sum))) w) := by
  obtain ⟨⟨t0, t1⟩, ⟨i0, i1⟩, ⟨l0, l1⟩, ⟨p0, p1⟩, hs, hd, ho⟩ := hk
  simp only at t0 t1 i0 i1 l0 l1 p0 p1 hs hd ho
  obtain ⟨c, hc⟩ : ∃ c, c = (Hd.mk t i f l p s d o).cut := ⟨_, rfl⟩
  have hcb : 0 ≤ c ∧ c ≤ 65535 := by rw [hc]; unfold Hd.cut; split <;> omega
  obtain ⟨v, hv⟩ : ∃ v, v = 69 + (o.size : Int) / 4 := ⟨_, rfl⟩
  have hend : S [byt v, byt t] ++ S (putW [size, i, c]) ++ S [byt l, byt p] ++ S (put16 sum) ++ S (put32 s) ++ S (put32 d) ++ o = S ((Hd.mk t i f l p s d o).bytes size sum) := by
    apply L_inj
    unfold Hd.bytes Hd.words
    rw [← hc]
    have e1 : put16 ((64 + (20 + (o.size : Int)) / 4) * 256 + t) = [byt v, byt t] := by
      unfold put16
      rw [show ((64 + (20 + (o.size : Int)) / 4) * 256 + t) / 256 = v from by rw [hv]; omega, byt_eq ((64 + (20 + (o.size : Int)) / 4) * 256 + t) t (by omega) t0 (by omega)]
    have e2 : put16 (l * 256 + p) = [byt l, byt p] := by
      unfold put16
      rw [show (l * 256 + p) / 256 = l from by omega, byt_eq (l * 256 + p) p (by omega) p0 (by omega)]
    simp only [L_append, L_S, putW, List.flatMap_cons, List.flatMap_nil, List.append_assoc, List.append_nil, e1, e2]
  have hl : ∀ x ∈ [size, i, c], 0 ≤ x ∧ x ≤ 65535 := by
    intro x hx
    simp only [List.mem_cons, List.not_mem_nil, or_false] at hx
    rcases hx with rfl | rfl | rfl <;> omega
  have f1 := fun (A : Option Addr) (W : World) (hr : Row W W.heap.size A 3 (ints16 [size, i, c])) => r_Word A 3 3 [size, i, c] W hr hl (by omega)
  have f2 := fun W => r_Put16 sum W hm.1 hm.2
  have f3 := fun W => r_Put32 s W hs.1 hs.2
  have f4 := fun W => r_Put32 d W hd.1 hd.2
  obtain ⟨s1, hs1⟩ : ∃ x, x = S [byt v, byt t] := ⟨_, rfl⟩
  obtain ⟨s2, hs2⟩ : ∃ x, x = S (putW [size, i, c]) := ⟨_, rfl⟩
  obtain ⟨s3, hs3⟩ : ∃ x, x = S [byt l, byt p] := ⟨_, rfl⟩
  obtain ⟨s4, hs4⟩ : ∃ x, x = S (put16 sum) := ⟨_, rfl⟩
  obtain ⟨s5, hs5⟩ : ∃ x, x = S (put32 s) := ⟨_, rfl⟩
  obtain ⟨s6, hs6⟩ : ∃ x, x = S (put32 d) := ⟨_, rfl⟩
  have a1 : s1.size = 2 := by rw [hs1]; rfl
  have a2 : s2.size = 6 := by rw [hs2]; rfl
  have a3 : s3.size = 2 := by rw [hs3]; rfl
  have a4 : s4.size = 2 := by rw [hs4]; rfl
  have a5 : s5.size = 4 := by rw [hs5]; rfl
  have a6 : s6.size = 4 := by rw [hs6]; rfl
  rw [← hs1, ← hs2, ← hs3, ← hs4, ← hs5, ← hs6] at hend
  rw [← hs2] at f1; rw [← hs4] at f2; rw [← hs5] at f3; rw [← hs6] at f4
  have cv : ∀ (W : World) (b : Nat), W.cell? ⟨b, 0, none⟩ = some (.int .u8 v) → W.cell? ⟨b, 1, none⟩ = some (.int .u8 t) → (convert 237 9 (.slice (some ⟨b, 0, none⟩) 2 2)).run Tryz.prog W = .ok (.string s1) W := fun W b h0 h1 => by
    rw [hs1]
    exact run_convert_bytes_arg (P := Tryz.prog) W 237 5 Tryz.underlying237 Tryz.underlying5 b 0 2 2 [v, t] rfl
      (fun i hi => by
        match i, hi with
        | 0, _ => exact h0
        | 1, _ => exact h1) 9 Tryz.underlying9
  have cw : ∀ (W : World) (b : Nat), W.cell? ⟨b, 0, none⟩ = some (.int .u8 l) → W.cell? ⟨b, 1, none⟩ = some (.int .u8 p) → (convert 237 9 (.slice (some ⟨b, 0, none⟩) 2 2)).run Tryz.prog W = .ok (.string s3) W := fun W b h0 h1 => by
    rw [hs3]
    exact run_convert_bytes_arg (P := Tryz.prog) W 237 5 Tryz.underlying237 Tryz.underlying5 b 0 2 2 [l, p] rfl
      (fun i hi => by
        match i, hi with
        | 0, _ => exact h0
        | 1, _ => exact h1) 9 Tryz.underlying9
  have b5 : (s1 ++ s2).size = 8 := by rw [ByteArray.size_append, a1, a2]
  have b6 : (s1 ++ s2 ++ s3).size = 10 := by rw [ByteArray.size_append, b5, a3]
  have b7 : (s1 ++ s2 ++ s3 ++ s4).size = 12 := by rw [ByteArray.size_append, b6, a4]
  have b8 : (s1 ++ s2 ++ s3 ++ s4 ++ s5).size = 16 := by rw [ByteArray.size_append, b7, a5]
  have b9 : (s1 ++ s2 ++ s3 ++ s4 ++ s5 ++ s6).size = 20 := by rw [ByteArray.size_append, b8, a6]
  have b10 : (s1 ++ s2 ++ s3 ++ s4 ++ s5 ++ s6 ++ o).size = 20 + o.size := by rw [ByteArray.size_append, b9]
  have wz : IntKind.u16.wrap size = size := by rw [IntKind.wrap_u16]; omega
  have wv : IntKind.u8.wrap v = v := by rw [IntKind.wrap_u8]; omega
  have hv2 : 69 + (o.size : Int) / 4 = v := hv.symm
  have F1 := hide f1; have F2 := hide f2; have F3 := hide f3; have F4 := hide f4; have HE := hide hend; have HC := hide hc
  clear f1 f2 f3 f4 hend hs1 hs2 hs3 hs4 hs5 hs6 hl hs hd hv hc hcb
  have hf : f = true ∨ f = false := by cases f <;> simp
  rcases hf with rfl | rfl
  · have hc : c = 16384 := HC.out
    subst hc
    go_enter Tryz.func130, Tryz.ntmps130
    have d0 := Cells.new w #[.int .u8 t, .int .u16 i, .bool true, .int .u8 l, .int .u8 p, .int .u32 s, .int .u32 d, .string o] 160
    have d1 := Cells.below (fresh_below (w.alloc (.cells #[.int .u8 t, .int .u16 i, .bool true, .int .u8 l, .int .u8 p, .int .u32 s, .int .u32 d, .string o] 160)) (.cells #[.int .u8 v, .int .u8 t] 5)) d0
    obtain ⟨xd0_0, xd0_1, xd0_2, xd0_3, xd0_4, xd0_5, xd0_6, xd0_7⟩ := d0.x8
    obtain ⟨yd0_0, yd0_1, yd0_2, yd0_3, yd0_4, yd0_5, yd0_6, yd0_7⟩ := d0.y8
    obtain ⟨xd1_0, xd1_1, xd1_2, xd1_3, xd1_4, xd1_5, xd1_6, xd1_7⟩ := d1.x8
    obtain ⟨yd1_0, yd1_1, yd1_2, yd1_3, yd1_4, yd1_5, yd1_6, yd1_7⟩ := d1.y8
    go_wp2_with fail
    (with_reducible refine (F1.out _ _ (by (repeat' (first | with_reducible refine Row.drawn ?_ | with_reducible exact Row.freshAt _ _ _ _ _ _ (by simp) rfl rfl | (with_reducible refine Row.up ?_ (fresh_below _ _)) | (with_reducible refine Row.up ?_ (by with_reducible assumption)))))).mono ?_)
    rintro e w2 ⟨rfl, b2⟩
    have d2 := Cells.up d1 (fresh_below _ _) b2
    replace b2 : Below w.heap.size w w2 := bstep (bstep (bstep (fresh_below _ _) (fresh_below _ _)) (fresh_below _ _)) b2
    have d3 := Cells.below (fresh_below w2 (.cells #[.int .u8 l, .int .u8 p] 5)) d2
    have b3 : Below w.heap.size w (w2.alloc (.cells #[.int .u8 l, .int .u8 p] 5)) := bstep b2 (fresh_below _ _)
    obtain ⟨xd2_0, xd2_1, xd2_2, xd2_3, xd2_4, xd2_5, xd2_6, xd2_7⟩ := d2.x8
    obtain ⟨yd2_0, yd2_1, yd2_2, yd2_3, yd2_4, yd2_5, yd2_6, yd2_7⟩ := d2.y8
    obtain ⟨xd3_0, xd3_1, xd3_2, xd3_3, xd3_4, xd3_5, xd3_6, xd3_7⟩ := d3.x8
    obtain ⟨yd3_0, yd3_1, yd3_2, yd3_3, yd3_4, yd3_5, yd3_6, yd3_7⟩ := d3.y8
    go_wp2_with fail
    clear xd0_0 xd0_1 xd0_2 xd0_3 xd0_4 xd0_5 xd0_6 xd0_7 xd1_0 xd1_1 xd1_2 xd1_3 xd1_4 xd1_5 xd1_6 xd1_7 d0 d1
    generalize (w2.alloc (.cells #[.int .u8 l, .int .u8 p] 5)) = w3 at *
    have SK := hide (fun (zX zY : World) (zh : (Below w.heap.size w zX ∧ zX.cell? ⟨w.heap.size, 5, none⟩ = some (.int .u32 s) ∧ zX.cell? ⟨w.heap.size, 6, none⟩ = some (.int .u32 d) ∧ zX.cell? ⟨w.heap.size, 7, none⟩ = some (.string o) ∧ True)) (zb : Below zX.heap.size zX zY) => (show (Below w.heap.size w zY ∧ zY.cell? ⟨w.heap.size, 5, none⟩ = some (.int .u32 s) ∧ zY.cell? ⟨w.heap.size, 6, none⟩ = some (.int .u32 d) ∧ zY.cell? ⟨w.heap.size, 7, none⟩ = some (.string o) ∧ True) from ⟨bstep zh.1 zb, cellAt zb zh.2.1, cellAt zb zh.2.2.1, cellAt zb zh.2.2.2.1, trivial⟩))
    have FS := hide (fun (zX : World) (zh : (Below w.heap.size w zX ∧ zX.cell? ⟨w.heap.size, 5, none⟩ = some (.int .u32 s) ∧ zX.cell? ⟨w.heap.size, 6, none⟩ = some (.int .u32 d) ∧ zX.cell? ⟨w.heap.size, 7, none⟩ = some (.string o) ∧ True)) => zh.1)
    have GS := hide (fun (zX : World) (zh : (Below w.heap.size w zX ∧ zX.cell? ⟨w.heap.size, 5, none⟩ = some (.int .u32 s) ∧ zX.cell? ⟨w.heap.size, 6, none⟩ = some (.int .u32 d) ∧ zX.cell? ⟨w.heap.size, 7, none⟩ = some (.string o) ∧ True)) => zh)
    have hS0 : (Below w.heap.size w w3 ∧ w3.cell? ⟨w.heap.size, 5, none⟩ = some (.int .u32 s) ∧ w3.cell? ⟨w.heap.size, 6, none⟩ = some (.int .u32 d) ∧ w3.cell? ⟨w.heap.size, 7, none⟩ = some (.string o) ∧ True) := ⟨(by (repeat' (first | with_reducible exact b3 | with_reducible exact Below.refl _ _ | with_reducible refine Below.setCell ?_ (by first | exact Nat.le_refl _ | (dsimp only; omega)) _ | with_reducible refine bstep ?_ (fresh_below _ _) | with_reducible refine Below.drew ?_))), d3.at_ 5, d3.at_ 6, d3.at_ 7, trivial⟩
    go_region_held_law (fun w' => (Below w.heap.size w w' ∧ w'.cell? ⟨w.heap.size, 5, none⟩ = some (.int .u32 s) ∧ w'.cell? ⟨w.heap.size, 6, none⟩ = some (.int .u32 d) ∧ w'.cell? ⟨w.heap.size, 7, none⟩ = some (.string o) ∧ True)) (first | assumption | exact SK.out _ _ hS0 (Below.refl _ _).drew | exact SK.out _ _ hS0 (fresh_below _ _).drew | exact SK.out _ _ (by assumption) (fresh_below _ _) | (refine SK.out _ _ ?_ (by assumption); assumption))
      (first | (go_at_call 118; (with_reducible refine (F2.out _).mono ?_); rintro e wq ⟨rfl, bq⟩) | (go_at_call 186; (with_reducible refine (F3.out _).mono ?_); rintro e wq ⟨rfl, bq⟩) | (go_at_call 186; (with_reducible refine (F4.out _).mono ?_); rintro e wq ⟨rfl, bq⟩))
    all_goals
      have gs := GS.out _ (by assumption)
      obtain ⟨gb, g0, g1, g2, _⟩ := gs
      go_wp2
      go_ret
      exact ⟨congrArg Ending.returned (v_str HE.out), (by first | exact FS.out _ (by assumption) | exact bstep (FS.out _ (by assumption)) (fresh_below _ _) | exact bstep (bstep (FS.out _ (by assumption)) (fresh_below _ _)) (fresh_below _ _))⟩
  · have hc : c = 0 := HC.out
    subst hc
    go_enter Tryz.func130, Tryz.ntmps130
    have d0 := Cells.new w #[.int .u8 t, .int .u16 i, .bool false, .int .u8 l, .int .u8 p, .int .u32 s, .int .u32 d, .string o] 160
    have d1 := Cells.below (fresh_below (w.alloc (.cells #[.int .u8 t, .int .u16 i, .bool false, .int .u8 l, .int .u8 p, .int .u32 s, .int .u32 d, .string o] 160)) (.cells #[.int .u8 v, .int .u8 t] 5)) d0
    obtain ⟨xd0_0, xd0_1, xd0_2, xd0_3, xd0_4, xd0_5, xd0_6, xd0_7⟩ := d0.x8
    obtain ⟨yd0_0, yd0_1, yd0_2, yd0_3, yd0_4, yd0_5, yd0_6, yd0_7⟩ := d0.y8
    obtain ⟨xd1_0, xd1_1, xd1_2, xd1_3, xd1_4, xd1_5, xd1_6, xd1_7⟩ := d1.x8
    obtain ⟨yd1_0, yd1_1, yd1_2, yd1_3, yd1_4, yd1_5, yd1_6, yd1_7⟩ := d1.y8
    go_wp2_with fail
    (with_reducible refine (F1.out _ _ (by (repeat' (first | with_reducible refine Row.drawn ?_ | with_reducible exact Row.freshAt _ _ _ _ _ _ (by simp) rfl rfl | (with_reducible refine Row.up ?_ (fresh_below _ _)) | (with_reducible refine Row.up ?_ (by with_reducible assumption)))))).mono ?_)
    rintro e w2 ⟨rfl, b2⟩
    have d2 := Cells.up d1 (fresh_below _ _) b2
    replace b2 : Below w.heap.size w w2 := bstep (bstep (bstep (fresh_below _ _) (fresh_below _ _)) (fresh_below _ _)) b2
    have d3 := Cells.below (fresh_below w2 (.cells #[.int .u8 l, .int .u8 p] 5)) d2
    have b3 : Below w.heap.size w (w2.alloc (.cells #[.int .u8 l, .int .u8 p] 5)) := bstep b2 (fresh_below _ _)
    obtain ⟨xd2_0, xd2_1, xd2_2, xd2_3, xd2_4, xd2_5, xd2_6, xd2_7⟩ := d2.x8
    obtain ⟨yd2_0, yd2_1, yd2_2, yd2_3, yd2_4, yd2_5, yd2_6, yd2_7⟩ := d2.y8
    obtain ⟨xd3_0, xd3_1, xd3_2, xd3_3, xd3_4, xd3_5, xd3_6, xd3_7⟩ := d3.x8
    obtain ⟨yd3_0, yd3_1, yd3_2, yd3_3, yd3_4, yd3_5, yd3_6, yd3_7⟩ := d3.y8
    go_wp2_with fail
    clear xd0_0 xd0_1 xd0_2 xd0_3 xd0_4 xd0_5 xd0_6 xd0_7 xd1_0 xd1_1 xd1_2 xd1_3 xd1_4 xd1_5 xd1_6 xd1_7 d0 d1
    generalize (w2.alloc (.cells #[.int .u8 l, .int .u8 p] 5)) = w3 at *
    have SK := hide (fun (zX zY : World) (zh : (Below w.heap.size w zX ∧ zX.cell? ⟨w.heap.size, 5, none⟩ = some (.int .u32 s) ∧ zX.cell? ⟨w.heap.size, 6, none⟩ = some (.int .u32 d) ∧ zX.cell? ⟨w.heap.size, 7, none⟩ = some (.string o) ∧ True)) (zb : Below zX.heap.size zX zY) => (show (Below w.heap.size w zY ∧ zY.cell? ⟨w.heap.size, 5, none⟩ = some (.int .u32 s) ∧ zY.cell? ⟨w.heap.size, 6, none⟩ = some (.int .u32 d) ∧ zY.cell? ⟨w.heap.size, 7, none⟩ = some (.string o) ∧ True) from ⟨bstep zh.1 zb, cellAt zb zh.2.1, cellAt zb zh.2.2.1, cellAt zb zh.2.2.2.1, trivial⟩))
    have FS := hide (fun (zX : World) (zh : (Below w.heap.size w zX ∧ zX.cell? ⟨w.heap.size, 5, none⟩ = some (.int .u32 s) ∧ zX.cell? ⟨w.heap.size, 6, none⟩ = some (.int .u32 d) ∧ zX.cell? ⟨w.heap.size, 7, none⟩ = some (.string o) ∧ True)) => zh.1)
    have GS := hide (fun (zX : World) (zh : (Below w.heap.size w zX ∧ zX.cell? ⟨w.heap.size, 5, none⟩ = some (.int .u32 s) ∧ zX.cell? ⟨w.heap.size, 6, none⟩ = some (.int .u32 d) ∧ zX.cell? ⟨w.heap.size, 7, none⟩ = some (.string o) ∧ True)) => zh)
    have hS0 : (Below w.heap.size w w3 ∧ w3.cell? ⟨w.heap.size, 5, none⟩ = some (.int .u32 s) ∧ w3.cell? ⟨w.heap.size, 6, none⟩ = some (.int .u32 d) ∧ w3.cell? ⟨w.heap.size, 7, none⟩ = some (.string o) ∧ True) := ⟨(by (repeat' (first | with_reducible exact b3 | with_reducible exact Below.refl _ _ | with_reducible refine Below.setCell ?_ (by first | exact Nat.le_refl _ | (dsimp only; omega)) _ | with_reducible refine bstep ?_ (fresh_below _ _) | with_reducible refine Below.drew ?_))), d3.at_ 5, d3.at_ 6, d3.at_ 7, trivial⟩
    go_region_held_law (fun w' => (Below w.heap.size w w' ∧ w'.cell? ⟨w.heap.size, 5, none⟩ = some (.int .u32 s) ∧ w'.cell? ⟨w.heap.size, 6, none⟩ = some (.int .u32 d) ∧ w'.cell? ⟨w.heap.size, 7, none⟩ = some (.string o) ∧ True)) (first | assumption | exact SK.out _ _ hS0 (Below.refl _ _).drew | exact SK.out _ _ hS0 (fresh_below _ _).drew | exact SK.out _ _ (by assumption) (fresh_below _ _) | (refine SK.out _ _ ?_ (by assumption); assumption))
      (first | (go_at_call 118; (with_reducible refine (F2.out _).mono ?_); rintro e wq ⟨rfl, bq⟩) | (go_at_call 186; (with_reducible refine (F3.out _).mono ?_); rintro e wq ⟨rfl, bq⟩) | (go_at_call 186; (with_reducible refine (F4.out _).mono ?_); rintro e wq ⟨rfl, bq⟩))
    all_goals
      have gs := GS.out _ (by assumption)
      obtain ⟨gb, g0, g1, g2, _⟩ := gs
      go_wp2
      go_ret
      exact ⟨congrArg Ending.returned (v_str HE.out), (by first | exact FS.out _ (by assumption) | exact bstep (FS.out _ (by assumption)) (fresh_below _ _) | exact bstep (bstep (FS.out _ (by assumption)) (fresh_below _ _)) (fresh_below _ _))⟩
end Go.Proofs.YtilfcikhipadpaaGreatDoor
end

section
/- A header of ip and its bytes: plain facts. No walk. -/
set_option linter.unusedVariables false
namespace Go.Proofs.YtilfcikhipadpaaGreatDoor
open Go.RowKit

def ipErr (h : Hd) (p : ByteArray) : Int := if 40 < h.o.size ∨ h.o.size % 4 ≠ 0 then 2 else if 2028 < h.o.size + p.size then 4 else 0
def Hd.all (h : Hd) (p : ByteArray) : Int := 20 + (h.o.size : Int) + p.size
def Hd.sum (h : Hd) (p : ByteArray) : Int := sumL [h.bytes (h.all p) 0]
def Hd.put (h : Hd) (p : ByteArray) : List UInt8 := h.bytes (h.all p) (h.sum p) ++ L p
def ipText (h : Hd) (p : ByteArray) : ByteArray := if ipErr h p = 0 then S (h.put p) else { data := #[] }
def hdRes (s : ByteArray) : Hd := if ipWhy s = 0 then hdOf s else hdNone
def ipRest (s : ByteArray) : ByteArray := if ipWhy s = 0 then s.extract (ipOwn (L s)).toNat (ipAll (L s)).toNat else { data := #[] }

theorem ipErr_0 {h : Hd} {p : ByteArray} (e : ipErr h p = 0) : h.o.size ≤ 40 ∧ h.o.size % 4 = 0 ∧ h.o.size + p.size ≤ 2028 := by
  unfold ipErr at e
  by_cases h1 : 40 < h.o.size ∨ h.o.size % 4 ≠ 0
  · rw [if_pos h1] at e; omega
  rw [if_neg h1] at e
  by_cases h2 : 2028 < h.o.size + p.size
  · rw [if_pos h2] at e; omega
  omega
theorem Hd.bytes_is (h : Hd) (z m : Int) : h.bytes z m = byt (((64 + (20 + (h.o.size : Int)) / 4) * 256 + h.t) / 256) :: byt ((64 + (20 + (h.o.size : Int)) / 4) * 256 + h.t) :: byt (z / 256) :: byt z :: byt (h.i / 256) :: byt h.i :: byt (h.cut / 256) :: byt h.cut :: byt ((h.l * 256 + h.p) / 256) :: byt (h.l * 256 + h.p) :: byt (m / 256) :: byt m
    :: byt (h.s / 65536 / 256) :: byt (h.s / 65536) :: byt (h.s % 65536 / 256) :: byt (h.s % 65536) :: byt (h.d / 65536 / 256) :: byt (h.d / 65536) :: byt (h.d % 65536 / 256) :: byt (h.d % 65536) :: L h.o := by
  unfold Hd.bytes Hd.words
  simp only [putW, List.flatMap_cons, List.flatMap_nil, List.append_assoc, List.append_nil]
  rfl
theorem Hd.bytes_length (h : Hd) (z m : Int) : (h.bytes z m).length = 20 + h.o.size := by rw [h.bytes_is]; simp only [List.length_cons, L_length]; omega
theorem ipWhy_0 {s : ByteArray} (e : ipWhy s = 0) : 20 ≤ s.size ∧ at_ (L s) 0 / 16 = 4 ∧ ipFits s = true ∧ holds [(L s).take (ipOwn (L s)).toNat] = true ∧ (get16 (L s) 6 = 0 ∨ get16 (L s) 6 = 16384) := by
  unfold ipWhy at e
  by_cases h1 : s.size < 20
  · rw [if_pos h1] at e; omega
  rw [if_neg h1] at e
  by_cases h2 : at_ (L s) 0 / 16 ≠ 4
  · rw [if_pos h2] at e; omega
  rw [if_neg h2] at e
  by_cases h3 : ipFits s = false
  · rw [if_pos h3] at e; omega
  rw [if_neg h3] at e
  by_cases h4 : holds [(L s).take (ipOwn (L s)).toNat] = false
  · rw [if_pos h4] at e; omega
  rw [if_neg h4] at e
  by_cases h5 : get16 (L s) 6 ≠ 0 ∧ get16 (L s) 6 ≠ 16384
  · rw [if_pos h5] at e; omega
  exact ⟨by omega, by omega, by simpa using h3, by simpa using h4, by omega⟩

end Go.Proofs.YtilfcikhipadpaaGreatDoor
end

section
/- ip.Put and porterref04.Put over this program. -/
set_option linter.unusedVariables false
set_option linter.unusedSimpArgs false
namespace Go.Proofs.YtilfcikhipadpaaGreatDoor
open Go.RowKit
attribute [local go_sem] Oper.semAt_some

theorem ipErr_cases (h : Hd) (q : ByteArray) : (ipErr h q = 2 ∧ (40 < (h.o.size : Int) ∨ (¬ 40 < (h.o.size : Int) ∧ (h.o.size : Int) % 4 ≠ 0))) ∨ (ipErr h q = 4 ∧ ¬ 40 < (h.o.size : Int) ∧ (h.o.size : Int) % 4 = 0 ∧ (2028 - (h.o.size : Int)) < q.size) ∨ (ipErr h q = 0 ∧ ¬ 40 < (h.o.size : Int) ∧ (h.o.size : Int) % 4 = 0 ∧ ¬ (2028 - (h.o.size : Int)) < q.size) := by
  unfold ipErr
  by_cases h1 : 40 < h.o.size ∨ h.o.size % 4 ≠ 0
  · rw [if_pos h1]; left; exact ⟨rfl, by omega⟩
  rw [if_neg h1]; right
  by_cases h2 : 2028 < h.o.size + q.size
  · rw [if_pos h2]; left; exact ⟨rfl, by omega, by omega, by omega⟩
  rw [if_neg h2]; right; exact ⟨rfl, by omega, by omega, by omega⟩
theorem ipText_no {h : Hd} {q : ByteArray} (e : ipErr h q ≠ 0) : ipText h q = { data := #[] } := by unfold ipText; rw [if_neg e]

set_option maxHeartbeats 1000000 in
theorem r4_Put_no (t i l p s d : Int) (f : Bool) (o q : ByteArray) (w : World) (ho : o.size ≤ 140737488351232) (hq : q.size ≤ 140737488351232) (h : ipErr (Hd.mk t i f l p s d o) q ≠ 0) :
    Calls Tryz.prog 76 #[.agg #[.int .u8 t, .int .u16 i, .bool f, .int .u8 l, .int .u8 p, .int .u32 s, .int .u32 d, .string o], .string q] w (Ret (.tuple #[.string { data := #[] }, .int .i64 (ipErr (Hd.mk t i f l p s d o) q)]) w) := by
  rcases ipErr_cases (Hd.mk t i f l p s d o) q with ⟨he, h1 | ⟨h1, h2⟩⟩ | ⟨he, h1, h2, h3⟩ | ⟨he, _⟩
  · rw [he]; clear h he; simp only at h1
    go_enter Tryz.func76, Tryz.ntmps76
    go_wp2_with fail
    go_ret2
    exact ⟨rfl, (by (repeat' (first | with_reducible exact Below.refl _ _ | with_reducible refine Below.setCell ?_ (by first | exact Nat.le_refl _ | (dsimp only; omega)) _ | with_reducible refine bstep ?_ (fresh_below _ _) | with_reducible refine Below.drew ?_)))⟩
  · rw [he]; clear h he; simp only at h1 h2
    have q1 : decide ((0 : Int) < (o.size : Int) % 4) = true := by simp; omega
    clear h2
    go_enter Tryz.func76, Tryz.ntmps76
    go_wp2_with fail
    go_ret2
    exact ⟨rfl, (by (repeat' (first | with_reducible exact Below.refl _ _ | with_reducible refine Below.setCell ?_ (by first | exact Nat.le_refl _ | (dsimp only; omega)) _ | with_reducible refine bstep ?_ (fresh_below _ _) | with_reducible refine Below.drew ?_)))⟩
  · rw [he]; clear h he; simp only at h1 h2 h3
    have q1 : decide ((0 : Int) < (o.size : Int) % 4) = false := by simp; omega
    clear h2
    go_enter Tryz.func76, Tryz.ntmps76
    go_wp2_with fail
    go_ret2
    exact ⟨rfl, (by (repeat' (first | with_reducible exact Below.refl _ _ | with_reducible refine Below.setCell ?_ (by first | exact Nat.le_refl _ | (dsimp only; omega)) _ | with_reducible refine bstep ?_ (fresh_below _ _) | with_reducible refine Below.drew ?_)))⟩
  · exact absurd he h

set_option maxRecDepth 100000 in
set_option maxHeartbeats 2000000 in
theorem r4_Put_yes (t i l p s d : Int) (f : Bool) (o q : ByteArray) (w : World) (hk : (Hd.mk t i f l p s d o).Ok) (h : ipErr (Hd.mk t i f l p s d o) q = 0) :
    Calls Tryz.prog 76 #[.agg #[.int .u8 t, .int .u16 i, .bool f, .int .u8 l, .int .u8 p, .int .u32 s, .int .u32 d, .string o], .string q] w (Ret (.tuple #[.string (S ((Hd.mk t i f l p s d o).put q)), .int .i64 0]) w) := by
  obtain ⟨h1, h2, h3⟩ := ipErr_0 h
  simp only at h1 h2 h3
  obtain ⟨z, hz⟩ : ∃ z, z = 20 + (o.size : Int) + (q.size : Int) := ⟨_, rfl⟩
  have hzz : (Hd.mk t i f l p s d o).all q = z := hz.symm
  obtain ⟨m, hm⟩ : ∃ m, m = (Hd.mk t i f l p s d o).sum q := ⟨_, rfl⟩
  have hmb : 0 ≤ m ∧ m ≤ 65535 := by rw [hm]; exact sumL_bd _
  have c1 := fun W => r4_Bytes t i l p s d z 0 f o W hk h1 h2 ⟨by omega, by omega⟩ ⟨by omega, by omega⟩
  have c3 := fun W => r4_Bytes t i l p s d z m f o W hk h1 h2 ⟨by omega, by omega⟩ hmb
  have c2 := fun W => r_Sum (some ⟨W.heap.size, 0, none⟩) 1 1 [S ((Hd.mk t i f l p s d o).bytes z 0)] (W.alloc (.cells #[.string (S ((Hd.mk t i f l p s d o).bytes z 0))] 9)) (Row.freshAt W #[.string (S ((Hd.mk t i f l p s d o).bytes z 0))] 9 W.heap.size _ _ rfl rfl rfl) (by
      intro x hx
      simp only [List.mem_cons, List.not_mem_nil, or_false] at hx
      subst hx
      rw [S_size, Hd.bytes_length]; simp only; omega) (by omega)
  rw [show sumL ([S ((Hd.mk t i f l p s d o).bytes z 0)].map L) = m from by rw [hm]; unfold Hd.sum; rw [hzz]; simp only [List.map_cons, List.map_nil, L_S]] at c2
  have hend : S ((Hd.mk t i f l p s d o).bytes z m) ++ q = S ((Hd.mk t i f l p s d o).put q) := by
    apply L_inj
    unfold Hd.put
    rw [hzz, ← hm, L_append, L_S, L_S]
  obtain ⟨sb, hsb⟩ : ∃ x, x = S ((Hd.mk t i f l p s d o).bytes z 0) := ⟨_, rfl⟩
  obtain ⟨sc, hsc⟩ : ∃ x, x = S ((Hd.mk t i f l p s d o).bytes z m) := ⟨_, rfl⟩
  have a1 : sc.size = 20 + o.size := by rw [hsc, S_size, Hd.bytes_length]
  have a2 : (sc ++ q).size = 20 + o.size + q.size := by rw [ByteArray.size_append, a1]
  rw [← hsb] at c1 c2
  rw [← hsc] at c3 hend
  have g1 : ¬ 40 < (o.size : Int) := by omega
  have g3 : ¬ (2028 - (o.size : Int)) < (q.size : Int) := by omega
  have oz : o.size ≤ 140737488351232 := by omega
  have qz : q.size ≤ 140737488351232 := by omega
  have q1 : decide ((0 : Int) < (o.size : Int) % 4) = false := by simp; omega
  have hz2 : 20 + (o.size : Int) + (q.size : Int) = z := hz.symm
  have hzb : 0 ≤ z ∧ z ≤ 65535 := by omega
  have C1 := hide c1; have C2 := hide c2; have C3 := hide c3; have HE := hide hend
  clear c1 c2 c3 hend hsb hsc hk h hz hzz hm h2
  go_enter Tryz.func76, Tryz.ntmps76
  have d0 := Cells.new w #[.int .u8 t, .int .u16 i, .bool f, .int .u8 l, .int .u8 p, .int .u32 s, .int .u32 d, .string o] 160
  obtain ⟨xd0_0, xd0_1, xd0_2, xd0_3, xd0_4, xd0_5, xd0_6, xd0_7⟩ := d0.x8
  obtain ⟨yd0_0, yd0_1, yd0_2, yd0_3, yd0_4, yd0_5, yd0_6, yd0_7⟩ := d0.y8
  go_wp2_with fail
  (with_reducible refine (C1.out _).mono ?_)
  rintro e w2 ⟨rfl, b2⟩
  have d2 := Cells.below b2 d0
  replace b2 : Below w.heap.size w w2 := bstep (fresh_below _ _) b2
  clear d0 xd0_0 xd0_1 xd0_2 xd0_3 xd0_4 xd0_5 xd0_6 xd0_7 yd0_0 yd0_1 yd0_2 yd0_3 yd0_4 yd0_5 yd0_6 yd0_7
  go_wp2_with fail
  (with_reducible refine (C2.out _).mono ?_)
  rintro e w3 ⟨rfl, b3⟩
  have d3 := Cells.up d2 (fresh_below _ _) b3
  replace b3 : Below w.heap.size w w3 := bstep (bstep b2 (fresh_below _ _)) b3
  obtain ⟨xd3_0, xd3_1, xd3_2, xd3_3, xd3_4, xd3_5, xd3_6, xd3_7⟩ := d3.x8
  obtain ⟨yd3_0, yd3_1, yd3_2, yd3_3, yd3_4, yd3_5, yd3_6, yd3_7⟩ := d3.y8
  go_wp2_with fail
  (with_reducible refine (C3.out _).mono ?_)
  rintro e w5 ⟨rfl, b5⟩
  replace b5 : Below w.heap.size w w5 := bstep b3 b5
  go_wp2
  go_ret2
  exact ⟨ret_two (v_str HE.out) rfl, (by (repeat' (first | with_reducible exact b5 | with_reducible exact Below.refl _ _ | with_reducible refine Below.setCell ?_ (by first | exact Nat.le_refl _ | (dsimp only; omega)) _ | with_reducible refine bstep ?_ (fresh_below _ _) | with_reducible refine Below.drew ?_)))⟩

theorem r4_Put (t i l p s d : Int) (f : Bool) (o q : ByteArray) (w : World) (hk : (Hd.mk t i f l p s d o).Ok) (hq : q.size ≤ 140737488351232) :
    Calls Tryz.prog 76 #[.agg #[.int .u8 t, .int .u16 i, .bool f, .int .u8 l, .int .u8 p, .int .u32 s, .int .u32 d, .string o], .string q] w (Ret (.tuple #[.string (ipText (Hd.mk t i f l p s d o) q), .int .i64 (ipErr (Hd.mk t i f l p s d o) q)]) w) := by
  by_cases h : ipErr (Hd.mk t i f l p s d o) q = 0
  · have c := r4_Put_yes t i l p s d f o q w hk h
    unfold ipText; rw [if_pos h, h]; exact c
  · rw [ipText_no h]; exact r4_Put_no t i l p s d f o q w hk.2.2.2.2.2.2 hq h

end Go.Proofs.YtilfcikhipadpaaGreatDoor
end
