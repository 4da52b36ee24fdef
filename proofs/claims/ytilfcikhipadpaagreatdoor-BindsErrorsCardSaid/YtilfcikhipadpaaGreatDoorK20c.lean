/- Several texts of this claim, one behind the other. -/
import Derived.Test.YtilfcikhipadpaaGreatDoorK19c

section
/- ip.Parse over this program, of what stands in order but may not hold. -/
set_option linter.unusedVariables false
set_option linter.unusedSimpArgs false
namespace Go.Proofs.YtilfcikhipadpaaGreatDoor
open Go.RowKit
attribute [local go_sem] Oper.semAt_some

/-- what a packet's header tells -/
def hdOf (s : ByteArray) : Hd := ⟨at_ (L s) 1, get16 (L s) 4, decide (get16 (L s) 6 = 16384), at_ (L s) 8, at_ (L s) 9, get32 (L s) 12, get32 (L s) 16, s.extract 20 (ipOwn (L s)).toNat⟩

end Go.Proofs.YtilfcikhipadpaaGreatDoor
end

section
/- The bytes of a header of ip over this program. -/
set_option linter.unusedVariables false
set_option linter.unusedSimpArgs false
namespace Go.Proofs.YtilfcikhipadpaaGreatDoor
open Go.RowKit
attribute [local go_sem] Oper.semAt_some

def Hd.cut (h : Hd) : Int := if h.f = true then 16384 else 0
def Hd.words (h : Hd) (size sum : Int) : List Int := [(64 + (20 + (h.o.size : Int)) / 4) * 256 + h.t, size, h.i, h.cut, h.l * 256 + h.p, sum]
/-- a header's bytes -/
def Hd.bytes (h : Hd) (size sum : Int) : List UInt8 := putW (h.words size sum) ++ put32 h.s ++ put32 h.d ++ L h.o

end Go.Proofs.YtilfcikhipadpaaGreatDoor
end

section
/- The document's answer for ip (porterref04) over this program: a header's bytes. -/
set_option linter.unusedVariables false
set_option linter.unusedSimpArgs false
namespace Go.Proofs.YtilfcikhipadpaaGreatDoor
open Go.RowKit
attribute [local go_sem] Oper.semAt_some

set_option maxRecDepth 100000 in
set_option maxHeartbeats 2000000 in
theorem r4_Bytes (t i l p s d size sum : Int) (f : Bool) (o : ByteArray) (w : World) (hk : (Hd.mk t i f l p s d o).Ok) (h1 : o.size ≤ 40) (h2 : o.size % 4 = 0) (hz : 0 ≤ size ∧ size ≤ 65535) (hm : 0 ≤ sum ∧ sum ≤ 65535) :
    Calls Tryz.prog 130 #[.agg #[.int .u8 t, .int .u16 i, .bool f, .int .u8 l, .int .u8 p, .int .u32 s, .int .u32 d, .string o], .int .i64 size, .int .u16 sum] w (Ret (.string (S ((Hd.mk t i f l p s d o).bytes size sum))) w) := by
  obtain ⟨⟨t0, t1⟩, ⟨i0, i1⟩, ⟨l0, l1⟩, ⟨p0, p1⟩, hs, hd, ho⟩ := hk
  simp only at t0 t1 i0 i1 l0 l1 p0 p1 hs hd ho
  obtain ⟨c, hc⟩ : ∃ c, c = (Hd.mk t i f l p s d o).cut := ⟨_, rfl⟩
  have hcb : 0 ≤ c ∧ c ≤ 65535 := by rw [hc]; unfold Hd.cut; split <;> omega
  obtain ⟨v, hv⟩ : ∃ v, v = 69 + (o.size : Int) / 4 := ⟨_, rfl⟩
  have hend : S [byt v, byt t] ++ S (putW [size, i, c]) ++ S [byt l, byt p] ++ S (put16 sum) ++ S (put32 s) ++ S (put32 d) ++ o = S ((Hd.mk t i f l p s d o).bytes size sum) := by
    apply L_inj
    unfold Hd.bytes Hd.words
    rw [← hc]
    have e1 : put16 ((64 + (20 + (o.size : Int)) / 4) * 256 + t) = [byt v, byt t] := by
      unfold put16
      rw [show ((64 + (20 + (o.size : Int)) / 4) * 256 + t) / 256 = v from by rw [hv]; omega, byt_eq ((64 + (20 + (o.size : Int)) / 4) * 256 + t) t (by omega) t0 (by omega)]
    have e2 : put16 (l * 256 + p) = [byt l, byt p] := by
      unfold put16
      rw [show (l * 256 + p) / 256 = l from by omega, byt_eq (l * 256 + p) p (by omega) p0 (by omega)]
    simp only [L_append, L_S, putW, List.flatMap_cons, List.flatMap_nil, List.append_assoc, List.append_nil, e1, e2]
  have hl : ∀ x ∈ [size, i, c], 0 ≤ x ∧ x ≤ 65535 := by
    intro x hx
    simp only [List.mem_cons, List.not_mem_nil, or_false] at hx
    rcases hx with rfl | rfl | rfl <;> omega
  have f1 := fun (A : Option Addr) (W : World) (hr : Row W W.heap.size A 3 (ints16 [size, i, c])) => r_Word A 3 3 [size, i, c] W hr hl (by omega)
  have f2 := fun W => r_Put16 sum W hm.1 hm.2
  have f3 := fun W => r_Put32 s W hs.1 hs.2
  have f4 := fun W => r_Put32 d W hd.1 hd.2
  obtain ⟨s1, hs1⟩ : ∃ x, x = S [byt v, byt t] := ⟨_, rfl⟩
  obtain ⟨s2, hs2⟩ : ∃ x, x = S (putW [size, i, c]) := ⟨_, rfl⟩
  obtain ⟨s3, hs3⟩ : ∃ x, x = S [byt l, byt p] := ⟨_, rfl⟩
  obtain ⟨s4, hs4⟩ : ∃ x, x = S (put16 sum) := ⟨_, rfl⟩
  obtain ⟨s5, hs5⟩ : ∃ x, x = S (put32 s) := ⟨_, rfl⟩
  obtain ⟨s6, hs6⟩ : ∃ x, x = S (put32 d) := ⟨_, rfl⟩
  have a1 : s1.size = 2 := by rw [hs1]; rfl
  have a2 : s2.size = 6 := by rw [hs2]; rfl
  have a3 : s3.size = 2 := by rw [hs3]; rfl
  have a4 : s4.size = 2 := by rw [hs4]; rfl
  have a5 : s5.size = 4 := by rw [hs5]; rfl
  have a6 : s6.size = 4 := by rw [hs6]; rfl
  rw [← hs1, ← hs2, ← hs3, ← hs4, ← hs5, ← hs6] at hend
  rw [← hs2] at f1; rw [← hs4] at f2; rw [← hs5] at f3; rw [← hs6] at f4
  have cv : ∀ (W : World) (b : Nat), W.cell? ⟨b, 0, none⟩ = some (.int .u8 v) → W.cell? ⟨b, 1, none⟩ = some (.int .u8 t) → (convert 237 9 (.slice (some ⟨b, 0, none⟩) 2 2)).run Tryz.prog W = .ok (.string s1) W := fun W b h0 h1 => by
    rw [hs1]
    exact run_convert_bytes_arg (P := Tryz.prog) W 237 5 Tryz.underlying237 Tryz.underlying5 b 0 2 2 [v, t] rfl
      (fun i hi => by
        match i, hi with
        | 0, _ => exact h0
        | 1, _ => exact h1) 9 Tryz.underlying9
  have cw : ∀ (W : World) (b : Nat), W.cell? ⟨b, 0, none⟩ = some (.int .u8 l) → W.cell? ⟨b, 1, none⟩ = some (.int .u8 p) → (convert 237 9 (.slice (some ⟨b, 0, none⟩) 2 2)).run Tryz.prog W = .ok (.string s3) W := fun W b h0 h1 => by
    rw [hs3]
    exact run_convert_bytes_arg (P := Tryz.prog) W 237 5 Tryz.underlying237 Tryz.underlying5 b 0 2 2 [l, p] rfl
      (fun i hi => by
        match i, hi with
        | 0, _ => exact h0
        | 1, _ => exact h1) 9 Tryz.underlying9
  have b5 : (s1 ++ s2).size = 8 := by rw [ByteArray.size_append, a1, a2]
  have b6 : (s1 ++ s2 ++ s3).size = 10 := by rw [ByteArray.size_append, b5, a3]
  have b7 : (s1 ++ s2 ++ s3 ++ s4).size = 12 := by rw [ByteArray.size_append, b6, a4]
  have b8 : (s1 ++ s2 ++ s3 ++ s4 ++ s5).size = 16 := by rw [ByteArray.size_append, b7, a5]
  have b9 : (s1 ++ s2 ++ s3 ++ s4 ++ s5 ++ s6).size = 20 := by rw [ByteArray.size_append, b8, a6]
  have b10 : (s1 ++ s2 ++ s3 ++ s4 ++ s5 ++ s6 ++ o).size = 20 + o.size := by rw [ByteArray.size_append, b9]
  have wz : IntKind.u16.wrap size = size := by rw [IntKind.wrap_u16]; omega
  have wv : IntKind.u8.wrap v = v := by rw [IntKind.wrap_u8]; omega
  have hv2 : 69 + (o.size : Int) / 4 = v := hv.symm
  have F1 := hide f1; have F2 := hide f2; have F3 := hide f3; have F4 := hide f4; have HE := hide hend; have HC := hide hc
  clear f1 f2 f3 f4 hend hs1 hs2 hs3 hs4 hs5 hs6 hl hs hd hv hc hcb
  have hf : f = true ∨ f = false := by cases f <;> simp
  rcases hf with rfl | rfl
  · have hc : c = 16384 := HC.out
    subst hc
    go_enter Tryz.func130, Tryz.ntmps130
    have d0 := Cells.new w #[.int .u8 t, .int .u16 i, .bool true, .int .u8 l, .int .u8 p, .int .u32 s, .int .u32 d, .string o] 160
    have d1 := Cells.below (fresh_below (w.alloc (.cells #[.int .u8 t, .int .u16 i, .bool true, .int .u8 l, .int .u8 p, .int .u32 s, .int .u32 d, .string o] 160)) (.cells #[.int .u8 v, .int .u8 t] 5)) d0
    obtain ⟨xd0_0, xd0_1, xd0_2, xd0_3, xd0_4, xd0_5, xd0_6, xd0_7⟩ := d0.x8
    obtain ⟨yd0_0, yd0_1, yd0_2, yd0_3, yd0_4, yd0_5, yd0_6, yd0_7⟩ := d0.y8
    obtain ⟨xd1_0, xd1_1, xd1_2, xd1_3, xd1_4, xd1_5, xd1_6, xd1_7⟩ := d1.x8
    obtain ⟨yd1_0, yd1_1, yd1_2, yd1_3, yd1_4, yd1_5, yd1_6, yd1_7⟩ := d1.y8
    go_wp2_with fail
    (with_reducible refine (F1.out _ _ (by (repeat' (first | with_reducible refine Row.drawn ?_ | with_reducible exact Row.freshAt _ _ _ _ _ _ (by simp) rfl rfl | (with_reducible refine Row.up ?_ (fresh_below _ _)) | (with_reducible refine Row.up ?_ (by with_reducible assumption)))))).mono ?_)
    rintro e w2 ⟨rfl, b2⟩
    have d2 := Cells.up d1 (fresh_below _ _) b2
    replace b2 : Below w.heap.size w w2 := bstep (bstep (bstep (fresh_below _ _) (fresh_below _ _)) (fresh_below _ _)) b2
    have d3 := Cells.below (fresh_below w2 (.cells #[.int .u8 l, .int .u8 p] 5)) d2
    have b3 : Below w.heap.size w (w2.alloc (.cells #[.int .u8 l, .int .u8 p] 5)) := bstep b2 (fresh_below _ _)
    obtain ⟨xd2_0, xd2_1, xd2_2, xd2_3, xd2_4, xd2_5, xd2_6, xd2_7⟩ := d2.x8
    obtain ⟨yd2_0, yd2_1, yd2_2, yd2_3, yd2_4, yd2_5, yd2_6, yd2_7⟩ := d2.y8
    obtain ⟨xd3_0, xd3_1, xd3_2, xd3_3, xd3_4, xd3_5, xd3_6, xd3_7⟩ := d3.x8
    obtain ⟨yd3_0, yd3_1, yd3_2, yd3_3, yd3_4, yd3_5, yd3_6, yd3_7⟩ := d3.y8
    go_wp2_with fail
    clear xd0_0 xd0_1 xd0_2 xd0_3 xd0_4 xd0_5 xd0_6 xd0_7 xd1_0 xd1_1 xd1_2 xd1_3 xd1_4 xd1_5 xd1_6 xd1_7 d0 d1
    generalize (w2.alloc (.cells #[.int .u8 l, .int .u8 p] 5)) = w3 at *
    have SK := hide (fun (zX zY : World) (zh : (Below w.heap.size w zX ∧ zX.cell? ⟨w.heap.size, 5, none⟩ = some (.int .u32 s) ∧ zX.cell? ⟨w.heap.size, 6, none⟩ = some (.int .u32 d) ∧ zX.cell? ⟨w.heap.size, 7, none⟩ = some (.string o) ∧ True)) (zb : Below zX.heap.size zX zY) => (show (Below w.heap.size w zY ∧ zY.cell? ⟨w.heap.size, 5, none⟩ = some (.int .u32 s) ∧ zY.cell? ⟨w.heap.size, 6, none⟩ = some (.int .u32 d) ∧ zY.cell? ⟨w.heap.size, 7, none⟩ = some (.string o) ∧ True) from ⟨bstep zh.1 zb, cellAt zb zh.2.1, cellAt zb zh.2.2.1, cellAt zb zh.2.2.2.1, trivial⟩))
    have FS := hide (fun (zX : World) (zh : (Below w.heap.size w zX ∧ zX.cell? ⟨w.heap.size, 5, none⟩ = some (.int .u32 s) ∧ zX.cell? ⟨w.heap.size, 6, none⟩ = some (.int .u32 d) ∧ zX.cell? ⟨w.heap.size, 7, none⟩ = some (.string o) ∧ True)) => zh.1)
    have GS := hide (fun (zX : World) (zh : (Below w.heap.size w zX ∧ zX.cell? ⟨w.heap.size, 5, none⟩ = some (.int .u32 s) ∧ zX.cell? ⟨w.heap.size, 6, none⟩ = some (.int .u32 d) ∧ zX.cell? ⟨w.heap.size, 7, none⟩ = some (.string o) ∧ True)) => zh)
    have hS0 : (Below w.heap.size w w3 ∧ w3.cell? ⟨w.heap.size, 5, none⟩ = some (.int .u32 s) ∧ w3.cell? ⟨w.heap.size, 6, none⟩ = some (.int .u32 d) ∧ w3.cell? ⟨w.heap.size, 7, none⟩ = some (.string o) ∧ True) := ⟨(by (repeat' (first | with_reducible exact b3 | with_reducible exact Below.refl _ _ | with_reducible refine Below.setCell ?_ (by first | exact Nat.le_refl _ | (dsimp only; omega)) _ | with_reducible refine bstep ?_ (fresh_below _ _) | with_reducible refine Below.drew ?_))), d3.at_ 5, d3.at_ 6, d3.at_ 7, trivial⟩
    go_region_held_law (fun w' => (Below w.heap.size w w' ∧ w'.cell? ⟨w.heap.size, 5, none⟩ = some (.int .u32 s) ∧ w'.cell? ⟨w.heap.size, 6, none⟩ = some (.int .u32 d) ∧ w'.cell? ⟨w.heap.size, 7, none⟩ = some (.string o) ∧ True)) (first | assumption | exact SK.out _ _ hS0 (Below.refl _ _).drew | exact SK.out _ _ hS0 (fresh_below _ _).drew | exact SK.out _ _ (by assumption) (fresh_below _ _) | (refine SK.out _ _ ?_ (by assumption); assumption))
      (first | (go_at_call 118; (with_reducible refine (F2.out _).mono ?_); rintro e wq ⟨rfl, bq⟩) | (go_at_call 186; (with_reducible refine (F3.out _).mono ?_); rintro e wq ⟨rfl, bq⟩) | (go_at_call 186; (with_reducible refine (F4.out _).mono ?_); rintro e wq ⟨rfl, bq⟩))
    all_goals
      have gs := GS.out _ (by assumption)
      obtain ⟨gb, g0, g1, g2, _⟩ := gs
      go_wp2
      go_ret
      exact ⟨congrArg Ending.returned (v_str HE.out), (by first | exact FS.out _ (by assumption) | exact bstep (FS.out _ (by assumption)) (fresh_below _ _) | exact bstep (bstep (FS.out _ (by assumption)) (fresh_below _ _)) (fresh_below _ _))⟩
  · have hc : c = 0 := HC.out
    subst hc
    go_enter Tryz.func130, Tryz.ntmps130
    have d0 := Cells.new w #[.int .u8 t, .int .u16 i, .bool false, .int .u8 l, .int .u8 p, .int .u32 s, .int .u32 d, .string o] 160
    have d1 := Cells.below (fresh_below (w.alloc (.cells #[.int .u8 t, .int .u16 i, .bool false, .int .u8 l, .int .u8 p, .int .u32 s, .int .u32 d, .string o] 160)) (.cells #[.int .u8 v, .int .u8 t] 5)) d0
    obtain ⟨xd0_0, xd0_1, xd0_2, xd0_3, xd0_4, xd0_5, xd0_6, xd0_7⟩ := d0.x8
    obtain ⟨yd0_0, yd0_1, yd0_2, yd0_3, yd0_4, yd0_5, yd0_6, yd0_7⟩ := d0.y8
    obtain ⟨xd1_0, xd1_1, xd1_2, xd1_3, xd1_4, xd1_5, xd1_6, xd1_7⟩ := d1.x8
    obtain ⟨yd1_0, yd1_1, yd1_2, yd1_3, yd1_4, yd1_5, yd1_6, yd1_7⟩ := d1.y8
    go_wp2_with fail
    (with_reducible refine (F1.out _ _ (by (repeat' (first | with_reducible refine Row.drawn ?_ | with_reducible exact Row.freshAt _ _ _ _ _ _ (by simp) rfl rfl | (with_reducible refine Row.up ?_ (fresh_below _ _)) | (with_reducible refine Row.up ?_ (by with_reducible assumption)))))).mono ?_)
    rintro e w2 ⟨rfl, b2⟩
    have d2 := Cells.up d1 (fresh_below _ _) b2
    replace b2 : Below w.heap.size w w2 := bstep (bstep (bstep (fresh_below _ _) (fresh_below _ _)) (fresh_below _ _)) b2
    have d3 := Cells.below (fresh_below w2 (.cells #[.int .u8 l, .int .u8 p] 5)) d2
    have b3 : Below w.heap.size w (w2.alloc (.cells #[.int .u8 l, .int .u8 p] 5)) := bstep b2 (fresh_below _ _)
    obtain ⟨xd2_0, xd2_1, xd2_2, xd2_3, xd2_4, xd2_5, xd2_6, xd2_7⟩ := d2.x8
    obtain ⟨yd2_0, yd2_1, yd2_2, yd2_3, yd2_4, yd2_5, yd2_6, yd2_7⟩ := d2.y8
    obtain ⟨xd3_0, xd3_1, xd3_2, xd3_3, xd3_4, xd3_5, xd3_6, xd3_7⟩ := d3.x8
    obtain ⟨yd3_0, yd3_1, yd3_2, yd3_3, yd3_4, yd3_5, yd3_6, yd3_7⟩ := d3.y8
    go_wp2_with fail
    clear xd0_0 xd0_1 xd0_2 xd0_3 xd0_4 xd0_5 xd0_6 xd0_7 xd1_0 xd1_1 xd1_2 xd1_3 xd1_4 xd1_5 xd1_6 xd1_7 d0 d1
    generalize (w2.alloc (.cells #[.int .u8 l, .int .u8 p] 5)) = w3 at *
    have SK := hide (fun (zX zY : World) (zh : (Below w.heap.size w zX ∧ zX.cell? ⟨w.heap.size, 5, none⟩ = some (.int .u32 s) ∧ zX.cell? ⟨w.heap.size, 6, none⟩ = some (.int .u32 d) ∧ zX.cell? ⟨w.heap.size, 7, none⟩ = some (.string o) ∧ True)) (zb : Below zX.heap.size zX zY) => (show (Below w.heap.size w zY ∧ zY.cell? ⟨w.heap.size, 5, none⟩ = some (.int .u32 s) ∧ zY.cell? ⟨w.heap.size, 6, none⟩ = some (.int .u32 d) ∧ zY.cell? ⟨w.heap.size, 7, none⟩ = some (.string o) ∧ True) from ⟨bstep zh.1 zb, cellAt zb zh.2.1, cellAt zb zh.2.2.1, cellAt zb zh.2.2.2.1, trivial⟩))
    have FS := hide (fun (zX : World) (zh : (Below w.heap.size w zX ∧ zX.cell? ⟨w.heap.size, 5, none⟩ = some (.int .u32 s) ∧ zX.cell? ⟨w.heap.size, 6, none⟩ = some (.int .u32 d) ∧ zX.cell? ⟨w.heap.size, 7, none⟩ = some (.string o) ∧ True)) => zh.1)
    have GS := hide (fun (zX : World) (zh : (Below w.heap.size w zX ∧ zX.cell? ⟨w.heap.size, 5, none⟩ = some (.int .u32 s) ∧ zX.cell? ⟨w.heap.size, 6, none⟩ = some (.int .u32 d) ∧ zX.cell? ⟨w.heap.size, 7, none⟩ = some (.string o) ∧ True)) => zh)
    have hS0 : (Below w.heap.size w w3 ∧ w3.cell? ⟨w.heap.size, 5, none⟩ = some (.int .u32 s) ∧ w3.cell? ⟨w.heap.size, 6, none⟩ = some (.int .u32 d) ∧ w3.cell? ⟨w.heap.size, 7, none⟩ = some (.string o) ∧ True) := ⟨(by (repeat' (first | with_reducible exact b3 | with_reducible exact Below.refl _ _ | with_reducible refine Below.setCell ?_ (by first | exact Nat.le_refl _ | (dsimp only; omega)) _ | with_reducible refine bstep ?_ (fresh_below _ _) | with_reducible refine Below.drew ?_))), d3.at_ 5, d3.at_ 6, d3.at_ 7, trivial⟩
    go_region_held_law (fun w' => (Below w.heap.size w w' ∧ w'.cell? ⟨w.heap.size, 5, none⟩ = some (.int .u32 s) ∧ w'.cell? ⟨w.heap.size, 6, none⟩ = some (.int .u32 d) ∧ w'.cell? ⟨w.heap.size, 7, none⟩ = some (.string o) ∧ True)) (first | assumption | exact SK.out _ _ hS0 (Below.refl _ _).drew | exact SK.out _ _ hS0 (fresh_below _ _).drew | exact SK.out _ _ (by assumption) (fresh_below _ _) | (refine SK.out _ _ ?_ (by assumption); assumption))
      (first | (go_at_call 118; (with_reducible refine (F2.out _).mono ?_); rintro e wq ⟨rfl, bq⟩) | (go_at_call 186; (with_reducible refine (F3.out _).mono ?_); rintro e wq ⟨rfl, bq⟩) | (go_at_call 186; (with_reducible refine (F4.out _).mono ?_); rintro e wq ⟨rfl, bq⟩))
    all_goals
      have gs := GS.out _ (by assumption)
      obtain ⟨gb, g0, g1, g2, _⟩ := gs
      go_wp2
      go_ret
      exact ⟨congrArg Ending.returned (v_str HE.out), (by first | exact FS.out _ (by assumption) | exact bstep (FS.out _ (by assumption)) (fresh_below _ _) | exact bstep (bstep (FS.out _ (by assumption)) (fresh_below _ _)) (fresh_below _ _))⟩
end Go.Proofs.YtilfcikhipadpaaGreatDoor
end

section
/- A header of ip and its bytes: plain facts. No walk. -/
set_option linter.unusedVariables false
namespace Go.Proofs.YtilfcikhipadpaaGreatDoor
open Go.RowKit

def ipErr (h : Hd) (p : ByteArray) : Int := if 40 < h.o.size ∨ h.o.size % 4 ≠ 0 then 2 else if 2028 < h.o.size + p.size then 4 else 0
def Hd.all (h : Hd) (p : ByteArray) : Int := 20 + (h.o.size : Int) + p.size
def Hd.sum (h : Hd) (p : ByteArray) : Int := sumL [h.bytes (h.all p) 0]
def Hd.put (h : Hd) (p : ByteArray) : List UInt8 := h.bytes (h.all p) (h.sum p) ++ L p
def ipText (h : Hd) (p : ByteArray) : ByteArray := if ipErr h p = 0 then S (h.put p) else { data := #[] }
def hdRes (s : ByteArray) : Hd := if ipWhy s = 0 then hdOf s else hdNone
def ipRest (s : ByteArray) : ByteArray := if ipWhy s = 0 then s.extract (ipOwn (L s)).toNat (ipAll (L s)).toNat else { data := #[] }

theorem Hd.cut_bd (h : Hd) : h.cut = 0 ∨ h.cut = 16384 := by unfold Hd.cut; split <;> omega
theorem ipErr_0 {h : Hd} {p : ByteArray} (e : ipErr h p = 0) : h.o.size ≤ 40 ∧ h.o.size % 4 = 0 ∧ h.o.size + p.size ≤ 2028 := by
  unfold ipErr at e
  by_cases h1 : 40 < h.o.size ∨ h.o.size % 4 ≠ 0
  · rw [if_pos h1] at e; omega
  rw [if_neg h1] at e
  by_cases h2 : 2028 < h.o.size + p.size
  · rw [if_pos h2] at e; omega
  omega
theorem Hd.bytes_is (h : Hd) (z m : Int) : h.bytes z m = byt (((64 + (20 + (h.o.size : Int)) / 4) * 256 + h.t) / 256) :: byt ((64 + (20 + (h.o.size : Int)) / 4) * 256 + h.t) :: byt (z / 256) :: byt z :: byt (h.i / 256) :: byt h.i :: byt (h.cut / 256) :: byt h.cut :: byt ((h.l * 256 + h.p) / 256) :: byt (h.l * 256 + h.p) :: byt (m / 256) :: byt m
    :: byt (h.s / 65536 / 256) :: byt (h.s / 65536) :: byt (h.s % 65536 / 256) :: byt (h.s % 65536) :: byt (h.d / 65536 / 256) :: byt (h.d / 65536) :: byt (h.d % 65536 / 256) :: byt (h.d % 65536) :: L h.o := by
  unfold Hd.bytes Hd.words
  simp only [putW, List.flatMap_cons, List.flatMap_nil, List.append_assoc, List.append_nil]
  rfl
theorem Hd.bytes_length (h : Hd) (z m : Int) : (h.bytes z m).length = 20 + h.o.size := by rw [h.bytes_is]; simp only [List.length_cons, L_length]; omega
theorem Hd.bytes_lay (h : Hd) (z m n : Int) : lay (h.bytes z m) 10 n = h.bytes z n := by
  rw [h.bytes_is, h.bytes_is]; rfl
theorem ip_holds (h : Hd) (z : Int) : holds [h.bytes z (sumL [h.bytes z 0])] = true := by
  have hh := lay_holds [] (l := h.bytes z 0) (k := 10) (n := sumL [h.bytes z 0]) (by rw [h.bytes_length]; omega) (by omega) (Or.inl (by rw [h.bytes_lay]; rfl))
  rw [h.bytes_lay] at hh
  exact hh

/-- what is put is parsed as it was, whatever stands behind it -/
theorem ip_back (h : Hd) (p b : ByteArray) (hk : h.Ok) (he : ipErr h p = 0) :
    (S (h.put p)).size = 20 + h.o.size + p.size ∧ holds [(L (S (h.put p))).take (20 + h.o.size)] = true ∧
    ipWhy (S (h.put p) ++ b) = 0 ∧ hdOf (S (h.put p) ++ b) = h ∧ (S (h.put p) ++ b).extract (ipOwn (L (S (h.put p) ++ b))).toNat (ipAll (L (S (h.put p) ++ b))).toNat = p := by
  obtain ⟨h1, h2, h3⟩ := ipErr_0 he
  obtain ⟨⟨t0, t1⟩, hi, ⟨l0, l1⟩, ⟨p0, p1⟩, hs, hd, ho⟩ := hk
  have hz : (h.put p).length = 20 + h.o.size + p.size := by
    unfold Hd.put; rw [List.length_append, h.bytes_length, L_length]
  have hsz : (S (h.put p)).size = 20 + h.o.size + p.size := by rw [S_size, hz]
  have hm := sumL_bd [h.bytes (h.all p) 0]
  have hcut := h.cut_bd
  have hall : h.all p = 20 + (h.o.size : Int) + p.size := rfl
  have htake : ((h.put p) ++ L b).take (20 + h.o.size) = h.bytes (h.all p) (h.sum p) := by
    unfold Hd.put
    rw [List.append_assoc, List.take_append_of_le_length (by rw [h.bytes_length]; omega), List.take_of_length_le (by rw [h.bytes_length]; omega)]
  have htake0 : (h.put p).take (20 + h.o.size) = h.bytes (h.all p) (h.sum p) := by
    unfold Hd.put
    rw [List.take_append_of_le_length (by rw [h.bytes_length]; omega), List.take_of_length_le (by rw [h.bytes_length]; omega)]
  have hL : L (S (h.put p) ++ b) = (h.put p) ++ L b := by rw [L_append, L_S]
  have hbsz : (S (h.put p) ++ b).size = 20 + h.o.size + p.size + b.size := by rw [ByteArray.size_append, hsz]
  have hl : (h.put p) ++ L b = byt (((64 + (20 + (h.o.size : Int)) / 4) * 256 + h.t) / 256) :: byt ((64 + (20 + (h.o.size : Int)) / 4) * 256 + h.t) :: byt (h.all p / 256) :: byt (h.all p) :: byt (h.i / 256) :: byt h.i :: byt (h.cut / 256) :: byt h.cut :: byt ((h.l * 256 + h.p) / 256) :: byt (h.l * 256 + h.p) :: byt (h.sum p / 256) :: byt (h.sum p)
    :: byt (h.s / 65536 / 256) :: byt (h.s / 65536) :: byt (h.s % 65536 / 256) :: byt (h.s % 65536) :: byt (h.d / 65536 / 256) :: byt (h.d / 65536) :: byt (h.d % 65536 / 256) :: byt (h.d % 65536) :: (L h.o ++ (L p ++ L b)) := by
    unfold Hd.put
    rw [h.bytes_is]; simp only [List.cons_append, List.append_assoc]
  have hlen : ((h.put p) ++ L b).length = 20 + h.o.size + p.size + b.size := by rw [List.length_append, hz, L_length]
  have h0 : at_ ((h.put p) ++ L b) 0 = 64 + (20 + (h.o.size : Int)) / 4 := by
    rw [hl]; show ((byt _).toNat : Int) = _; rw [byt_int _ (by omega)]; omega
  have e1 : at_ ((h.put p) ++ L b) 1 = h.t := by
    rw [hl]; show ((byt _).toNat : Int) = _; rw [byt_int _ (by omega)]; omega
  have e8 : at_ ((h.put p) ++ L b) 8 = h.l := by
    rw [hl]; show ((byt _).toNat : Int) = _; rw [byt_int _ (by omega)]; omega
  have e9 : at_ ((h.put p) ++ L b) 9 = h.p := by
    rw [hl]; show ((byt _).toNat : Int) = _; rw [byt_int _ (by omega)]; omega
  have hown : ipOwn ((h.put p) ++ L b) = 20 + h.o.size := by unfold ipOwn; rw [h0]; omega
  have g16 : ∀ k : Nat, k + 2 ≤ 20 → get16 ((h.put p) ++ L b) (k : Int) = be16 ((h.put p) ++ L b) k := fun k hk => get16_nat (by omega)
  have g32 : ∀ k : Nat, k + 4 ≤ 20 → get32 ((h.put p) ++ L b) (k : Int) = be32 ((h.put p) ++ L b) k := fun k hk => get32_nat (by omega)
  have e2 : get16 ((h.put p) ++ L b) ((2 : Nat) : Int) = h.all p := by rw [g16 2 (by omega), hl]; exact bb _ (by omega) (by omega)
  have e4 : get16 ((h.put p) ++ L b) ((4 : Nat) : Int) = h.i := by rw [g16 4 (by omega), hl]; exact bb _ hi.1 hi.2
  have e6 : get16 ((h.put p) ++ L b) ((6 : Nat) : Int) = h.cut := by rw [g16 6 (by omega), hl]; exact bb _ (by omega) (by omega)
  have b32 : ∀ n : Int, 0 ≤ n → n ≤ 4294967295 → (((byt (n / 65536 / 256)).toNat : Int) * 256 + ((byt (n / 65536)).toNat : Int)) * 65536 + (((byt (n % 65536 / 256)).toNat : Int) * 256 + ((byt (n % 65536)).toNat : Int)) = n := by
    intro n n0 n1
    rw [bb _ (by omega) (by omega), bb _ (by omega) (by omega)]; omega
  have e12 : get32 ((h.put p) ++ L b) ((12 : Nat) : Int) = h.s := by rw [g32 12 (by omega), hl]; exact b32 _ hs.1 hs.2
  have e16 : get32 ((h.put p) ++ L b) ((16 : Nat) : Int) = h.d := by rw [g32 16 (by omega), hl]; exact b32 _ hd.1 hd.2
  have hownall : ipAll ((h.put p) ++ L b) = h.all p := e2
  have hd20 : ((h.put p) ++ L b).drop 20 = L h.o ++ (L p ++ L b) := by rw [hl]; rfl
  have hH : holds [h.bytes (h.all p) (h.sum p)] = true := ip_holds h (h.all p)
  refine ⟨hsz, ?_, ?_, ?_, ?_⟩
  · rw [L_S, htake0]; exact hH
  · unfold ipWhy ipFits
    rw [hL, hbsz, hown, hownall, h0]
    rw [if_neg (by omega), if_neg (by omega), if_neg (by simp; omega)]
    rw [show ((20 : Int) + (h.o.size : Int)).toNat = 20 + h.o.size from by omega, htake, hH]
    rw [if_neg (by simp), if_neg]
    rw [show (6 : Int) = ((6 : Nat) : Int) from rfl, e6]
    omega
  · unfold hdOf
    rw [hL]
    have eo : (S (h.put p) ++ b).extract 20 (ipOwn ((h.put p) ++ L b)).toNat = h.o := by
      apply L_inj
      rw [L_extract, hL, hown, hd20, show ((20 : Int) + (h.o.size : Int)).toNat - 20 = (L h.o).length from by rw [L_length]; omega]
      exact List.take_left
    have ef : decide (get16 ((h.put p) ++ L b) ((6 : Nat) : Int) = 16384) = h.f := by
      rw [e6]; unfold Hd.cut
      cases h.f <;> rfl
    cases h with
    | mk t i f l p s d o =>
      simp only [Hd.mk.injEq]
      exact ⟨e1, e4, ef, e8, e9, e12, e16, eo⟩
  · apply L_inj
    rw [L_extract, hL, hown, hownall]
    rw [show ((20 : Int) + (h.o.size : Int)).toNat = 20 + h.o.size from by omega, ← List.drop_drop, hd20, List.drop_append_of_le_length (by rw [L_length]; omega), List.drop_of_length_le (by rw [L_length]; omega), List.nil_append]
    rw [show (h.all p).toNat - (20 + h.o.size) = (L p).length from by rw [L_length]; omega]
    exact List.take_left

theorem ipWhy_0 {s : ByteArray} (e : ipWhy s = 0) : 20 ≤ s.size ∧ at_ (L s) 0 / 16 = 4 ∧ ipFits s = true ∧ holds [(L s).take (ipOwn (L s)).toNat] = true ∧ (get16 (L s) 6 = 0 ∨ get16 (L s) 6 = 16384) := by
  unfold ipWhy at e
  by_cases h1 : s.size < 20
  · rw [if_pos h1] at e; omega
  rw [if_neg h1] at e
  by_cases h2 : at_ (L s) 0 / 16 ≠ 4
  · rw [if_pos h2] at e; omega
  rw [if_neg h2] at e
  by_cases h3 : ipFits s = false
  · rw [if_pos h3] at e; omega
  rw [if_neg h3] at e
  by_cases h4 : holds [(L s).take (ipOwn (L s)).toNat] = false
  · rw [if_pos h4] at e; omega
  rw [if_neg h4] at e
  by_cases h5 : get16 (L s) 6 ≠ 0 ∧ get16 (L s) 6 ≠ 16384
  · rw [if_pos h5] at e; omega
  exact ⟨by omega, by omega, by simpa using h3, by simpa using h4, by omega⟩

/-- a header that was parsed is the header of what was parsed -/
theorem ip_head (s : ByteArray) (hw : ipWhy s = 0) :
    20 ≤ ipOwn (L s) ∧ ipOwn (L s) ≤ 60 ∧ ipOwn (L s) ≤ ipAll (L s) ∧ ipAll (L s) ≤ s.size ∧ ipAll (L s) ≤ 2048 ∧ (hdOf s).o.size = (ipOwn (L s)).toNat - 20 ∧ ipOwn (L s) % 4 = 0 ∧
    (L s).take (ipOwn (L s)).toNat = (hdOf s).bytes (ipAll (L s)) (be16 (L s) 10) ∧ holds [(hdOf s).bytes (ipAll (L s)) (be16 (L s) 10)] = true := by
  obtain ⟨h20, h2, h3, h4, h5⟩ := ipWhy_0 hw
  have f0 : 20 ≤ ipOwn (L s) ∧ ipOwn (L s) ≤ ipAll (L s) ∧ ipAll (L s) ≤ s.size ∧ ipAll (L s) ≤ 2048 := by unfold ipFits at h3; simpa [and_assoc] using h3
  have hx : ipOwn (L s) = at_ (L s) 0 % 16 * 4 := rfl
  have hb := at_bd (L s) 0
  have hb1 := at_bd (L s) 1
  have ho : (hdOf s).o.size = (ipOwn (L s)).toNat - 20 := by
    show (s.extract 20 _).size = _
    rw [ByteArray.size_extract]; omega
  have key : (L s).take (ipOwn (L s)).toNat = (hdOf s).bytes (ipAll (L s)) (be16 (L s) 10) := by
    have hoff : (64 + (20 + ((hdOf s).o.size : Int)) / 4) * 256 + (hdOf s).t = at_ (L s) 0 * 256 + at_ (L s) 1 := by
      show _ + at_ (L s) 1 = _
      rw [ho]; omega
    have hcut : (hdOf s).cut = get16 (L s) 6 := by
      unfold Hd.cut
      show (if decide (get16 (L s) 6 = 16384) = true then (16384 : Int) else 0) = _
      rcases h5 with h5 | h5 <;> rw [h5] <;> rfl
    have hyy : (hdOf s).l * 256 + (hdOf s).p = at_ (L s) 8 * 256 + at_ (L s) 9 := rfl
    have e2 : ipAll (L s) = be16 (L s) 2 := by show get16 (L s) ((2 : Nat) : Int) = _; exact get16_nat (by rw [L_length]; omega)
    have e4 : (hdOf s).i = be16 (L s) 4 := by show get16 (L s) ((4 : Nat) : Int) = _; exact get16_nat (by rw [L_length]; omega)
    have e6 : get16 (L s) 6 = be16 (L s) 6 := by show get16 (L s) ((6 : Nat) : Int) = _; exact get16_nat (by rw [L_length]; omega)
    have e12 : (hdOf s).s = be32 (L s) 12 := by show get32 (L s) ((12 : Nat) : Int) = _; exact get32_nat (by rw [L_length]; omega)
    have e16 : (hdOf s).d = be32 (L s) 16 := by show get32 (L s) ((16 : Nat) : Int) = _; exact get32_nat (by rw [L_length]; omega)
    have hopt : L (hdOf s).o = ((L s).drop 20).take ((ipOwn (L s)).toNat - 20) := by
      show L (s.extract 20 _) = _
      rw [L_extract]
    have hsplit : (L s).take (ipOwn (L s)).toNat = (L s).take 20 ++ ((L s).drop 20).take ((ipOwn (L s)).toNat - 20) := by
      have := List.take_append_drop 20 ((L s).take (ipOwn (L s)).toNat)
      rw [List.take_take, List.drop_take, show min 20 (ipOwn (L s)).toNat = 20 from by omega] at this
      exact this.symm
    rw [hsplit, ← hopt]
    unfold Hd.bytes Hd.words
    rw [hoff, hcut, hyy, e2, e4, e6, e12, e16]
    obtain ⟨b0, b1, b2, b3, b4, b5, b6, b7, b8, b9, b10, b11, b12, b13, b14, b15, b16, b17, b18, b19, r, hr⟩ := twenty (l := L s) (by rw [L_length]; exact h20)
    generalize L (hdOf s).o = oo at *
    rw [hr]
    simp only [be16, be32, putW, List.flatMap_cons, List.flatMap_nil, at_cons0, at_cons1, List.append_nil]
    rw [put16_be, put16_be, put16_be, put16_be, put16_be, put16_be, put32_be, put32_be]
    rfl
  refine ⟨f0.1, by omega, f0.2.1, f0.2.2.1, f0.2.2.2, ho, by omega, key, ?_⟩
  rw [← key]; exact h4

end Go.Proofs.YtilfcikhipadpaaGreatDoor
end
