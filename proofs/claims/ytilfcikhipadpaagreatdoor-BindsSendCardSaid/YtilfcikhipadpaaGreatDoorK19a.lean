/- Several texts of this claim, one behind the other. -/
import Derived.Test.YtilfcikhipadpaaGreatDoorK18a

section
/- ip.Parse over this program, of what it does not take. -/
set_option linter.unusedVariables false
namespace Go.Proofs.YtilfcikhipadpaaGreatDoor
open Go.RowKit
attribute [local go_sem] Oper.semAt_some

/-- a packet's header -/
structure Hd where
  t : Int
  i : Int
  f : Bool
  l : Int
  p : Int
  s : Int
  d : Int
  o : ByteArray
def Hd.Ok (h : Hd) : Prop := (0 ≤ h.t ∧ h.t ≤ 255) ∧ (0 ≤ h.i ∧ h.i ≤ 65535) ∧ (0 ≤ h.l ∧ h.l ≤ 255) ∧ (0 ≤ h.p ∧ h.p ≤ 255) ∧ (0 ≤ h.s ∧ h.s ≤ 4294967295) ∧ (0 ≤ h.d ∧ h.d ≤ 4294967295) ∧ h.o.size ≤ 140737488351232
def Hd.cells (h : Hd) : Array Value := #[.int .u8 h.t, .int .u16 h.i, .bool h.f, .int .u8 h.l, .int .u8 h.p, .int .u32 h.s, .int .u32 h.d, .string h.o]
def hdNone : Hd := ⟨0, 0, false, 0, 0, 0, 0, { data := #[] }⟩
/-- why a text is no packet -/
def ipWhy (s : ByteArray) : Int :=
  if s.size < 20 then 1 else if at_ (L s) 0 / 16 ≠ 4 then 2 else if ipFits s = false then 3 else if holds [(L s).take (ipOwn (L s)).toNat] = false then 4
  else if get16 (L s) 6 ≠ 0 ∧ get16 (L s) 6 ≠ 16384 then 5 else 0

end Go.Proofs.YtilfcikhipadpaaGreatDoor
end

section
/- ip.Parse over this program, of what stands in order but may not hold. -/
set_option linter.unusedVariables false
set_option linter.unusedSimpArgs false
namespace Go.Proofs.YtilfcikhipadpaaGreatDoor
open Go.RowKit
attribute [local go_sem] Oper.semAt_some

/-- what a packet's header tells -/
def hdOf (s : ByteArray) : Hd := ⟨at_ (L s) 1, get16 (L s) 4, decide (get16 (L s) 6 = 16384), at_ (L s) 8, at_ (L s) 9, get32 (L s) 12, get32 (L s) 16, s.extract 20 (ipOwn (L s)).toNat⟩

end Go.Proofs.YtilfcikhipadpaaGreatDoor
end

section
/- The bytes of a header of ip over this program. -/
set_option linter.unusedVariables false
set_option linter.unusedSimpArgs false
namespace Go.Proofs.YtilfcikhipadpaaGreatDoor
open Go.RowKit
attribute [local go_sem] Oper.semAt_some

def Hd.cut (h : Hd) : Int := if h.f = true then 16384 else 0
def Hd.words (h : Hd) (size sum : Int) : List Int := [(64 + (20 + (h.o.size : Int)) / 4) * 256 + h.t, size, h.i, h.cut, h.l * 256 + h.p, sum]
/-- a header's bytes -/
def Hd.bytes (h : Hd) (size sum : Int) : List UInt8 := putW (h.words size sum) ++ put32 h.s ++ put32 h.d ++ L h.o

end Go.Proofs.YtilfcikhipadpaaGreatDoor
end

section
/- The document's answer for ip (porterref04) over this program: a header's bytes. -/
set_option linter.unusedVariables false
set_option linter.unusedSimpArgs false
namespace Go.Proofs.YtilfcikhipadpaaGreatDoor
open Go.RowKit
attribute [local go_sem] Oper.semAt_some

set_option maxRecDepth 100000 in
set_option maxHeartbeats 2000000 in
theorem r4_Bytes (t i l p s d size sum : Int) (f : Bool) (o : ByteArray) (w : World) (hk : (Hd.mk t i f l p s d o).Ok) (h1 : o.size ≤ 40) (h2 : o.size % 4 = 0) (hz : 0 ≤ size ∧ size ≤ 65535) (hm : 0 ≤ sum ∧ sum ≤ 65535) :
    Calls Tryz.prog 130 #[.agg #[.int .u8 t, .int .u16 i, .bool f, .int .u8 l, .int .u8 p, .int .u32 s, .int .u32 d, .string o], .int .i64 size, .int .u16 sum] w (Ret (.string (S ((Hd.mk t i f l p s d o).bytes size sum))) w) := by
  obtain ⟨⟨t0, t1⟩, ⟨i0, i1⟩, ⟨l0, l1⟩, ⟨p0, p1⟩, hs, hd, ho⟩ := hk
  simp only at t0 t1 i0 i1 l0 l1 p0 p1 hs hd ho
  obtain ⟨c, hc⟩ : ∃ c, c = (Hd.mk t i f l p s d o).cut := ⟨_, rfl⟩
  have hcb : 0 ≤ c ∧ c ≤ 65535 := by rw [hc]; unfold Hd.cut; split <;> omega
  obtain ⟨v, hv⟩ : ∃ v, v = 69 + (o.size : Int) / 4 := ⟨_, rfl⟩
  have hend : S [byt v, byt t] ++ S (putW [size, i, c]) ++ S [byt l, byt p] ++ S (put16 sum) ++ S (put32 s) ++ S (put32 d) ++ o = S ((Hd.mk t i f l p s d o).bytes size sum) := by
    apply L_inj
    unfold Hd.bytes Hd.words
    rw [← hc]
    have e1 : put16 ((64 + (20 + (o.size : Int)) / 4) * 256 + t) = [byt v, byt t] := by
      unfold put16
      rw [show ((64 + (20 + (o.size : Int)) / 4) * 256 + t) / 256 = v from by rw [hv]; omega, byt_eq ((64 + (20 + (o.size : Int)) / 4) * 256 + t) t (by omega) t0 (by omega)]
    have e2 : put16 (l * 256 + p) = [byt l, byt p] := by
      unfold put16
      rw [show (l * 256 + p) / 256 = l from by omega, byt_eq (l * 256 + p) p (by omega) p0 (by omega)]
    simp only [L_append, L_S, putW, List.flatMap_cons, List.flatMap_nil, List.append_assoc, List.append_nil, e1, e2]
  have hl : ∀ x ∈ [size, i, c], 0 ≤ x ∧ x ≤ 65535 := by
    intro x hx
    simp only [List.mem_cons, List.not_mem_nil, or_false] at hx
    rcases hx with rfl | rfl | rfl <;> omega
  have f1 := fun (A : Option Addr) (W : World) (hr : Row W W.heap.size A 3 (ints16 [size, i, c])) => r_Word A 3 3 [size, i, c] W hr hl (by omega)
  have f2 := fun W => r_Put16 sum W hm.1 hm.2
  have f3 := fun W => r_Put32 s W hs.1 hs.2
  have f4 := fun W => r_Put32 d W hd.1 hd.2
  obtain ⟨s1, hs1⟩ : ∃ x, x = S [byt v, byt t] := ⟨_, rfl⟩
  obtain ⟨s2, hs2⟩ : ∃ x, x = S (putW [size, i, c]) := ⟨_, rfl⟩
  obtain ⟨s3, hs3⟩ : ∃ x, x = S [byt l, byt p] := ⟨_, rfl⟩
  obtain ⟨s4, hs4⟩ : ∃ x, x = S (put16 sum) := ⟨_, rfl⟩
  obtain ⟨s5, hs5⟩ : ∃ x, x = S (put32 s) := ⟨_, rfl⟩
  obtain ⟨s6, hs6⟩ : ∃ x, x = S (put32 d) := ⟨_, rfl⟩
  have a1 : s1.size = 2 := by rw [hs1]; rfl
  have a2 : s2.size = 6 := by rw [hs2]; rfl
  have a3 : s3.size = 2 := by rw [hs3]; rfl
  have a4 : s4.size = 2 := by rw [hs4]; rfl
  have a5 : s5.size = 4 := by rw [hs5]; rfl
  have a6 : s6.size = 4 := by rw [hs6]; rfl
  rw [← hs1, ← hs2, ← hs3, ← hs4, ← hs5, ← hs6] at hend
  rw [← hs2] at f1; rw [← hs4] at f2; rw [← hs5] at f3; rw [← hs6] at f4
  have cv : ∀ (W : World) (b : Nat), W.cell? ⟨b, 0, none⟩ = some (.int .u8 v) → W.cell? ⟨b, 1, none⟩ = some (.int .u8 t) → (convert 237 9 (.slice (some ⟨b, 0, none⟩) 2 2)).run Tryz.prog W = .ok (.string s1) W := fun W b h0 h1 => by
    rw [hs1]
    exact run_convert_bytes_arg (P := Tryz.prog) W 237 5 Tryz.underlying237 Tryz.underlying5 b 0 2 2 [v, t] rfl
      (fun i hi => by
        match i, hi with
        | 0, _ => exact h0
        | 1, _ => exact h1) 9 Tryz.underlying9
  have cw : ∀ (W : World) (b : Nat), W.cell? ⟨b, 0, none⟩ = some (.int .u8 l) → W.cell? ⟨b, 1, none⟩ = some (.int .u8 p) → (convert 237 9 (.slice (some ⟨b, 0, none⟩) 2 2)).run Tryz.prog W = .ok (.string s3) W := fun W b h0 h1 => by
    rw [hs3]
    exact run_convert_bytes_arg (P := Tryz.prog) W 237 5 Tryz.underlying237 Tryz.underlying5 b 0 2 2 [l, p] rfl
      (fun i hi => by
        match i, hi with
        | 0, _ => exact h0
        | 1, _ => exact h1) 9 Tryz.underlying9
  have b5 : (s1 ++ s2).size = 8 := by rw [ByteArray.size_append, a1, a2]
  have b6 : (s1 ++ s2 ++ s3).size = 10 := by rw [ByteArray.size_append, b5, a3]
  have b7 : (s1 ++ s2 ++ s3 ++ s4).size = 12 := by rw [ByteArray.size_append, b6, a4]
  have b8 : (s1 ++ s2 ++ s3 ++ s4 ++ s5).size = 16 := by rw [ByteArray.size_append, b7, a5]
  have b9 : (s1 ++ s2 ++ s3 ++ s4 ++ s5 ++ s6).size = 20 := by rw [ByteArray.size_append, b8, a6]
  have b10 : (s1 ++ s2 ++ s3 ++ s4 ++ s5 ++ s6 ++ o).size = 20 + o.size := by rw [ByteArray.size_append, b9]
  have wz : IntKind.u16.wrap size = size := by rw [IntKind.wrap_u16]; omega
  have wv : IntKind.u8.wrap v = v := by rw [IntKind.wrap_u8]; omega
  have hv2 : 69 + (o.size : Int) / 4 = v := hv.symm
  have F1 := hide f1; have F2 := hide f2; have F3 := hide f3; have F4 := hide f4; have HE := hide hend; have HC := hide hc
  clear f1 f2 f3 f4 hend hs1 hs2 hs3 hs4 hs5 hs6 hl hs hd hv hc hcb
  have hf : f = true ∨ f = false := by cases f <;> simp
  rcases hf with rfl | rfl
  · have hc : c = 16384 := HC.out
    subst hc
    go_enter Tryz.func130, Tryz.ntmps130
    have d0 := Cells.new w #[.int .u8 t, .int .u16 i, .bool true, .int .u8 l, .int .u8 p, .int .u32 s, .int .u32 d, .string o] 160
    have d1 := Cells.below (fresh_below (w.alloc (.cells #[.int .u8 t, .int .u16 i, .bool true, .int .u8 l, .int .u8 p, .int .u32 s, .int .u32 d, .string o] 160)) (.cells #[.int .u8 v, .int .u8 t] 5)) d0
    obtain ⟨xd0_0, xd0_1, xd0_2, xd0_3, xd0_4, xd0_5, xd0_6, xd0_7⟩ := d0.x8
    obtain ⟨yd0_0, yd0_1, yd0_2, yd0_3, yd0_4, yd0_5, yd0_6, yd0_7⟩ := d0.y8
    obtain ⟨xd1_0, xd1_1, xd1_2, xd1_3, xd1_4, xd1_5, xd1_6, xd1_7⟩ := d1.x8
    obtain ⟨yd1_0, yd1_1, yd1_2, yd1_3, yd1_4, yd1_5, yd1_6, yd1_7⟩ := d1.y8
    go_wp2_with fail
    (with_reducible refine (F1.out _ _ (by (repeat' (first | with_reducible refine Row.drawn ?_ | with_reducible exact Row.freshAt _ _ _ _ _ _ (by simp) rfl rfl | (with_reducible refine Row.up ?_ (fresh_below _ _)) | (with_reducible refine Row.up ?_ (by with_reducible assumption)))))).mono ?_)
    rintro e w2 ⟨rfl, b2⟩
    have d2 := Cells.up d1 (fresh_below _ _) b2
    replace b2 : Below w.heap.size w w2 := bstep (bstep (bstep (fresh_below _ _) (fresh_below _ _)) (fresh_below _ _)) b2
    have d3 := Cells.below (fresh_below w2 (.cells #[.int .u8 l, .int .u8 p] 5)) d2
    have b3 : Below w.heap.size w (w2.alloc (.cells #[.int .u8 l, .int .u8 p] 5)) := bstep b2 (fresh_below _ _)
    obtain ⟨xd2_0, xd2_1, xd2_2, xd2_3, xd2_4, xd2_5, xd2_6, xd2_7⟩ := d2.x8
    obtain ⟨yd2_0, yd2_1, yd2_2, yd2_3, yd2_4, yd2_5, yd2_6, yd2_7⟩ := d2.y8
    obtain ⟨xd3_0, xd3_1, xd3_2, xd3_3, xd3_4, xd3_5, xd3_6, xd3_7⟩ := d3.x8
    obtain ⟨yd3_0, yd3_1, yd3_2, yd3_3, yd3_4, yd3_5, yd3_6, yd3_7⟩ := d3.y8
    go_wp2_with fail
    clear xd0_0 xd0_1 xd0_2 xd0_3 xd0_4 xd0_5 xd0_6 xd0_7 xd1_0 xd1_1 xd1_2 xd1_3 xd1_4 xd1_5 xd1_6 xd1_7 d0 d1
    generalize (w2.alloc (.cells #[.int .u8 l, .int .u8 p] 5)) = w3 at *
    have SK := hide (fun (zX zY : World) (zh : (Below w.heap.size w zX ∧ zX.cell? ⟨w.heap.size, 5, none⟩ = some (.int .u32 s) ∧ zX.cell? ⟨w.heap.size, 6, none⟩ = some (.int .u32 d) ∧ zX.cell? ⟨w.heap.size, 7, none⟩ = some (.string o) ∧ True)) (zb : Below zX.heap.size zX zY) => (show (Below w.heap.size w zY ∧ zY.cell? ⟨w.heap.size, 5, none⟩ = some (.int .u32 s) ∧ zY.cell? ⟨w.heap.size, 6, none⟩ = some (.int .u32 d) ∧ zY.cell? ⟨w.heap.size, 7, none⟩ = some (.string o) ∧ True) from ⟨bstep zh.1 zb, cellAt zb zh.2.1, cellAt zb zh.2.2.1, cellAt zb zh.2.2.2.1, trivial⟩))
    have FS := hide (fun (zX : World) (zh : (Below w.heap.size w zX ∧ zX.cell? ⟨w.heap.size, 5, none⟩ = some (.int .u32 s) ∧ zX.cell? ⟨w.heap.size, 6, none⟩ = some (.int .u32 d) ∧ zX.cell? ⟨w.heap.size, 7, none⟩ = some (.string o) ∧ True)) => zh.1)
    have GS := hide (fun (zX : World) (zh : (Below w.heap.size w zX ∧ zX.cell? ⟨w.heap.size, 5, none⟩ = some (.int .u32 s) ∧ zX.cell? ⟨w.heap.size, 6, none⟩ = some (.int .u32 d) ∧ zX.cell? ⟨w.heap.size, 7, none⟩ = some (.string o) ∧ True)) => zh)
    have hS0 : (Below w.heap.size w w3 ∧ w3.cell? ⟨w.heap.size, 5, none⟩ = some (.int .u32 s) ∧ w3.cell? ⟨w.heap.size, 6, none⟩ = some (.int .u32 d) ∧ w3.cell? ⟨w.heap.size, 7, none⟩ = some (.string o) ∧ True) := ⟨(by (repeat' (first | with_reducible exact b3 | with_reducible exact Below.refl _ _ | with_reducible refine Below.setCell ?_ (by first | exact Nat.le_refl _ | (dsimp only; omega)) _ | with_reducible refine bstep ?_ (fresh_below _ _) | with_reducible refine Below.drew ?_))), d3.at_ 5, d3.at_ 6, d3.at_ 7, trivial⟩
    go_region_held_law (fun w' => (Below w.heap.size w w' ∧ w'.cell? ⟨w.heap.size, 5, none⟩ = some (.int .u32 s) ∧ w'.cell? ⟨w.heap.size, 6, none⟩ = some (.int .u32 d) ∧ w'.cell? ⟨w.heap.size, 7, none⟩ = some (.string o) ∧ True)) (first | assumption | exact SK.out _ _ hS0 (Below.refl _ _).drew | exact SK.out _ _ hS0 (fresh_below _ _).drew | exact SK.out _ _ (by assumption) (fresh_below _ _) | (refine SK.out _ _ ?_ (by assumption); assumption))
      (first | (go_at_call 118; (with_reducible refine (F2.out _).mono ?_); rintro e wq ⟨rfl, bq⟩) | (go_at_call 186; (with_reducible refine (F3.out _).mono ?_); rintro e wq ⟨rfl, bq⟩) | (go_at_call 186; (with_reducible refine (F4.out _).mono ?_); rintro e wq ⟨rfl, bq⟩))
    all_goals
      have gs := GS.out _ (by assumption)
      obtain ⟨gb, g0, g1, g2, _⟩ := gs
      go_wp2
      go_ret
      exact ⟨congrArg Ending.returned (v_str HE.out), (by first | exact FS.out _ (by assumption) | exact bstep (FS.out _ (by assumption)) (fresh_below _ _) | exact bstep (bstep (FS.out _ (by assumption)) (fresh_below _ _)) (fresh_below _ _))⟩
  · have hc : c = 0 := HC.out
    subst hc
    go_enter Tryz.func130, Tryz.ntmps130
    have d0 := Cells.new w #[.int .u8 t, .int .u16 i, .bool false, .int .u8 l, .int .u8 p, .int .u32 s, .int .u32 d, .string o] 160
    have d1 := Cells.below (fresh_below (w.alloc (.cells #[.int .u8 t, .int .u16 i, .bool false, .int .u8 l, .int .u8 p, .int .u32 s, .int .u32 d, .string o] 160)) (.cells #[.int .u8 v, .int .u8 t] 5)) d0
    obtain ⟨xd0_0, xd0_1, xd0_2, xd0_3, xd0_4, xd0_5, xd0_6, xd0_7⟩ := d0.x8
    obtain ⟨yd0_0, yd0_1, yd0_2, yd0_3, yd0_4, yd0_5, yd0_6, yd0_7⟩ := d0.y8
    obtain ⟨xd1_0, xd1_1, xd1_2, xd1_3, xd1_4, xd1_5, xd1_6, xd1_7⟩ := d1.x8
    obtain ⟨yd1_0, yd1_1, yd1_2, yd1_3, yd1_4, yd1_5, yd1_6, yd1_7⟩ := d1.y8
    go_wp2_with fail
    (with_reducible refine (F1.out _ _ (by (repeat' (first | with_reducible refine Row.drawn ?_ | with_reducible exact Row.freshAt _ _ _ _ _ _ (by simp) rfl rfl | (with_reducible refine Row.up ?_ (fresh_below _ _)) | (with_reducible refine Row.up ?_ (by with_reducible assumption)))))).mono ?_)
    rintro e w2 ⟨rfl, b2⟩
    have d2 := Cells.up d1 (fresh_below _ _) b2
    replace b2 : Below w.heap.size w w2 := bstep (bstep (bstep (fresh_below _ _) (fresh_below _ _)) (fresh_below _ _)) b2
    have d3 := Cells.below (fresh_below w2 (.cells #[.int .u8 l, .int .u8 p] 5)) d2
    have b3 : Below w.heap.size w (w2.alloc (.cells #[.int .u8 l, .int .u8 p] 5)) := bstep b2 (fresh_below _ _)
    obtain ⟨xd2_0, xd2_1, xd2_2, xd2_3, xd2_4, xd2_5, xd2_6, xd2_7⟩ := d2.x8
    obtain ⟨yd2_0, yd2_1, yd2_2, yd2_3, yd2_4, yd2_5, yd2_6, yd2_7⟩ := d2.y8
    obtain ⟨xd3_0, xd3_1, xd3_2, xd3_3, xd3_4, xd3_5, xd3_6, xd3_7⟩ := d3.x8
    obtain ⟨yd3_0, yd3_1, yd3_2, yd3_3, yd3_4, yd3_5, yd3_6, yd3_7⟩ := d3.y8
    go_wp2_with fail
    clear xd0_0 xd0_1 xd0_2 xd0_3 xd0_4 xd0_5 xd0_6 xd0_7 xd1_0 xd1_1 xd1_2 xd1_3 xd1_4 xd1_5 xd1_6 xd1_7 d0 d1
    generalize (w2.alloc (.cells #[.int .u8 l, .int .u8 p] 5)) = w3 at *
    have SK := hide (fun (zX zY : World) (zh : (Below w.heap.size w zX ∧ zX.cell? ⟨w.heap.size, 5, none⟩ = some (.int .u32 s) ∧ zX.cell? ⟨w.heap.size, 6, none⟩ = some (.int .u32 d) ∧ zX.cell? ⟨w.heap.size, 7, none⟩ = some (.string o) ∧ True)) (zb : Below zX.heap.size zX zY) => (show (Below w.heap.size w zY ∧ zY.cell? ⟨w.heap.size, 5, none⟩ = some (.int .u32 s) ∧ zY.cell? ⟨w.heap.size, 6, none⟩ = some (.int .u32 d) ∧ zY.cell? ⟨w.heap.size, 7, none⟩ = some (.string o) ∧ True) from ⟨bstep zh.1 zb, cellAt zb zh.2.1, cellAt zb zh.2.2.1, cellAt zb zh.2.2.2.1, trivial⟩))
    have FS := hide (fun (zX : World) (zh : (Below w.heap.size w zX ∧ zX.cell? ⟨w.heap.size, 5, none⟩ = some (.int .u32 s) ∧ zX.cell? ⟨w.heap.size, 6, none⟩ = some (.int .u32 d) ∧ zX.cell? ⟨w.heap.size, 7, none⟩ = some (.string o) ∧ True)) => zh.1)
    have GS := hide (fun (zX : World) (zh : (Below w.heap.size w zX ∧ zX.cell? ⟨w.heap.size, 5, none⟩ = some (.int .u32 s) ∧ zX.cell? ⟨w.heap.size, 6, none⟩ = some (.int .u32 d) ∧ zX.cell? ⟨w.heap.size, 7, none⟩ = some (.string o) ∧ True)) => zh)
    have hS0 : (Below w.heap.size w w3 ∧ w3.cell? ⟨w.heap.size, 5, none⟩ = some (.int .u32 s) ∧ w3.cell? ⟨w.heap.size, 6, none⟩ = some (.int .u32 d) ∧ w3.cell? ⟨w.heap.size, 7, none⟩ = some (.string o) ∧ True) := ⟨(by (repeat' (first | with_reducible exact b3 | with_reducible exact Below.refl _ _ | with_reducible refine Below.setCell ?_ (by first | exact Nat.le_refl _ | (dsimp only; omega)) _ | with_reducible refine bstep ?_ (fresh_below _ _) | with_reducible refine Below.drew ?_))), d3.at_ 5, d3.at_ 6, d3.at_ 7, trivial⟩
    go_region_held_law (fun w' => (Below w.heap.size w w' ∧ w'.cell? ⟨w.heap.size, 5, none⟩ = some (.int .u32 s) ∧ w'.cell? ⟨w.heap.size, 6, none⟩ = some (.int .u32 d) ∧ w'.cell? ⟨w.heap.size, 7, none⟩ = some (.string o) ∧ True)) (first | assumption | exact SK.out _ _ hS0 (Below.refl _ _).drew | exact SK.out _ _ hS0 (fresh_below _ _).drew | exact SK.out _ _ (by assumption) (fresh_below _ _) | (refine SK.out _ _ ?_ (by assumption); assumption))
      (first | (go_at_call 118; (with_reducible refine (F2.out _).mono ?_); rintro e wq ⟨rfl, bq⟩) | (go_at_call 186; (with_reducible refine (F3.out _).mono ?_); rintro e wq ⟨rfl, bq⟩) | (go_at_call 186; (with_reducible refine (F4.out _).mono ?_); rintro e wq ⟨rfl, bq⟩))
    all_goals
      have gs := GS.out _ (by assumption)
      obtain ⟨gb, g0, g1, g2, _⟩ := gs
      go_wp2
      go_ret
      exact ⟨congrArg Ending.returned (v_str HE.out), (by first | exact FS.out _ (by assumption) | exact bstep (FS.out _ (by assumption)) (fresh_below _ _) | exact bstep (bstep (FS.out _ (by assumption)) (fresh_below _ _)) (fresh_below _ _))⟩
end Go.Proofs.YtilfcikhipadpaaGreatDoor
end
