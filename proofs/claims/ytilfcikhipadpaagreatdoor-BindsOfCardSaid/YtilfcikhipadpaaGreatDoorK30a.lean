/- Several texts of this claim, one behind the other. -/
import Derived.Test.YtilfcikhipadpaaGreatDoorK29a

section
/- The document's answer for ip (porterref04) over this program: what a text is as a packet. -/
set_option linter.unusedVariables false
set_option linter.unusedSimpArgs false
namespace Go.Proofs.YtilfcikhipadpaaGreatDoor
open Go.RowKit
attribute [local go_sem] Oper.semAt_some

end Go.Proofs.YtilfcikhipadpaaGreatDoor
end

section
/- The document's answer for ip (porterref04) over this program: what may not hold, and what does. -/
set_option linter.unusedVariables false
set_option linter.unusedSimpArgs false
namespace Go.Proofs.YtilfcikhipadpaaGreatDoor
open Go.RowKit
attribute [local go_sem] Oper.semAt_some

end Go.Proofs.YtilfcikhipadpaaGreatDoor
end

section
/- ip.Parse and porterref04.Parse over this program: every text. -/
set_option linter.unusedVariables false
namespace Go.Proofs.YtilfcikhipadpaaGreatDoor
open Go.RowKit

theorem ip_Parse (s : ByteArray) (w : World) (hs : s.size ≤ 140737488351232) :
    Calls Tryz.prog 74 #[.string s] w (Ret (.tuple #[.agg (hdRes s).cells, .string (ipRest s), .int .i64 (ipWhy s)]) w) := by
  unfold hdRes ipRest
  by_cases h1 : s.size < 20
  · rw [show ipWhy s = 1 from by unfold ipWhy; rw [if_pos h1], if_neg (by decide), if_neg (by decide)]
    exact i_Parse_1 s w h1
  by_cases h2 : at_ (L s) 0 / 16 ≠ 4
  · rw [show ipWhy s = 2 from by unfold ipWhy; rw [if_neg h1, if_pos h2], if_neg (by decide), if_neg (by decide)]
    exact i_Parse_2 s w hs (by omega) h2
  by_cases h3 : ipFits s = false
  · rw [show ipWhy s = 3 from by unfold ipWhy; rw [if_neg h1, if_neg h2, if_pos h3], if_neg (by decide), if_neg (by decide)]
    exact i_Parse_3 s w hs (by omega) (by omega) h3
  by_cases h4 : holds [(L s).take (ipOwn (L s)).toNat] = false
  · rw [show ipWhy s = 4 from by unfold ipWhy; rw [if_neg h1, if_neg h2, if_neg h3, if_pos h4], if_neg (by decide), if_neg (by decide)]
    exact i_Parse_4 s w hs (by omega) (by omega) (by simpa using h3) h4
  rw [show ipWhy s = if get16 (L s) 6 ≠ 0 ∧ get16 (L s) 6 ≠ 16384 then 5 else 0 from by unfold ipWhy; rw [if_neg h1, if_neg h2, if_neg h3, if_neg h4]]
  replace h1 : 20 ≤ s.size := by omega
  replace h2 : at_ (L s) 0 / 16 = 4 := by omega
  replace h3 : ipFits s = true := by simpa using h3
  replace h4 : holds [(L s).take (ipOwn (L s)).toNat] = true := by simpa using h4
  · skip
    have c := i_Parse_5 s w hs h1 h2 h3 h4
    by_cases h5 : get16 (L s) 6 ≠ 0 ∧ get16 (L s) 6 ≠ 16384
    · rw [if_pos h5] at c ⊢; rw [if_neg (by decide), if_neg (by decide)]; exact c
    · rw [if_neg h5] at c ⊢; rw [if_pos rfl, if_pos rfl]; exact c

end Go.Proofs.YtilfcikhipadpaaGreatDoor
end

section
/- The look at a packet, and what is seen of it (tuples.Of), over this program. -/
set_option linter.unusedVariables false
set_option linter.unusedSimpArgs false
namespace Go.Proofs.YtilfcikhipadpaaGreatDoor
open Go.RowKit
attribute [local go_sem] Oper.semAt_some

theorem Cells.put9 {w : World} {b : Nat} {a0 a1 a2 a3 a4 a5 a6 a7 a8 : Value} {T : TypeId} (h : Cells w b #[a0, a1, a2, a3, a4, a5, a6, a7, a8] T) (v0 v1 v2 v3 v4 v5 v6 v7 v8 : Value) : Cells (((((((((w.setCell ⟨b, 0, none⟩ v0).setCell ⟨b, 1, none⟩ v1).setCell ⟨b, 2, none⟩ v2).setCell ⟨b, 3, none⟩ v3).setCell ⟨b, 4, none⟩ v4).setCell ⟨b, 5, none⟩ v5).setCell ⟨b, 6, none⟩ v6).setCell ⟨b, 7, none⟩ v7).setCell ⟨b, 8, none⟩ v8) b #[v0, v1, v2, v3, v4, v5, v6, v7, v8] T := by
  have h0 : Cells (w.setCell ⟨b, 0, none⟩ v0) b #[v0, a1, a2, a3, a4, a5, a6, a7, a8] T := h.set_ 0 v0
  have h1 : Cells ((w.setCell ⟨b, 0, none⟩ v0).setCell ⟨b, 1, none⟩ v1) b #[v0, v1, a2, a3, a4, a5, a6, a7, a8] T := h0.set_ 1 v1
  have h2 : Cells (((w.setCell ⟨b, 0, none⟩ v0).setCell ⟨b, 1, none⟩ v1).setCell ⟨b, 2, none⟩ v2) b #[v0, v1, v2, a3, a4, a5, a6, a7, a8] T := h1.set_ 2 v2
  have h3 : Cells ((((w.setCell ⟨b, 0, none⟩ v0).setCell ⟨b, 1, none⟩ v1).setCell ⟨b, 2, none⟩ v2).setCell ⟨b, 3, none⟩ v3) b #[v0, v1, v2, v3, a4, a5, a6, a7, a8] T := h2.set_ 3 v3
  have h4 : Cells (((((w.setCell ⟨b, 0, none⟩ v0).setCell ⟨b, 1, none⟩ v1).setCell ⟨b, 2, none⟩ v2).setCell ⟨b, 3, none⟩ v3).setCell ⟨b, 4, none⟩ v4) b #[v0, v1, v2, v3, v4, a5, a6, a7, a8] T := h3.set_ 4 v4
  have h5 : Cells ((((((w.setCell ⟨b, 0, none⟩ v0).setCell ⟨b, 1, none⟩ v1).setCell ⟨b, 2, none⟩ v2).setCell ⟨b, 3, none⟩ v3).setCell ⟨b, 4, none⟩ v4).setCell ⟨b, 5, none⟩ v5) b #[v0, v1, v2, v3, v4, v5, a6, a7, a8] T := h4.set_ 5 v5
  have h6 : Cells (((((((w.setCell ⟨b, 0, none⟩ v0).setCell ⟨b, 1, none⟩ v1).setCell ⟨b, 2, none⟩ v2).setCell ⟨b, 3, none⟩ v3).setCell ⟨b, 4, none⟩ v4).setCell ⟨b, 5, none⟩ v5).setCell ⟨b, 6, none⟩ v6) b #[v0, v1, v2, v3, v4, v5, v6, a7, a8] T := h5.set_ 6 v6
  have h7 : Cells ((((((((w.setCell ⟨b, 0, none⟩ v0).setCell ⟨b, 1, none⟩ v1).setCell ⟨b, 2, none⟩ v2).setCell ⟨b, 3, none⟩ v3).setCell ⟨b, 4, none⟩ v4).setCell ⟨b, 5, none⟩ v5).setCell ⟨b, 6, none⟩ v6).setCell ⟨b, 7, none⟩ v7) b #[v0, v1, v2, v3, v4, v5, v6, v7, a8] T := h6.set_ 7 v7
  have h8 : Cells (((((((((w.setCell ⟨b, 0, none⟩ v0).setCell ⟨b, 1, none⟩ v1).setCell ⟨b, 2, none⟩ v2).setCell ⟨b, 3, none⟩ v3).setCell ⟨b, 4, none⟩ v4).setCell ⟨b, 5, none⟩ v5).setCell ⟨b, 6, none⟩ v6).setCell ⟨b, 7, none⟩ v7).setCell ⟨b, 8, none⟩ v8) b #[v0, v1, v2, v3, v4, v5, v6, v7, v8] T := h7.set_ 8 v8
  exact h8
theorem Below.put9 {w w' : World} {n b : Nat} (h : Below n w w') (hb : n ≤ b) (v0 v1 v2 v3 v4 v5 v6 v7 v8 : Value) : Below n w (((((((((w'.setCell ⟨b, 0, none⟩ v0).setCell ⟨b, 1, none⟩ v1).setCell ⟨b, 2, none⟩ v2).setCell ⟨b, 3, none⟩ v3).setCell ⟨b, 4, none⟩ v4).setCell ⟨b, 5, none⟩ v5).setCell ⟨b, 6, none⟩ v6).setCell ⟨b, 7, none⟩ v7).setCell ⟨b, 8, none⟩ v8) := (Below.setCell (Below.setCell (Below.setCell (Below.setCell (Below.setCell (Below.setCell (Below.setCell (Below.setCell (Below.setCell h (p := ⟨b, 0, none⟩) hb v0) (p := ⟨b, 1, none⟩) hb v1) (p := ⟨b, 2, none⟩) hb v2) (p := ⟨b, 3, none⟩) hb v3) (p := ⟨b, 4, none⟩) hb v4) (p := ⟨b, 5, none⟩) hb v5) (p := ⟨b, 6, none⟩) hb v6) (p := ⟨b, 7, none⟩) hb v7) (p := ⟨b, 8, none⟩) hb v8)
set_option maxHeartbeats 1000000 in
theorem p_look_6 (B : Nat) (h : Hd) (l : ByteArray) (r : Int) (x : Seen) (w : World) (hC : Pk w B h l (seen0 h)) (hp : h.p = 6)
    (c : Calls Tryz.prog 126 #[.pointer (some ⟨B, 0, none⟩)] w (Looked B h l r x w)) :
    Calls Tryz.prog 75 #[.pointer (some ⟨B, 0, none⟩)] w (Looked B h l r x w) := by
  have p4 : w.cell? ⟨B, 4, none⟩ = some (.int .u8 h.p) := hC.at_ 4
  have C := hide c
  rw [hp] at p4
  clear c
  clear hC
  go_enter Tryz.func75, Tryz.ntmps75
  go_wp2_with fail
  (with_reducible refine (C.out).mono ?_)
  rintro e w1 ⟨rfl, b1, hP⟩
  go_wp2_with fail
  go_ret
  exact ⟨rfl, b1, hP⟩

set_option maxHeartbeats 1000000 in
theorem p_look_17 (B : Nat) (h : Hd) (l : ByteArray) (r : Int) (x : Seen) (w : World) (hC : Pk w B h l (seen0 h)) (hp : h.p = 17)
    (c : Calls Tryz.prog 127 #[.pointer (some ⟨B, 0, none⟩)] w (Looked B h l r x w)) :
    Calls Tryz.prog 75 #[.pointer (some ⟨B, 0, none⟩)] w (Looked B h l r x w) := by
  have p4 : w.cell? ⟨B, 4, none⟩ = some (.int .u8 h.p) := hC.at_ 4
  have C := hide c
  rw [hp] at p4
  clear c
  clear hC
  go_enter Tryz.func75, Tryz.ntmps75
  go_wp2_with fail
  (with_reducible refine (C.out).mono ?_)
  rintro e w1 ⟨rfl, b1, hP⟩
  go_wp2_with fail
  go_ret
  exact ⟨rfl, b1, hP⟩

set_option maxHeartbeats 1000000 in
theorem p_look_1 (B : Nat) (h : Hd) (l : ByteArray) (r : Int) (x : Seen) (w : World) (hC : Pk w B h l (seen0 h)) (hp : h.p = 1)
    (c : Calls Tryz.prog 128 #[.pointer (some ⟨B, 0, none⟩)] w (Looked B h l r x w)) :
    Calls Tryz.prog 75 #[.pointer (some ⟨B, 0, none⟩)] w (Looked B h l r x w) := by
  have p4 : w.cell? ⟨B, 4, none⟩ = some (.int .u8 h.p) := hC.at_ 4
  have C := hide c
  rw [hp] at p4
  clear c
  clear hC
  go_enter Tryz.func75, Tryz.ntmps75
  go_wp2_with fail
  (with_reducible refine (C.out).mono ?_)
  rintro e w1 ⟨rfl, b1, hP⟩
  go_wp2_with fail
  go_ret
  exact ⟨rfl, b1, hP⟩

set_option maxHeartbeats 1000000 in
theorem p_look_no (B : Nat) (h : Hd) (l : ByteArray) (r : Int) (x : Seen) (w : World) (hC : Pk w B h l (seen0 h)) (hp : h.p ≠ 6 ∧ h.p ≠ 17 ∧ h.p ≠ 1)
    (hr : True) :
    Calls Tryz.prog 75 #[.pointer (some ⟨B, 0, none⟩)] w (Looked B h l 6 x w) := by
  have p4 : w.cell? ⟨B, 4, none⟩ = some (.int .u8 h.p) := hC.at_ 4
  obtain ⟨h6, h17, h1⟩ := hp
  have q1 : (h.p == 6) = false := by simpa using h6
  have q2 : (h.p == 17) = false := by simpa using h17
  have q3 : (h.p == 1) = false := by simpa using h1
  generalize h.p = pp at *
  clear h6 h17 h1 hr
  clear hC
  go_enter Tryz.func75, Tryz.ntmps75
  go_wp2_with fail
  go_ret
  exact ⟨rfl, But.refl _ _, fun e => absurd e (by decide)⟩

theorem p_look (B : Nat) (h : Hd) (l : ByteArray) (w0 w : World) (K0 : Kinds w0) (hb : Below w0.heap.size w0 w) (hn : w0.heap.size ≤ B) (hC : Pk w B h l (seen0 h)) (hl : l.size ≤ 140737488351232) :
    Calls Tryz.prog 75 #[.pointer (some ⟨B, 0, none⟩)] w (Looked B h l (loadWhy h.p l) (loadSeen h l) w) := by
  by_cases h6 : h.p = 6
  · have c := p_segment B h l w hC hl h6
    rw [← h6] at c
    exact p_look_6 B h l _ _ w hC h6 c
  by_cases h17 : h.p = 17
  · have c := p_datagram B h l w hC hl h17
    rw [← h17] at c
    exact p_look_17 B h l _ _ w hC h17 c
  by_cases h1 : h.p = 1
  · have c := p_message B h l w0 w K0 hb hn hC hl h1
    rw [← h1] at c
    exact p_look_1 B h l _ _ w hC h1 c
  · have e : loadWhy h.p l = 6 := by unfold loadWhy; rw [if_neg h6, if_neg h17, if_neg h1]
    rw [e]
    exact p_look_no B h l 0 _ w hC ⟨h6, h17, h1⟩ trivial

set_option maxRecDepth 100000 in
set_option maxHeartbeats 2000000 in
theorem tu_Of_bad (s : ByteArray) (w : World) (h0 h1 h3 h4 h5 h6 : Int) (h2 : Bool) (h7 l : ByteArray) (r : Int) (hr : r ≠ 0)
    (c1 : ∀ W, Calls Tryz.prog 74 #[.string s] W (Ret (.tuple #[.agg #[.int .u8 h0, .int .u16 h1, .bool h2, .int .u8 h3, .int .u8 h4, .int .u32 h5, .int .u32 h6, .string h7], .string l, .int .i64 r]) W)) :
    Calls Tryz.prog 27 #[.string s] w (Ret (.tuple #[.agg seenNone.cells, .int .i64 r]) w) := by
  have q1 : (r != 0) = true := by simpa using hr
  have q2 : (r == 0) = false := by simpa using hr
  have C1 := hide c1
  clear c1 hr
  unfold seenNone Seen.cells
  simp only
  go_enter Tryz.func27, Tryz.ntmps27
  have d0 := Cells.new w #[.int .u8 0, .int .u32 0, .int .u16 0, .int .u32 0, .int .u16 0, .int .i64 0, .int .u8 0, .bool false, .int .u8 0] 35
  go_wp2_with fail
  (with_reducible refine (C1.out _).mono ?_)
  rintro e w1 ⟨rfl, b1⟩
  have d1 := Cells.alloc (Cells.below b1 d0) (.cells #[.int .u8 h0, .int .u16 h1, .bool h2, .int .u8 h3, .int .u8 h4, .int .u32 h5, .int .u32 h6, .string h7] 151)
  replace b1 : Below w.heap.size w (w1.alloc (.cells #[.int .u8 h0, .int .u16 h1, .bool h2, .int .u8 h3, .int .u8 h4, .int .u32 h5, .int .u32 h6, .string h7] 151)) := bstep (bstep (fresh_below _ _) b1) (fresh_below _ _)
  obtain ⟨xd1_0, xd1_1, xd1_2, xd1_3, xd1_4, xd1_5, xd1_6, xd1_7, xd1_8⟩ := d1.x9
  obtain ⟨yd1_0, yd1_1, yd1_2, yd1_3, yd1_4, yd1_5, yd1_6, yd1_7, yd1_8⟩ := d1.y9
  clear d0
  go_wp2_with fail
  generalize w1.alloc (.cells #[.int .u8 h0, .int .u16 h1, .bool h2, .int .u8 h3, .int .u8 h4, .int .u32 h5, .int .u32 h6, .string h7] 151) = W at *
  have r5 := (Cells.put9 d1 (.int .u8 0) (.int .u32 0) (.int .u16 0) (.int .u32 0) (.int .u16 0) (.int .i64 0) (.int .u8 0) (.bool false) (.int .u8 0))
  have b5 := (Below.put9 b1 (b := w.heap.size) (by first | exact Nat.le_refl _ | omega) (.int .u8 0) (.int .u32 0) (.int .u16 0) (.int .u32 0) (.int .u16 0) (.int .i64 0) (.int .u8 0) (.bool false) (.int .u8 0))
  have HR5 := hide r5; have HB5 := hide b5
  clear r5 b5 d1
  generalize (((((((((W.setCell ⟨w.heap.size, 0, none⟩ (.int .u8 0)).setCell ⟨w.heap.size, 1, none⟩ (.int .u32 0)).setCell ⟨w.heap.size, 2, none⟩ (.int .u16 0)).setCell ⟨w.heap.size, 3, none⟩ (.int .u32 0)).setCell ⟨w.heap.size, 4, none⟩ (.int .u16 0)).setCell ⟨w.heap.size, 5, none⟩ (.int .i64 0)).setCell ⟨w.heap.size, 6, none⟩ (.int .u8 0)).setCell ⟨w.heap.size, 7, none⟩ (.bool false)).setCell ⟨w.heap.size, 8, none⟩ (.int .u8 0)) = W5 at *
  have r5 := HR5.out; have b5 := HB5.out
  clear HR5 HB5
  obtain ⟨xr5_0, xr5_1, xr5_2, xr5_3, xr5_4, xr5_5, xr5_6, xr5_7, xr5_8⟩ := r5.x9
  (try simp only [Exit.inBlock, Exit.then]); refine bodyPost_ret (by simp [results, Tryz.results27, go_sem, *]; try rfl) rfl ?_
  exact ⟨rfl, b5⟩

set_option maxRecDepth 100000 in
set_option maxHeartbeats 4000000 in
theorem tu_Of_no (s : ByteArray) (w : World) (h0 h1 h3 h4 h5 h6 : Int) (h2 : Bool) (h7 l : ByteArray) (x0 x1 x2 x3 x4 x5 x6 x8 : Int) (x7 : Bool) (r : Int) (hr : r ≠ 0)
    (c1 : ∀ W, Calls Tryz.prog 74 #[.string s] W (Ret (.tuple #[.agg #[.int .u8 h0, .int .u16 h1, .bool h2, .int .u8 h3, .int .u8 h4, .int .u32 h5, .int .u32 h6, .string h7], .string l, .int .i64 0]) W))
    (c2 : ∀ (B : Nat) (W : World), Below w.heap.size w W → w.heap.size ≤ B → Pk W B ⟨h0, h1, h2, h3, h4, h5, h6, h7⟩ l (seen0 ⟨h0, h1, h2, h3, h4, h5, h6, h7⟩) → Calls Tryz.prog 75 #[.pointer (some ⟨B, 0, none⟩)] W (Looked B ⟨h0, h1, h2, h3, h4, h5, h6, h7⟩ l r ⟨⟨x0, x1, x2, x3, x4⟩, x5, x6, x7, x8⟩ W)) :
    Calls Tryz.prog 27 #[.string s] w (Ret (.tuple #[.agg seenNone.cells, .int .i64 r]) w) := by
  have q1 : (r != 0) = true := by simpa using hr
  have q2 : (r == 0) = false := by simpa using hr
  clear hr
  unfold seenNone Seen.cells
  simp only
  have C1 := hide c1; have C2 := hide c2
  clear c1 c2
  go_enter Tryz.func27, Tryz.ntmps27
  have d0 := Cells.new w #[.int .u8 0, .int .u32 0, .int .u16 0, .int .u32 0, .int .u16 0, .int .i64 0, .int .u8 0, .bool false, .int .u8 0] 35
  go_wp2_with fail
  (with_reducible refine (C1.out _).mono ?_)
  rintro e w1 ⟨rfl, b1⟩
  have d1 := Cells.below b1 d0
  have e1 := Cells.new w1 #[.int .u8 h0, .int .u16 h1, .bool h2, .int .u8 h3, .int .u8 h4, .int .u32 h5, .int .u32 h6, .string h7] 151
  have b2 : Below w.heap.size w (w1.alloc (.cells #[.int .u8 h0, .int .u16 h1, .bool h2, .int .u8 h3, .int .u8 h4, .int .u32 h5, .int .u32 h6, .string h7] 151)) := bstep (bstep (fresh_below _ _) b1) (fresh_below _ _)
  have d2 := Cells.alloc d1 (.cells #[.int .u8 h0, .int .u16 h1, .bool h2, .int .u8 h3, .int .u8 h4, .int .u32 h5, .int .u32 h6, .string h7] 151)
  obtain ⟨xe1_0, xe1_1, xe1_2, xe1_3, xe1_4, xe1_5, xe1_6, xe1_7⟩ := e1.x8
  have hlt : w.heap.size < w1.heap.size := d1.lt
  have hP : Pk ((w1.alloc (.cells #[.int .u8 h0, .int .u16 h1, .bool h2, .int .u8 h3, .int .u8 h4, .int .u32 h5, .int .u32 h6, .string h7] 151)).alloc (.cells #[.int .u8 h0, .int .u16 h1, .bool h2, .int .u8 h3, .int .u8 h4, .int .u32 h5, .int .u32 h6, .string h7, .string l, .int .u8 0, .int .u32 0, .int .u16 0, .int .u32 0, .int .u16 0, .int .i64 2, .int .u8 0, .bool false, .int .u8 h3] 156)) (w1.heap.size + 1) ⟨h0, h1, h2, h3, h4, h5, h6, h7⟩ l (seen0 ⟨h0, h1, h2, h3, h4, h5, h6, h7⟩) := by
    have := Cells.new (w1.alloc (.cells #[.int .u8 h0, .int .u16 h1, .bool h2, .int .u8 h3, .int .u8 h4, .int .u32 h5, .int .u32 h6, .string h7] 151)) #[.int .u8 h0, .int .u16 h1, .bool h2, .int .u8 h3, .int .u8 h4, .int .u32 h5, .int .u32 h6, .string h7, .string l, .int .u8 0, .int .u32 0, .int .u16 0, .int .u32 0, .int .u16 0, .int .i64 2, .int .u8 0, .bool false, .int .u8 h3] 156
    rw [show (w1.alloc (.cells #[.int .u8 h0, .int .u16 h1, .bool h2, .int .u8 h3, .int .u8 h4, .int .u32 h5, .int .u32 h6, .string h7] 151)).heap.size = w1.heap.size + 1 from by simp] at this
    exact this
  have d3 := Cells.alloc d2 (.cells #[.int .u8 h0, .int .u16 h1, .bool h2, .int .u8 h3, .int .u8 h4, .int .u32 h5, .int .u32 h6, .string h7, .string l, .int .u8 0, .int .u32 0, .int .u16 0, .int .u32 0, .int .u16 0, .int .i64 2, .int .u8 0, .bool false, .int .u8 h3] 156)
  have b3 : Below w.heap.size w ((w1.alloc (.cells #[.int .u8 h0, .int .u16 h1, .bool h2, .int .u8 h3, .int .u8 h4, .int .u32 h5, .int .u32 h6, .string h7] 151)).alloc (.cells #[.int .u8 h0, .int .u16 h1, .bool h2, .int .u8 h3, .int .u8 h4, .int .u32 h5, .int .u32 h6, .string h7, .string l, .int .u8 0, .int .u32 0, .int .u16 0, .int .u32 0, .int .u16 0, .int .i64 2, .int .u8 0, .bool false, .int .u8 h3] 156)) := bstep b2 (fresh_below _ _)
  have c3 := C2.out _ _ b3 (by omega) hP
  have hsz : w1.heap.size + 1 < ((w1.alloc (.cells #[.int .u8 h0, .int .u16 h1, .bool h2, .int .u8 h3, .int .u8 h4, .int .u32 h5, .int .u32 h6, .string h7] 151)).alloc (.cells #[.int .u8 h0, .int .u16 h1, .bool h2, .int .u8 h3, .int .u8 h4, .int .u32 h5, .int .u32 h6, .string h7, .string l, .int .u8 0, .int .u32 0, .int .u16 0, .int .u32 0, .int .u16 0, .int .i64 2, .int .u8 0, .bool false, .int .u8 h3] 156)).heap.size := hP.lt
  have C3 := hide c3; have D3 := hide d3; have B3 := hide b3; have HS := hide hsz; have HL := hide hlt
  clear c3 d3 b3 hsz hP d0 d1 d2 b1 b2 e1 hlt C2
  go_wp2_with fail
  (with_reducible refine (C3.out).mono ?_)
  rintro e w3 ⟨rfl, b4, hP4⟩
  have hne : w.heap.size ≠ w1.heap.size + 1 := by have := HL.out; omega
  have d4 := b4.cells hne D3.out
  have b6 : Below w.heap.size w w3 := B3.out.trans (b4.below (by have := HL.out; omega) (Nat.le_of_lt HS.out))
  clear b4 C3 D3 B3 HS
  obtain ⟨xd4_0, xd4_1, xd4_2, xd4_3, xd4_4, xd4_5, xd4_6, xd4_7, xd4_8⟩ := d4.x9
  obtain ⟨yd4_0, yd4_1, yd4_2, yd4_3, yd4_4, yd4_5, yd4_6, yd4_7, yd4_8⟩ := d4.y9
  clear hP4
  have HNE := hide hne
  clear hne
  go_wp2_with fail
  have r5 := (Cells.put9 d4 (.int .u8 0) (.int .u32 0) (.int .u16 0) (.int .u32 0) (.int .u16 0) (.int .i64 0) (.int .u8 0) (.bool false) (.int .u8 0))
  have b5 := (Below.put9 b6 (b := w.heap.size) (by first | exact Nat.le_refl _ | omega) (.int .u8 0) (.int .u32 0) (.int .u16 0) (.int .u32 0) (.int .u16 0) (.int .i64 0) (.int .u8 0) (.bool false) (.int .u8 0))
  have HR5 := hide r5; have HB5 := hide b5
  clear r5 b5 d4
  generalize (((((((((w3.setCell ⟨w.heap.size, 0, none⟩ (.int .u8 0)).setCell ⟨w.heap.size, 1, none⟩ (.int .u32 0)).setCell ⟨w.heap.size, 2, none⟩ (.int .u16 0)).setCell ⟨w.heap.size, 3, none⟩ (.int .u32 0)).setCell ⟨w.heap.size, 4, none⟩ (.int .u16 0)).setCell ⟨w.heap.size, 5, none⟩ (.int .i64 0)).setCell ⟨w.heap.size, 6, none⟩ (.int .u8 0)).setCell ⟨w.heap.size, 7, none⟩ (.bool false)).setCell ⟨w.heap.size, 8, none⟩ (.int .u8 0)) = W5 at *
  have r5 := HR5.out; have b5 := HB5.out
  clear HR5 HB5
  obtain ⟨xr5_0, xr5_1, xr5_2, xr5_3, xr5_4, xr5_5, xr5_6, xr5_7, xr5_8⟩ := r5.x9
  (try simp only [Exit.inBlock, Exit.then]); refine bodyPost_ret (by simp [results, Tryz.results27, go_sem, *]; try rfl) rfl ?_
  exact ⟨rfl, b5⟩

set_option maxRecDepth 100000 in
set_option maxHeartbeats 4000000 in
theorem tu_Of_yes (s : ByteArray) (w : World) (h0 h1 h3 h4 h5 h6 : Int) (h2 : Bool) (h7 l : ByteArray) (x0 x1 x2 x3 x4 x5 x6 x8 : Int) (x7 : Bool) (r : Int) (hr : r = 0)
    (c1 : ∀ W, Calls Tryz.prog 74 #[.string s] W (Ret (.tuple #[.agg #[.int .u8 h0, .int .u16 h1, .bool h2, .int .u8 h3, .int .u8 h4, .int .u32 h5, .int .u32 h6, .string h7], .string l, .int .i64 0]) W))
    (c2 : ∀ (B : Nat) (W : World), Below w.heap.size w W → w.heap.size ≤ B → Pk W B ⟨h0, h1, h2, h3, h4, h5, h6, h7⟩ l (seen0 ⟨h0, h1, h2, h3, h4, h5, h6, h7⟩) → Calls Tryz.prog 75 #[.pointer (some ⟨B, 0, none⟩)] W (Looked B ⟨h0, h1, h2, h3, h4, h5, h6, h7⟩ l r ⟨⟨x0, x1, x2, x3, x4⟩, x5, x6, x7, x8⟩ W)) :
    Calls Tryz.prog 27 #[.string s] w (Ret (.tuple #[.agg #[.int .u8 x0, .int .u32 x1, .int .u16 x2, .int .u32 x3, .int .u16 x4, .int .i64 x5, .int .u8 x6, .bool x7, .int .u8 x8], .int .i64 0]) w) := by
  subst hr
  have C1 := hide c1; have C2 := hide c2
  clear c1 c2
  go_enter Tryz.func27, Tryz.ntmps27
  have d0 := Cells.new w #[.int .u8 0, .int .u32 0, .int .u16 0, .int .u32 0, .int .u16 0, .int .i64 0, .int .u8 0, .bool false, .int .u8 0] 35
  go_wp2_with fail
  (with_reducible refine (C1.out _).mono ?_)
  rintro e w1 ⟨rfl, b1⟩
  have d1 := Cells.below b1 d0
  have e1 := Cells.new w1 #[.int .u8 h0, .int .u16 h1, .bool h2, .int .u8 h3, .int .u8 h4, .int .u32 h5, .int .u32 h6, .string h7] 151
  have b2 : Below w.heap.size w (w1.alloc (.cells #[.int .u8 h0, .int .u16 h1, .bool h2, .int .u8 h3, .int .u8 h4, .int .u32 h5, .int .u32 h6, .string h7] 151)) := bstep (bstep (fresh_below _ _) b1) (fresh_below _ _)
  have d2 := Cells.alloc d1 (.cells #[.int .u8 h0, .int .u16 h1, .bool h2, .int .u8 h3, .int .u8 h4, .int .u32 h5, .int .u32 h6, .string h7] 151)
  obtain ⟨xe1_0, xe1_1, xe1_2, xe1_3, xe1_4, xe1_5, xe1_6, xe1_7⟩ := e1.x8
  have hlt : w.heap.size < w1.heap.size := d1.lt
  have hP : Pk ((w1.alloc (.cells #[.int .u8 h0, .int .u16 h1, .bool h2, .int .u8 h3, .int .u8 h4, .int .u32 h5, .int .u32 h6, .string h7] 151)).alloc (.cells #[.int .u8 h0, .int .u16 h1, .bool h2, .int .u8 h3, .int .u8 h4, .int .u32 h5, .int .u32 h6, .string h7, .string l, .int .u8 0, .int .u32 0, .int .u16 0, .int .u32 0, .int .u16 0, .int .i64 2, .int .u8 0, .bool false, .int .u8 h3] 156)) (w1.heap.size + 1) ⟨h0, h1, h2, h3, h4, h5, h6, h7⟩ l (seen0 ⟨h0, h1, h2, h3, h4, h5, h6, h7⟩) := by
    have := Cells.new (w1.alloc (.cells #[.int .u8 h0, .int .u16 h1, .bool h2, .int .u8 h3, .int .u8 h4, .int .u32 h5, .int .u32 h6, .string h7] 151)) #[.int .u8 h0, .int .u16 h1, .bool h2, .int .u8 h3, .int .u8 h4, .int .u32 h5, .int .u32 h6, .string h7, .string l, .int .u8 0, .int .u32 0, .int .u16 0, .int .u32 0, .int .u16 0, .int .i64 2, .int .u8 0, .bool false, .int .u8 h3] 156
    rw [show (w1.alloc (.cells #[.int .u8 h0, .int .u16 h1, .bool h2, .int .u8 h3, .int .u8 h4, .int .u32 h5, .int .u32 h6, .string h7] 151)).heap.size = w1.heap.size + 1 from by simp] at this
    exact this
  have d3 := Cells.alloc d2 (.cells #[.int .u8 h0, .int .u16 h1, .bool h2, .int .u8 h3, .int .u8 h4, .int .u32 h5, .int .u32 h6, .string h7, .string l, .int .u8 0, .int .u32 0, .int .u16 0, .int .u32 0, .int .u16 0, .int .i64 2, .int .u8 0, .bool false, .int .u8 h3] 156)
  have b3 : Below w.heap.size w ((w1.alloc (.cells #[.int .u8 h0, .int .u16 h1, .bool h2, .int .u8 h3, .int .u8 h4, .int .u32 h5, .int .u32 h6, .string h7] 151)).alloc (.cells #[.int .u8 h0, .int .u16 h1, .bool h2, .int .u8 h3, .int .u8 h4, .int .u32 h5, .int .u32 h6, .string h7, .string l, .int .u8 0, .int .u32 0, .int .u16 0, .int .u32 0, .int .u16 0, .int .i64 2, .int .u8 0, .bool false, .int .u8 h3] 156)) := bstep b2 (fresh_below _ _)
  have c3 := C2.out _ _ b3 (by omega) hP
  have hsz : w1.heap.size + 1 < ((w1.alloc (.cells #[.int .u8 h0, .int .u16 h1, .bool h2, .int .u8 h3, .int .u8 h4, .int .u32 h5, .int .u32 h6, .string h7] 151)).alloc (.cells #[.int .u8 h0, .int .u16 h1, .bool h2, .int .u8 h3, .int .u8 h4, .int .u32 h5, .int .u32 h6, .string h7, .string l, .int .u8 0, .int .u32 0, .int .u16 0, .int .u32 0, .int .u16 0, .int .i64 2, .int .u8 0, .bool false, .int .u8 h3] 156)).heap.size := hP.lt
  have C3 := hide c3; have D3 := hide d3; have B3 := hide b3; have HS := hide hsz; have HL := hide hlt
  clear c3 d3 b3 hsz hP d0 d1 d2 b1 b2 e1 hlt C2
  go_wp2_with fail
  (with_reducible refine (C3.out).mono ?_)
  rintro e w3 ⟨rfl, b4, hP4⟩
  have hne : w.heap.size ≠ w1.heap.size + 1 := by have := HL.out; omega
  have d4 := b4.cells hne D3.out
  have b6 : Below w.heap.size w w3 := B3.out.trans (b4.below (by have := HL.out; omega) (Nat.le_of_lt HS.out))
  clear b4 C3 D3 B3 HS
  obtain ⟨xd4_0, xd4_1, xd4_2, xd4_3, xd4_4, xd4_5, xd4_6, xd4_7, xd4_8⟩ := d4.x9
  obtain ⟨yd4_0, yd4_1, yd4_2, yd4_3, yd4_4, yd4_5, yd4_6, yd4_7, yd4_8⟩ := d4.y9
  have hP5 := hP4 rfl
  unfold Pk pkCells at hP5
  simp only at hP5
  have k0 : w3.cell? ⟨w1.heap.size + 1, 9, none⟩ = some (.int .u8 x0) := hP5.at_ 9
  have k1 : w3.cell? ⟨w1.heap.size + 1, 10, none⟩ = some (.int .u32 x1) := hP5.at_ 10
  have k2 : w3.cell? ⟨w1.heap.size + 1, 11, none⟩ = some (.int .u16 x2) := hP5.at_ 11
  have k3 : w3.cell? ⟨w1.heap.size + 1, 12, none⟩ = some (.int .u32 x3) := hP5.at_ 12
  have k4 : w3.cell? ⟨w1.heap.size + 1, 13, none⟩ = some (.int .u16 x4) := hP5.at_ 13
  have k5 : w3.cell? ⟨w1.heap.size + 1, 14, none⟩ = some (.int .i64 x5) := hP5.at_ 14
  have k6 : w3.cell? ⟨w1.heap.size + 1, 15, none⟩ = some (.int .u8 x6) := hP5.at_ 15
  have k7 : w3.cell? ⟨w1.heap.size + 1, 16, none⟩ = some (.bool x7) := hP5.at_ 16
  have k8 : w3.cell? ⟨w1.heap.size + 1, 17, none⟩ = some (.int .u8 x8) := hP5.at_ 17
  clear hP4 hP5
  have HNE := hide hne
  clear hne
  go_wp2_with fail
  have r5 := (Cells.put9 d4 (.int .u8 x0) (.int .u32 x1) (.int .u16 x2) (.int .u32 x3) (.int .u16 x4) (.int .i64 x5) (.int .u8 x6) (.bool x7) (.int .u8 x8))
  have b5 := (Below.put9 b6 (b := w.heap.size) (by first | exact Nat.le_refl _ | omega) (.int .u8 x0) (.int .u32 x1) (.int .u16 x2) (.int .u32 x3) (.int .u16 x4) (.int .i64 x5) (.int .u8 x6) (.bool x7) (.int .u8 x8))
  have HR5 := hide r5; have HB5 := hide b5
  clear r5 b5 d4
  generalize (((((((((w3.setCell ⟨w.heap.size, 0, none⟩ (.int .u8 x0)).setCell ⟨w.heap.size, 1, none⟩ (.int .u32 x1)).setCell ⟨w.heap.size, 2, none⟩ (.int .u16 x2)).setCell ⟨w.heap.size, 3, none⟩ (.int .u32 x3)).setCell ⟨w.heap.size, 4, none⟩ (.int .u16 x4)).setCell ⟨w.heap.size, 5, none⟩ (.int .i64 x5)).setCell ⟨w.heap.size, 6, none⟩ (.int .u8 x6)).setCell ⟨w.heap.size, 7, none⟩ (.bool x7)).setCell ⟨w.heap.size, 8, none⟩ (.int .u8 x8)) = W5 at *
  have r5 := HR5.out; have b5 := HB5.out
  clear HR5 HB5
  obtain ⟨xr5_0, xr5_1, xr5_2, xr5_3, xr5_4, xr5_5, xr5_6, xr5_7, xr5_8⟩ := r5.x9
  (try simp only [Exit.inBlock, Exit.then]); refine bodyPost_ret (by simp [results, Tryz.results27, go_sem, *]; try rfl) rfl ?_
  exact ⟨rfl, b5⟩

theorem tu_Of (s : ByteArray) (w : World) (K0 : Kinds w) (hs : s.size ≤ 140737488351232) :
    Calls Tryz.prog 27 #[.string s] w (Ret (.tuple #[.agg (seenOf s).cells, .int .i64 (seenWhy s)]) w) := by
  have c1 := fun W => ip_Parse s W hs
  by_cases hw : ipWhy s = 0
  · have hr : (ipRest s).size ≤ 140737488351232 := by unfold ipRest; rw [if_pos hw, ByteArray.size_extract]; omega
    have c2 := fun (B : Nat) (W : World) (hb : Below w.heap.size w W) (hn : w.heap.size ≤ B) (hP : Pk W B (hdOf s) (ipRest s) (seen0 (hdOf s))) => p_look B (hdOf s) (ipRest s) w W K0 hb hn hP hr
    rw [show hdRes s = hdOf s from by unfold hdRes; rw [if_pos hw], hw] at c1
    have e1 : seenWhy s = loadWhy (hdOf s).p (ipRest s) := by unfold seenWhy; rw [if_pos hw]
    by_cases hl : loadWhy (hdOf s).p (ipRest s) = 0
    · have e2 : seenOf s = loadSeen (hdOf s) (ipRest s) := by unfold seenOf; rw [e1, if_pos hl]
      rw [e1, e2, hl]
      exact tu_Of_yes s w _ _ _ _ _ _ _ _ _ _ _ _ _ _ _ _ _ _ (loadWhy (hdOf s).p (ipRest s)) hl c1 c2
    · have e2 : seenOf s = seenNone := by unfold seenOf; rw [e1, if_neg hl]
      rw [e1, e2]
      exact tu_Of_no s w _ _ _ _ _ _ _ _ _ _ _ _ _ _ _ _ _ _ (loadWhy (hdOf s).p (ipRest s)) hl c1 c2
  · have e1 : seenWhy s = ipWhy s := by unfold seenWhy; rw [if_neg hw]
    have e2 : seenOf s = seenNone := by unfold seenOf; rw [e1, if_neg hw]
    rw [e1, e2]
    exact tu_Of_bad s w _ _ _ _ _ _ _ _ _ _ hw c1
end Go.Proofs.YtilfcikhipadpaaGreatDoor
end
