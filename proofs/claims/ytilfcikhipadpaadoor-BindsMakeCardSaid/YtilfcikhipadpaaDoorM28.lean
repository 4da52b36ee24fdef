/- Several texts of this claim, one behind the other. -/
import Derived.Test.YtilfcikhipadpaaDoorM27
import Derived.Test.YtilfcikhipadpaaDoorM21
import Derived.Test.YtilfcikhipadpaaDoorM20
import Derived.Test.YtilfcikhipadpaaDoorM24
import Derived.Test.YtilfcikhipadpaaDoorM26

section
/- binds: the chapter's plans: bound. -/
set_option linter.unusedVariables false
set_option linter.unusedSimpArgs false
namespace Go.Proofs.YtilfcikhipadpaaDoor
open Go.RowKit Go.Lib
attribute [local go_sem] Oper.semAt_some envL lookV
theorem ca_a (W : World) (B : Nat) (v : Value) (h : TS W B 151587081 167772160 8 [qA, qB] v) (hT : Lasts W) : Calls Tryd.prog 13 #[.pointer (some ⟨B, 0, none⟩), .agg #[.int .u8 17, .int .u32 167772161, .int .u16 4000, .int .u32 134744072, .int .u16 53, .int .i64 2, .int .u8 0, .bool false, .int .u8 64]] W (fun e w' => ∃ A_a c_a, e = .returned (.tuple #[.agg #[.int .u8 17, .int .u32 167772161, .int .u16 4000, .int .u32 134744072, .int .u16 53, .int .u32 134744072, .int .u16 53, .bool true, .int .i64 1, .slice A_a 1 c_a], .int .i64 0]) ∧ wantK.Own w' (.slice A_a 1 c_a) [⟨false, 167772161, 4000, 0, 0, 151587081, 1000, 1007⟩] ∧ Below W.heap.size W w') :=
  (t_of h hT _ _ _ _ (by decide) (by decide) (by decide) (by decide) _ of_a).mono (by
    rintro e w' ⟨v', h1, h2, h3, h4⟩
    obtain ⟨A, c, rfl, _⟩ := h2.slice
    exact ⟨A, c, h1, h2, h4⟩)
theorem ca_b (W : World) (B : Nat) (v : Value) (h : TS W B 151587081 167772160 8 [qA, qB] v) (hT : Lasts W) : Calls Tryd.prog 13 #[.pointer (some ⟨B, 0, none⟩), .agg #[.int .u8 17, .int .u32 167772162, .int .u16 8000, .int .u32 134744072, .int .u16 53, .int .i64 2, .int .u8 0, .bool false, .int .u8 64]] W (fun e w' => ∃ A_b c_b, e = .returned (.tuple #[.agg #[.int .u8 17, .int .u32 167772162, .int .u16 8000, .int .u32 134744072, .int .u16 53, .int .u32 134744072, .int .u16 53, .bool true, .int .i64 1, .slice A_b 1 c_b], .int .i64 0]) ∧ wantK.Own w' (.slice A_b 1 c_b) [⟨true, 167772162, 8000, 151587081, 80, 0, 0, 0⟩] ∧ Below W.heap.size W w') :=
  (t_of h hT _ _ _ _ (by decide) (by decide) (by decide) (by decide) _ of_b).mono (by
    rintro e w' ⟨v', h1, h2, h3, h4⟩
    obtain ⟨A, c, rfl, _⟩ := h2.slice
    exact ⟨A, c, h1, h2, h4⟩)
theorem ca_c (W : World) (B : Nat) (v : Value) (h : TS W B 151587081 167772160 8 [qA, qB] v) (hT : Lasts W) : Calls Tryd.prog 13 #[.pointer (some ⟨B, 0, none⟩), .agg #[.int .u8 17, .int .u32 134744072, .int .u16 53, .int .u32 151587081, .int .u16 80, .int .i64 2, .int .u8 0, .bool false, .int .u8 64]] W (fun e w' => ∃ A_c c_c, e = .returned (.tuple #[.agg #[.int .u8 17, .int .u32 134744072, .int .u16 53, .int .u32 151587081, .int .u16 80, .int .u32 167772162, .int .u16 8000, .bool false, .int .i64 1, .slice A_c 1 c_c], .int .i64 0]) ∧ wantK.Own w' (.slice A_c 1 c_c) [⟨true, 167772162, 8000, 151587081, 80, 0, 0, 0⟩] ∧ Below W.heap.size W w') :=
  (t_of h hT _ _ _ _ (by decide) (by decide) (by decide) (by decide) _ of_c).mono (by
    rintro e w' ⟨v', h1, h2, h3, h4⟩
    obtain ⟨A, c, rfl, _⟩ := h2.slice
    exact ⟨A, c, h1, h2, h4⟩)
theorem ca_d (W : World) (B : Nat) (v : Value) (h : TS W B 151587081 167772160 8 [qA, qB] v) (hT : Lasts W) : Calls Tryd.prog 13 #[.pointer (some ⟨B, 0, none⟩), .agg #[.int .u8 17, .int .u32 167772161, .int .u16 4000, .int .u32 151587081, .int .u16 80, .int .i64 2, .int .u8 0, .bool false, .int .u8 64]] W (fun e w' => ∃ A_d c_d, e = .returned (.tuple #[.agg #[.int .u8 17, .int .u32 167772161, .int .u16 4000, .int .u32 151587081, .int .u16 80, .int .u32 167772162, .int .u16 8000, .bool true, .int .i64 1, .slice A_d 2 c_d], .int .i64 0]) ∧ wantK.Own w' (.slice A_d 2 c_d) [⟨false, 167772161, 4000, 0, 0, 151587081, 1000, 1007⟩, ⟨true, 167772162, 8000, 151587081, 80, 0, 0, 0⟩] ∧ Below W.heap.size W w') :=
  (t_of h hT _ _ _ _ (by decide) (by decide) (by decide) (by decide) _ of_d).mono (by
    rintro e w' ⟨v', h1, h2, h3, h4⟩
    obtain ⟨A, c, rfl, _⟩ := h2.slice
    exact ⟨A, c, h1, h2, h4⟩)
theorem ca_i (W : World) (B : Nat) (v : Value) (h : TS W B 151587081 167772160 8 [qA, qB] v) (hT : Lasts W) : Calls Tryd.prog 13 #[.pointer (some ⟨B, 0, none⟩), .agg #[.int .u8 17, .int .u32 167772162, .int .u16 8000, .int .u32 151587081, .int .u16 80, .int .i64 2, .int .u8 0, .bool false, .int .u8 64]] W (fun e w' => ∃ A_i c_i, e = .returned (.tuple #[.agg #[.int .u8 0, .int .u32 0, .int .u16 0, .int .u32 0, .int .u16 0, .int .u32 0, .int .u16 0, .bool false, .int .i64 0, .slice A_i 0 c_i], .int .i64 9]) ∧ wantK.Own w' (.slice A_i 0 c_i) [] ∧ Below W.heap.size W w') :=
  (t_of h hT _ _ _ _ (by decide) (by decide) (by decide) (by decide) _ of_i).mono (by
    rintro e w' ⟨v', h1, h2, h3, h4⟩
    obtain ⟨A, c, rfl, _⟩ := h2.slice
    exact ⟨A, c, h1, h2, h4⟩)
theorem ca_j (W : World) (B : Nat) (v : Value) (h : TS W B 151587081 167772160 8 [qA, qB] v) (hT : Lasts W) : Calls Tryd.prog 13 #[.pointer (some ⟨B, 0, none⟩), .agg #[.int .u8 17, .int .u32 167772161, .int .u16 4000, .int .u32 167772162, .int .u16 8000, .int .i64 2, .int .u8 0, .bool false, .int .u8 64]] W (fun e w' => ∃ A_j c_j, e = .returned (.tuple #[.agg #[.int .u8 0, .int .u32 0, .int .u16 0, .int .u32 0, .int .u16 0, .int .u32 0, .int .u16 0, .bool false, .int .i64 0, .slice A_j 0 c_j], .int .i64 9]) ∧ wantK.Own w' (.slice A_j 0 c_j) [] ∧ Below W.heap.size W w') :=
  (t_of h hT _ _ _ _ (by decide) (by decide) (by decide) (by decide) _ of_j).mono (by
    rintro e w' ⟨v', h1, h2, h3, h4⟩
    obtain ⟨A, c, rfl, _⟩ := h2.slice
    exact ⟨A, c, h1, h2, h4⟩)
theorem ca_k (W : World) (B : Nat) (v : Value) (h : TS W B 151587081 167772160 8 [qA, qB] v) (hT : Lasts W) : Calls Tryd.prog 13 #[.pointer (some ⟨B, 0, none⟩), .agg #[.int .u8 17, .int .u32 134744072, .int .u16 53, .int .u32 151587081, .int .u16 1000, .int .i64 2, .int .u8 0, .bool false, .int .u8 64]] W (fun e w' => ∃ A_k c_k, e = .returned (.tuple #[.agg #[.int .u8 0, .int .u32 0, .int .u16 0, .int .u32 0, .int .u16 0, .int .u32 0, .int .u16 0, .bool false, .int .i64 0, .slice A_k 0 c_k], .int .i64 10]) ∧ wantK.Own w' (.slice A_k 0 c_k) [] ∧ Below W.heap.size W w') :=
  (t_of h hT _ _ _ _ (by decide) (by decide) (by decide) (by decide) _ of_k).mono (by
    rintro e w' ⟨v', h1, h2, h3, h4⟩
    obtain ⟨A, c, rfl, _⟩ := h2.slice
    exact ⟨A, c, h1, h2, h4⟩)
set_option maxHeartbeats 16000000 in
set_option maxRecDepth 100000 in
theorem bound_ok (w : World) (hT : Lasts w) : Calls Tryd.prog 4 #[] w (Ret (.bool true) w) := by
  have HT := hide hT
  clear hT
  go_enter Tryd.func4, Tryd.ntmps4
  go_upto_region 2 with (go_at_call 12; (refine (l_table _).mono ?_); rintro e w2 ⟨B, v0, rfl, ts, b2⟩)
  have L := hide b2; have TS0 := hide ts; have HL := hide (HT.out.below b2)
  clear ts b2 HT
  go_upto_region 3 with fail
  have e0 := Cells.new w2 #[.int .u32 167772161, .int .u16 4000] 26
  replace e0 := Cells.below (fresh_below (w2.alloc (.cells #[.int .u32 167772161, .int .u16 4000] 26)) (.cells #[.int .u32 167772162, .int .u16 8000] 26)) e0
  have e1 := Cells.new (w2.alloc (.cells #[.int .u32 167772161, .int .u16 4000] 26)) #[.int .u32 167772162, .int .u16 8000] 26
  replace e0 := Cells.below (fresh_below ((w2.alloc (.cells #[.int .u32 167772161, .int .u16 4000] 26)).alloc (.cells #[.int .u32 167772162, .int .u16 8000] 26)) (.cells #[.int .u32 134744072, .int .u16 53] 26)) e0
  replace e1 := Cells.below (fresh_below ((w2.alloc (.cells #[.int .u32 167772161, .int .u16 4000] 26)).alloc (.cells #[.int .u32 167772162, .int .u16 8000] 26)) (.cells #[.int .u32 134744072, .int .u16 53] 26)) e1
  have e2 := Cells.new ((w2.alloc (.cells #[.int .u32 167772161, .int .u16 4000] 26)).alloc (.cells #[.int .u32 167772162, .int .u16 8000] 26)) #[.int .u32 134744072, .int .u16 53] 26
  replace e0 := Cells.below (fresh_below (((w2.alloc (.cells #[.int .u32 167772161, .int .u16 4000] 26)).alloc (.cells #[.int .u32 167772162, .int .u16 8000] 26)).alloc (.cells #[.int .u32 134744072, .int .u16 53] 26)) (.cells #[.int .u32 151587081, .int .u16 80] 26)) e0
  replace e1 := Cells.below (fresh_below (((w2.alloc (.cells #[.int .u32 167772161, .int .u16 4000] 26)).alloc (.cells #[.int .u32 167772162, .int .u16 8000] 26)).alloc (.cells #[.int .u32 134744072, .int .u16 53] 26)) (.cells #[.int .u32 151587081, .int .u16 80] 26)) e1
  replace e2 := Cells.below (fresh_below (((w2.alloc (.cells #[.int .u32 167772161, .int .u16 4000] 26)).alloc (.cells #[.int .u32 167772162, .int .u16 8000] 26)).alloc (.cells #[.int .u32 134744072, .int .u16 53] 26)) (.cells #[.int .u32 151587081, .int .u16 80] 26)) e2
  have e3 := Cells.new (((w2.alloc (.cells #[.int .u32 167772161, .int .u16 4000] 26)).alloc (.cells #[.int .u32 167772162, .int .u16 8000] 26)).alloc (.cells #[.int .u32 134744072, .int .u16 53] 26)) #[.int .u32 151587081, .int .u16 80] 26
  replace e0 := Cells.below (fresh_below ((((w2.alloc (.cells #[.int .u32 167772161, .int .u16 4000] 26)).alloc (.cells #[.int .u32 167772162, .int .u16 8000] 26)).alloc (.cells #[.int .u32 134744072, .int .u16 53] 26)).alloc (.cells #[.int .u32 151587081, .int .u16 80] 26)) (.cells #[.int .u32 151587081, .int .u16 1000] 26)) e0
  replace e1 := Cells.below (fresh_below ((((w2.alloc (.cells #[.int .u32 167772161, .int .u16 4000] 26)).alloc (.cells #[.int .u32 167772162, .int .u16 8000] 26)).alloc (.cells #[.int .u32 134744072, .int .u16 53] 26)).alloc (.cells #[.int .u32 151587081, .int .u16 80] 26)) (.cells #[.int .u32 151587081, .int .u16 1000] 26)) e1
  replace e2 := Cells.below (fresh_below ((((w2.alloc (.cells #[.int .u32 167772161, .int .u16 4000] 26)).alloc (.cells #[.int .u32 167772162, .int .u16 8000] 26)).alloc (.cells #[.int .u32 134744072, .int .u16 53] 26)).alloc (.cells #[.int .u32 151587081, .int .u16 80] 26)) (.cells #[.int .u32 151587081, .int .u16 1000] 26)) e2
  replace e3 := Cells.below (fresh_below ((((w2.alloc (.cells #[.int .u32 167772161, .int .u16 4000] 26)).alloc (.cells #[.int .u32 167772162, .int .u16 8000] 26)).alloc (.cells #[.int .u32 134744072, .int .u16 53] 26)).alloc (.cells #[.int .u32 151587081, .int .u16 80] 26)) (.cells #[.int .u32 151587081, .int .u16 1000] 26)) e3
  have e4 := Cells.new ((((w2.alloc (.cells #[.int .u32 167772161, .int .u16 4000] 26)).alloc (.cells #[.int .u32 167772162, .int .u16 8000] 26)).alloc (.cells #[.int .u32 134744072, .int .u16 53] 26)).alloc (.cells #[.int .u32 151587081, .int .u16 80] 26)) #[.int .u32 151587081, .int .u16 1000] 26
  have bn : Below w2.heap.size w2 (((((w2.alloc (.cells #[.int .u32 167772161, .int .u16 4000] 26)).alloc (.cells #[.int .u32 167772162, .int .u16 8000] 26)).alloc (.cells #[.int .u32 134744072, .int .u16 53] 26)).alloc (.cells #[.int .u32 151587081, .int .u16 80] 26)).alloc (.cells #[.int .u32 151587081, .int .u16 1000] 26)) := bstep (bstep (bstep (bstep (fresh_below _ _) (fresh_below _ _)) (fresh_below _ _)) (fresh_below _ _)) (fresh_below _ _)
  simp only [World.size_alloc] at e1 e2 e3 e4
  replace TS0 := hide (TS.b bn TS0.out); replace HL := hide (HL.out.below bn); replace L := hide (bstep L.out bn)
  clear bn
  generalize (((((w2.alloc (.cells #[.int .u32 167772161, .int .u16 4000] 26)).alloc (.cells #[.int .u32 167772162, .int .u16 8000] 26)).alloc (.cells #[.int .u32 134744072, .int .u16 53] 26)).alloc (.cells #[.int .u32 151587081, .int .u16 80] 26)).alloc (.cells #[.int .u32 151587081, .int .u16 1000] 26)) = w3 at *
  have E0 := hide e0
  have E1 := hide e1
  have E2 := hide e2
  have E3 := hide e3
  have E4 := hide e4
  clear e0 e1 e2 e3 e4
  have fa := E0.out; have fb := E2.out
  have xfa_0 : w3.cell? ⟨w2.heap.size, 0, none⟩ = some (.int .u32 167772161) := fa.at_ 0
  have xfa_1 : w3.cell? ⟨w2.heap.size, 1, none⟩ = some (.int .u16 4000) := fa.at_ 1
  have xfb_0 : w3.cell? ⟨w2.heap.size + 1 + 1, 0, none⟩ = some (.int .u32 134744072) := fb.at_ 0
  have xfb_1 : w3.cell? ⟨w2.heap.size + 1 + 1, 1, none⟩ = some (.int .u16 53) := fb.at_ 1
  clear fa fb
  go_upto_region 4 with (first | (go_at_call 14; (with_reducible refine (l_datagram _ _ _ _ _).mono ?_); rintro e wd ⟨rfl, bd⟩) | (go_at_call 13; (refine (ca_a _ B v0 (TS0.out.below bd) (HL.out.below bd)).mono ?_); rintro e wo ⟨A_a, c_a, rfl, ov, bo⟩))
  clear xfa_0 xfa_1 xfb_0 xfb_1
  have nn := Cells.new wo #[.int .u8 17, .int .u32 167772161, .int .u16 4000, .int .u32 134744072, .int .u16 53, .int .u32 134744072, .int .u16 53, .bool true, .int .i64 1, .slice A_a 1 c_a] 31
  have bn : Below w3.heap.size w3 (wo.alloc (.cells #[.int .u8 17, .int .u32 167772161, .int .u16 4000, .int .u32 134744072, .int .u16 53, .int .u32 134744072, .int .u16 53, .bool true, .int .i64 1, .slice A_a 1 c_a] 31)) := bstep (bstep bd bo) (fresh_below _ _)
  replace ov := RowK.Own.below ov (fresh_below wo (.cells #[.int .u8 17, .int .u32 167772161, .int .u16 4000, .int .u32 134744072, .int .u16 53, .int .u32 134744072, .int .u16 53, .bool true, .int .i64 1, .slice A_a 1 c_a] 31))
  replace TS0 := hide (TS.b bn TS0.out); replace HL := hide (HL.out.below bn); replace L := hide (bstep L.out bn)
  replace E0 := hide (Cells.below bn E0.out)
  replace E1 := hide (Cells.below bn E1.out)
  replace E2 := hide (Cells.below bn E2.out)
  replace E3 := hide (Cells.below bn E3.out)
  replace E4 := hide (Cells.below bn E4.out)
  clear bn bd bo
  generalize wo.heap.size = p_a at nn ⊢
  generalize (wo.alloc (.cells #[.int .u8 17, .int .u32 167772161, .int .u16 4000, .int .u32 134744072, .int .u16 53, .int .u32 134744072, .int .u16 53, .bool true, .int .i64 1, .slice A_a 1 c_a] 31)) = u0 at *
  have D_a := hide nn; have O_a := hide ov
  clear nn ov
  have fa := E1.out; have fb := E2.out
  have xfa_0 : u0.cell? ⟨w2.heap.size + 1, 0, none⟩ = some (.int .u32 167772162) := fa.at_ 0
  have xfa_1 : u0.cell? ⟨w2.heap.size + 1, 1, none⟩ = some (.int .u16 8000) := fa.at_ 1
  have xfb_0 : u0.cell? ⟨w2.heap.size + 1 + 1, 0, none⟩ = some (.int .u32 134744072) := fb.at_ 0
  have xfb_1 : u0.cell? ⟨w2.heap.size + 1 + 1, 1, none⟩ = some (.int .u16 53) := fb.at_ 1
  clear fa fb
  go_upto_region 5 with (first | (go_at_call 14; (with_reducible refine (l_datagram _ _ _ _ _).mono ?_); rintro e wd ⟨rfl, bd⟩) | (go_at_call 13; (refine (ca_b _ B v0 (TS0.out.below bd) (HL.out.below bd)).mono ?_); rintro e wo ⟨A_b, c_b, rfl, ov, bo⟩))
  clear xfa_0 xfa_1 xfb_0 xfb_1
  have nn := Cells.new wo #[.int .u8 17, .int .u32 167772162, .int .u16 8000, .int .u32 134744072, .int .u16 53, .int .u32 134744072, .int .u16 53, .bool true, .int .i64 1, .slice A_b 1 c_b] 31
  have bn : Below u0.heap.size u0 (wo.alloc (.cells #[.int .u8 17, .int .u32 167772162, .int .u16 8000, .int .u32 134744072, .int .u16 53, .int .u32 134744072, .int .u16 53, .bool true, .int .i64 1, .slice A_b 1 c_b] 31)) := bstep (bstep bd bo) (fresh_below _ _)
  replace ov := RowK.Own.below ov (fresh_below wo (.cells #[.int .u8 17, .int .u32 167772162, .int .u16 8000, .int .u32 134744072, .int .u16 53, .int .u32 134744072, .int .u16 53, .bool true, .int .i64 1, .slice A_b 1 c_b] 31))
  replace TS0 := hide (TS.b bn TS0.out); replace HL := hide (HL.out.below bn); replace L := hide (bstep L.out bn)
  replace E0 := hide (Cells.below bn E0.out)
  replace E1 := hide (Cells.below bn E1.out)
  replace E2 := hide (Cells.below bn E2.out)
  replace E3 := hide (Cells.below bn E3.out)
  replace E4 := hide (Cells.below bn E4.out)
  replace D_a := hide (Cells.below bn D_a.out)
  replace O_a := hide (RowK.Own.below O_a.out bn)
  clear bn bd bo
  generalize wo.heap.size = p_b at nn ⊢
  generalize (wo.alloc (.cells #[.int .u8 17, .int .u32 167772162, .int .u16 8000, .int .u32 134744072, .int .u16 53, .int .u32 134744072, .int .u16 53, .bool true, .int .i64 1, .slice A_b 1 c_b] 31)) = u1 at *
  have D_b := hide nn; have O_b := hide ov
  clear nn ov
  have fa := E2.out; have fb := E3.out
  have xfa_0 : u1.cell? ⟨w2.heap.size + 1 + 1, 0, none⟩ = some (.int .u32 134744072) := fa.at_ 0
  have xfa_1 : u1.cell? ⟨w2.heap.size + 1 + 1, 1, none⟩ = some (.int .u16 53) := fa.at_ 1
  have xfb_0 : u1.cell? ⟨w2.heap.size + 1 + 1 + 1, 0, none⟩ = some (.int .u32 151587081) := fb.at_ 0
  have xfb_1 : u1.cell? ⟨w2.heap.size + 1 + 1 + 1, 1, none⟩ = some (.int .u16 80) := fb.at_ 1
  clear fa fb
  go_upto_region 6 with (first | (go_at_call 14; (with_reducible refine (l_datagram _ _ _ _ _).mono ?_); rintro e wd ⟨rfl, bd⟩) | (go_at_call 13; (refine (ca_c _ B v0 (TS0.out.below bd) (HL.out.below bd)).mono ?_); rintro e wo ⟨A_c, c_c, rfl, ov, bo⟩))
  clear xfa_0 xfa_1 xfb_0 xfb_1
  have nn := Cells.new wo #[.int .u8 17, .int .u32 134744072, .int .u16 53, .int .u32 151587081, .int .u16 80, .int .u32 167772162, .int .u16 8000, .bool false, .int .i64 1, .slice A_c 1 c_c] 31
  have bn : Below u1.heap.size u1 (wo.alloc (.cells #[.int .u8 17, .int .u32 134744072, .int .u16 53, .int .u32 151587081, .int .u16 80, .int .u32 167772162, .int .u16 8000, .bool false, .int .i64 1, .slice A_c 1 c_c] 31)) := bstep (bstep bd bo) (fresh_below _ _)
  replace ov := RowK.Own.below ov (fresh_below wo (.cells #[.int .u8 17, .int .u32 134744072, .int .u16 53, .int .u32 151587081, .int .u16 80, .int .u32 167772162, .int .u16 8000, .bool false, .int .i64 1, .slice A_c 1 c_c] 31))
  replace TS0 := hide (TS.b bn TS0.out); replace HL := hide (HL.out.below bn); replace L := hide (bstep L.out bn)
  replace E0 := hide (Cells.below bn E0.out)
  replace E1 := hide (Cells.below bn E1.out)
  replace E2 := hide (Cells.below bn E2.out)
  replace E3 := hide (Cells.below bn E3.out)
  replace E4 := hide (Cells.below bn E4.out)
  replace D_a := hide (Cells.below bn D_a.out)
  replace D_b := hide (Cells.below bn D_b.out)
  replace O_a := hide (RowK.Own.below O_a.out bn)
  replace O_b := hide (RowK.Own.below O_b.out bn)
  clear bn bd bo
  generalize wo.heap.size = p_c at nn ⊢
  generalize (wo.alloc (.cells #[.int .u8 17, .int .u32 134744072, .int .u16 53, .int .u32 151587081, .int .u16 80, .int .u32 167772162, .int .u16 8000, .bool false, .int .i64 1, .slice A_c 1 c_c] 31)) = u2 at *
  have D_c := hide nn; have O_c := hide ov
  clear nn ov
  have fa := E0.out; have fb := E3.out
  have xfa_0 : u2.cell? ⟨w2.heap.size, 0, none⟩ = some (.int .u32 167772161) := fa.at_ 0
  have xfa_1 : u2.cell? ⟨w2.heap.size, 1, none⟩ = some (.int .u16 4000) := fa.at_ 1
  have xfb_0 : u2.cell? ⟨w2.heap.size + 1 + 1 + 1, 0, none⟩ = some (.int .u32 151587081) := fb.at_ 0
  have xfb_1 : u2.cell? ⟨w2.heap.size + 1 + 1 + 1, 1, none⟩ = some (.int .u16 80) := fb.at_ 1
  clear fa fb
  go_upto_region 7 with (first | (go_at_call 14; (with_reducible refine (l_datagram _ _ _ _ _).mono ?_); rintro e wd ⟨rfl, bd⟩) | (go_at_call 13; (refine (ca_d _ B v0 (TS0.out.below bd) (HL.out.below bd)).mono ?_); rintro e wo ⟨A_d, c_d, rfl, ov, bo⟩))
  clear xfa_0 xfa_1 xfb_0 xfb_1
  have nn := Cells.new wo #[.int .u8 17, .int .u32 167772161, .int .u16 4000, .int .u32 151587081, .int .u16 80, .int .u32 167772162, .int .u16 8000, .bool true, .int .i64 1, .slice A_d 2 c_d] 31
  have bn : Below u2.heap.size u2 (wo.alloc (.cells #[.int .u8 17, .int .u32 167772161, .int .u16 4000, .int .u32 151587081, .int .u16 80, .int .u32 167772162, .int .u16 8000, .bool true, .int .i64 1, .slice A_d 2 c_d] 31)) := bstep (bstep bd bo) (fresh_below _ _)
  replace ov := RowK.Own.below ov (fresh_below wo (.cells #[.int .u8 17, .int .u32 167772161, .int .u16 4000, .int .u32 151587081, .int .u16 80, .int .u32 167772162, .int .u16 8000, .bool true, .int .i64 1, .slice A_d 2 c_d] 31))
  replace TS0 := hide (TS.b bn TS0.out); replace HL := hide (HL.out.below bn); replace L := hide (bstep L.out bn)
  replace E0 := hide (Cells.below bn E0.out)
  replace E1 := hide (Cells.below bn E1.out)
  replace E2 := hide (Cells.below bn E2.out)
  replace E3 := hide (Cells.below bn E3.out)
  replace E4 := hide (Cells.below bn E4.out)
  replace D_a := hide (Cells.below bn D_a.out)
  replace D_b := hide (Cells.below bn D_b.out)
  replace D_c := hide (Cells.below bn D_c.out)
  replace O_a := hide (RowK.Own.below O_a.out bn)
  replace O_b := hide (RowK.Own.below O_b.out bn)
  replace O_c := hide (RowK.Own.below O_c.out bn)
  clear bn bd bo
  generalize wo.heap.size = p_d at nn ⊢
  generalize (wo.alloc (.cells #[.int .u8 17, .int .u32 167772161, .int .u16 4000, .int .u32 151587081, .int .u16 80, .int .u32 167772162, .int .u16 8000, .bool true, .int .i64 1, .slice A_d 2 c_d] 31)) = u3 at *
  have D_d := hide nn; have O_d := hide ov
  clear nn ov
  have fa := E1.out; have fb := E3.out
  have xfa_0 : u3.cell? ⟨w2.heap.size + 1, 0, none⟩ = some (.int .u32 167772162) := fa.at_ 0
  have xfa_1 : u3.cell? ⟨w2.heap.size + 1, 1, none⟩ = some (.int .u16 8000) := fa.at_ 1
  have xfb_0 : u3.cell? ⟨w2.heap.size + 1 + 1 + 1, 0, none⟩ = some (.int .u32 151587081) := fb.at_ 0
  have xfb_1 : u3.cell? ⟨w2.heap.size + 1 + 1 + 1, 1, none⟩ = some (.int .u16 80) := fb.at_ 1
  clear fa fb
  go_upto_region 8 with (first | (go_at_call 14; (with_reducible refine (l_datagram _ _ _ _ _).mono ?_); rintro e wd ⟨rfl, bd⟩) | (go_at_call 13; (refine (ca_i _ B v0 (TS0.out.below bd) (HL.out.below bd)).mono ?_); rintro e wo ⟨A_i, c_i, rfl, ov, bo⟩))
  clear xfa_0 xfa_1 xfb_0 xfb_1
  have nn := Cells.new wo #[.int .u8 0, .int .u32 0, .int .u16 0, .int .u32 0, .int .u16 0, .int .u32 0, .int .u16 0, .bool false, .int .i64 0, .slice A_i 0 c_i] 31
  have bn : Below u3.heap.size u3 (wo.alloc (.cells #[.int .u8 0, .int .u32 0, .int .u16 0, .int .u32 0, .int .u16 0, .int .u32 0, .int .u16 0, .bool false, .int .i64 0, .slice A_i 0 c_i] 31)) := bstep (bstep bd bo) (fresh_below _ _)
  replace ov := RowK.Own.below ov (fresh_below wo (.cells #[.int .u8 0, .int .u32 0, .int .u16 0, .int .u32 0, .int .u16 0, .int .u32 0, .int .u16 0, .bool false, .int .i64 0, .slice A_i 0 c_i] 31))
  replace TS0 := hide (TS.b bn TS0.out); replace HL := hide (HL.out.below bn); replace L := hide (bstep L.out bn)
  replace E0 := hide (Cells.below bn E0.out)
  replace E1 := hide (Cells.below bn E1.out)
  replace E2 := hide (Cells.below bn E2.out)
  replace E3 := hide (Cells.below bn E3.out)
  replace E4 := hide (Cells.below bn E4.out)
  replace D_a := hide (Cells.below bn D_a.out)
  replace D_b := hide (Cells.below bn D_b.out)
  replace D_c := hide (Cells.below bn D_c.out)
  replace D_d := hide (Cells.below bn D_d.out)
  replace O_a := hide (RowK.Own.below O_a.out bn)
  replace O_b := hide (RowK.Own.below O_b.out bn)
  replace O_c := hide (RowK.Own.below O_c.out bn)
  replace O_d := hide (RowK.Own.below O_d.out bn)
  clear bn bd bo
  generalize wo.heap.size = p_i at nn ⊢
  generalize (wo.alloc (.cells #[.int .u8 0, .int .u32 0, .int .u16 0, .int .u32 0, .int .u16 0, .int .u32 0, .int .u16 0, .bool false, .int .i64 0, .slice A_i 0 c_i] 31)) = u4 at *
  have D_i := hide nn; have O_i := hide ov
  clear nn ov
  have fa := E0.out; have fb := E1.out
  have xfa_0 : u4.cell? ⟨w2.heap.size, 0, none⟩ = some (.int .u32 167772161) := fa.at_ 0
  have xfa_1 : u4.cell? ⟨w2.heap.size, 1, none⟩ = some (.int .u16 4000) := fa.at_ 1
  have xfb_0 : u4.cell? ⟨w2.heap.size + 1, 0, none⟩ = some (.int .u32 167772162) := fb.at_ 0
  have xfb_1 : u4.cell? ⟨w2.heap.size + 1, 1, none⟩ = some (.int .u16 8000) := fb.at_ 1
  clear fa fb
  go_upto_region 9 with (first | (go_at_call 14; (with_reducible refine (l_datagram _ _ _ _ _).mono ?_); rintro e wd ⟨rfl, bd⟩) | (go_at_call 13; (refine (ca_j _ B v0 (TS0.out.below bd) (HL.out.below bd)).mono ?_); rintro e wo ⟨A_j, c_j, rfl, ov, bo⟩))
  clear xfa_0 xfa_1 xfb_0 xfb_1
  have nn := Cells.new wo #[.int .u8 0, .int .u32 0, .int .u16 0, .int .u32 0, .int .u16 0, .int .u32 0, .int .u16 0, .bool false, .int .i64 0, .slice A_j 0 c_j] 31
  have bn : Below u4.heap.size u4 (wo.alloc (.cells #[.int .u8 0, .int .u32 0, .int .u16 0, .int .u32 0, .int .u16 0, .int .u32 0, .int .u16 0, .bool false, .int .i64 0, .slice A_j 0 c_j] 31)) := bstep (bstep bd bo) (fresh_below _ _)
  replace ov := RowK.Own.below ov (fresh_below wo (.cells #[.int .u8 0, .int .u32 0, .int .u16 0, .int .u32 0, .int .u16 0, .int .u32 0, .int .u16 0, .bool false, .int .i64 0, .slice A_j 0 c_j] 31))
  replace TS0 := hide (TS.b bn TS0.out); replace HL := hide (HL.out.below bn); replace L := hide (bstep L.out bn)
  replace E0 := hide (Cells.below bn E0.out)
  replace E1 := hide (Cells.below bn E1.out)
  replace E2 := hide (Cells.below bn E2.out)
  replace E3 := hide (Cells.below bn E3.out)
  replace E4 := hide (Cells.below bn E4.out)
  replace D_a := hide (Cells.below bn D_a.out)
  replace D_b := hide (Cells.below bn D_b.out)
  replace D_c := hide (Cells.below bn D_c.out)
  replace D_d := hide (Cells.below bn D_d.out)
  replace D_i := hide (Cells.below bn D_i.out)
  replace O_a := hide (RowK.Own.below O_a.out bn)
  replace O_b := hide (RowK.Own.below O_b.out bn)
  replace O_c := hide (RowK.Own.below O_c.out bn)
  replace O_d := hide (RowK.Own.below O_d.out bn)
  replace O_i := hide (RowK.Own.below O_i.out bn)
  clear bn bd bo
  generalize wo.heap.size = p_j at nn ⊢
  generalize (wo.alloc (.cells #[.int .u8 0, .int .u32 0, .int .u16 0, .int .u32 0, .int .u16 0, .int .u32 0, .int .u16 0, .bool false, .int .i64 0, .slice A_j 0 c_j] 31)) = u5 at *
  have D_j := hide nn; have O_j := hide ov
  clear nn ov
  have fa := E2.out; have fb := E4.out
  have xfa_0 : u5.cell? ⟨w2.heap.size + 1 + 1, 0, none⟩ = some (.int .u32 134744072) := fa.at_ 0
  have xfa_1 : u5.cell? ⟨w2.heap.size + 1 + 1, 1, none⟩ = some (.int .u16 53) := fa.at_ 1
  have xfb_0 : u5.cell? ⟨w2.heap.size + 1 + 1 + 1 + 1, 0, none⟩ = some (.int .u32 151587081) := fb.at_ 0
  have xfb_1 : u5.cell? ⟨w2.heap.size + 1 + 1 + 1 + 1, 1, none⟩ = some (.int .u16 1000) := fb.at_ 1
  clear fa fb
  go_upto_region 10 with (first | (go_at_call 14; (with_reducible refine (l_datagram _ _ _ _ _).mono ?_); rintro e wd ⟨rfl, bd⟩) | (go_at_call 13; (refine (ca_k _ B v0 (TS0.out.below bd) (HL.out.below bd)).mono ?_); rintro e wo ⟨A_k, c_k, rfl, ov, bo⟩))
  clear xfa_0 xfa_1 xfb_0 xfb_1
  have nn := Cells.new wo #[.int .u8 0, .int .u32 0, .int .u16 0, .int .u32 0, .int .u16 0, .int .u32 0, .int .u16 0, .bool false, .int .i64 0, .slice A_k 0 c_k] 31
  have bn : Below u5.heap.size u5 (wo.alloc (.cells #[.int .u8 0, .int .u32 0, .int .u16 0, .int .u32 0, .int .u16 0, .int .u32 0, .int .u16 0, .bool false, .int .i64 0, .slice A_k 0 c_k] 31)) := bstep (bstep bd bo) (fresh_below _ _)
  replace ov := RowK.Own.below ov (fresh_below wo (.cells #[.int .u8 0, .int .u32 0, .int .u16 0, .int .u32 0, .int .u16 0, .int .u32 0, .int .u16 0, .bool false, .int .i64 0, .slice A_k 0 c_k] 31))
  replace TS0 := hide (TS.b bn TS0.out); replace HL := hide (HL.out.below bn); replace L := hide (bstep L.out bn)
  replace E0 := hide (Cells.below bn E0.out)
  replace E1 := hide (Cells.below bn E1.out)
  replace E2 := hide (Cells.below bn E2.out)
  replace E3 := hide (Cells.below bn E3.out)
  replace E4 := hide (Cells.below bn E4.out)
  replace D_a := hide (Cells.below bn D_a.out)
  replace D_b := hide (Cells.below bn D_b.out)
  replace D_c := hide (Cells.below bn D_c.out)
  replace D_d := hide (Cells.below bn D_d.out)
  replace D_i := hide (Cells.below bn D_i.out)
  replace D_j := hide (Cells.below bn D_j.out)
  replace O_a := hide (RowK.Own.below O_a.out bn)
  replace O_b := hide (RowK.Own.below O_b.out bn)
  replace O_c := hide (RowK.Own.below O_c.out bn)
  replace O_d := hide (RowK.Own.below O_d.out bn)
  replace O_i := hide (RowK.Own.below O_i.out bn)
  replace O_j := hide (RowK.Own.below O_j.out bn)
  clear bn bd bo
  generalize wo.heap.size = p_k at nn ⊢
  generalize (wo.alloc (.cells #[.int .u8 0, .int .u32 0, .int .u16 0, .int .u32 0, .int .u16 0, .int .u32 0, .int .u16 0, .bool false, .int .i64 0, .slice A_k 0 c_k] 31)) = u6 at *
  have D_k := hide nn; have O_k := hide ov
  clear nn ov
  have fd := D_a.out
  have xa9 : u6.cell? ⟨p_a, 9, none⟩ = some (.slice A_a 1 c_a) := fd.at_ 9
  clear fd
  have fd := D_b.out
  have xb9 : u6.cell? ⟨p_b, 9, none⟩ = some (.slice A_b 1 c_b) := fd.at_ 9
  clear fd
  have fd := D_c.out
  have xc9 : u6.cell? ⟨p_c, 9, none⟩ = some (.slice A_c 1 c_c) := fd.at_ 9
  clear fd
  have fd := D_d.out
  have xd9 : u6.cell? ⟨p_d, 9, none⟩ = some (.slice A_d 2 c_d) := fd.at_ 9
  clear fd
  go_upto_region 12 with fail
  clear xa9 xb9 xc9 xd9
  obtain ⟨gg_a, _, hA, _⟩ := RowK.Own.cell O_a.out (by decide)
  cases hA
  obtain ⟨gg_b, _, hA, _⟩ := RowK.Own.cell O_b.out (by decide)
  cases hA
  obtain ⟨gg_c, _, hA, _⟩ := RowK.Own.cell O_c.out (by decide)
  cases hA
  obtain ⟨gg_d, _, hA, _⟩ := RowK.Own.cell O_d.out (by decide)
  cases hA
  have qD_a_5 : ∀ W', Below u6.heap.size u6 W' → World.cell? W' ⟨p_a, 5, none⟩ = some (.int .u32 134744072) := fun W' h => (Cells.below h D_a.out).at_ 5
  have qD_a_6 : ∀ W', Below u6.heap.size u6 W' → World.cell? W' ⟨p_a, 6, none⟩ = some (.int .u16 53) := fun W' h => (Cells.below h D_a.out).at_ 6
  have qD_a_7 : ∀ W', Below u6.heap.size u6 W' → World.cell? W' ⟨p_a, 7, none⟩ = some (.bool true) := fun W' h => (Cells.below h D_a.out).at_ 7
  have qD_a_9 : ∀ W', Below u6.heap.size u6 W' → World.cell? W' ⟨p_a, 9, none⟩ = some (.slice (some ⟨gg_a, 0, none⟩) 1 c_a) := fun W' h => (Cells.below h D_a.out).at_ 9
  have qD_b_5 : ∀ W', Below u6.heap.size u6 W' → World.cell? W' ⟨p_b, 5, none⟩ = some (.int .u32 134744072) := fun W' h => (Cells.below h D_b.out).at_ 5
  have qD_b_6 : ∀ W', Below u6.heap.size u6 W' → World.cell? W' ⟨p_b, 6, none⟩ = some (.int .u16 53) := fun W' h => (Cells.below h D_b.out).at_ 6
  have qD_b_7 : ∀ W', Below u6.heap.size u6 W' → World.cell? W' ⟨p_b, 7, none⟩ = some (.bool true) := fun W' h => (Cells.below h D_b.out).at_ 7
  have qD_b_9 : ∀ W', Below u6.heap.size u6 W' → World.cell? W' ⟨p_b, 9, none⟩ = some (.slice (some ⟨gg_b, 0, none⟩) 1 c_b) := fun W' h => (Cells.below h D_b.out).at_ 9
  have qD_c_5 : ∀ W', Below u6.heap.size u6 W' → World.cell? W' ⟨p_c, 5, none⟩ = some (.int .u32 167772162) := fun W' h => (Cells.below h D_c.out).at_ 5
  have qD_c_6 : ∀ W', Below u6.heap.size u6 W' → World.cell? W' ⟨p_c, 6, none⟩ = some (.int .u16 8000) := fun W' h => (Cells.below h D_c.out).at_ 6
  have qD_c_7 : ∀ W', Below u6.heap.size u6 W' → World.cell? W' ⟨p_c, 7, none⟩ = some (.bool false) := fun W' h => (Cells.below h D_c.out).at_ 7
  have qD_c_9 : ∀ W', Below u6.heap.size u6 W' → World.cell? W' ⟨p_c, 9, none⟩ = some (.slice (some ⟨gg_c, 0, none⟩) 1 c_c) := fun W' h => (Cells.below h D_c.out).at_ 9
  have qD_d_5 : ∀ W', Below u6.heap.size u6 W' → World.cell? W' ⟨p_d, 5, none⟩ = some (.int .u32 167772162) := fun W' h => (Cells.below h D_d.out).at_ 5
  have qD_d_6 : ∀ W', Below u6.heap.size u6 W' → World.cell? W' ⟨p_d, 6, none⟩ = some (.int .u16 8000) := fun W' h => (Cells.below h D_d.out).at_ 6
  have qD_d_7 : ∀ W', Below u6.heap.size u6 W' → World.cell? W' ⟨p_d, 7, none⟩ = some (.bool true) := fun W' h => (Cells.below h D_d.out).at_ 7
  have qD_d_9 : ∀ W', Below u6.heap.size u6 W' → World.cell? W' ⟨p_d, 9, none⟩ = some (.slice (some ⟨gg_d, 0, none⟩) 2 c_d) := fun W' h => (Cells.below h D_d.out).at_ 9
  have qE0_0 : ∀ W', Below u6.heap.size u6 W' → World.cell? W' ⟨w2.heap.size, 0, none⟩ = some (.int .u32 167772161) := fun W' h => (Cells.below h E0.out).at_ 0
  have qE0_1 : ∀ W', Below u6.heap.size u6 W' → World.cell? W' ⟨w2.heap.size, 1, none⟩ = some (.int .u16 4000) := fun W' h => (Cells.below h E0.out).at_ 1
  have qE1_0 : ∀ W', Below u6.heap.size u6 W' → World.cell? W' ⟨w2.heap.size + 1, 0, none⟩ = some (.int .u32 167772162) := fun W' h => (Cells.below h E1.out).at_ 0
  have qE1_1 : ∀ W', Below u6.heap.size u6 W' → World.cell? W' ⟨w2.heap.size + 1, 1, none⟩ = some (.int .u16 8000) := fun W' h => (Cells.below h E1.out).at_ 1
  have qE3_0 : ∀ W', Below u6.heap.size u6 W' → World.cell? W' ⟨w2.heap.size + 1 + 1 + 1, 0, none⟩ = some (.int .u32 151587081) := fun W' h => (Cells.below h E3.out).at_ 0
  have qE3_1 : ∀ W', Below u6.heap.size u6 W' → World.cell? W' ⟨w2.heap.size + 1 + 1 + 1, 1, none⟩ = some (.int .u16 80) := fun W' h => (Cells.below h E3.out).at_ 1
  have ra0_0 : ∀ W', Below u6.heap.size u6 W' → World.cell? W' ⟨gg_a, 0, none⟩ = some (.bool false) := fun W' h => by have := RowK.Own.slot (RowK.Own.below O_a.out h) (j := 0) (by decide) rfl (i := 0) (by decide) rfl; simpa [wantK] using this
  have ra0_1 : ∀ W', Below u6.heap.size u6 W' → World.cell? W' ⟨gg_a, 1, none⟩ = some (.int .u32 167772161) := fun W' h => by have := RowK.Own.slot (RowK.Own.below O_a.out h) (j := 0) (by decide) rfl (i := 1) (by decide) rfl; simpa [wantK] using this
  have ra0_2 : ∀ W', Below u6.heap.size u6 W' → World.cell? W' ⟨gg_a, 2, none⟩ = some (.int .u16 4000) := fun W' h => by have := RowK.Own.slot (RowK.Own.below O_a.out h) (j := 0) (by decide) rfl (i := 2) (by decide) rfl; simpa [wantK] using this
  have ra0_3 : ∀ W', Below u6.heap.size u6 W' → World.cell? W' ⟨gg_a, 3, none⟩ = some (.int .u32 0) := fun W' h => by have := RowK.Own.slot (RowK.Own.below O_a.out h) (j := 0) (by decide) rfl (i := 3) (by decide) rfl; simpa [wantK] using this
  have ra0_4 : ∀ W', Below u6.heap.size u6 W' → World.cell? W' ⟨gg_a, 4, none⟩ = some (.int .u16 0) := fun W' h => by have := RowK.Own.slot (RowK.Own.below O_a.out h) (j := 0) (by decide) rfl (i := 4) (by decide) rfl; simpa [wantK] using this
  have ra0_5 : ∀ W', Below u6.heap.size u6 W' → World.cell? W' ⟨gg_a, 5, none⟩ = some (.int .u32 151587081) := fun W' h => by have := RowK.Own.slot (RowK.Own.below O_a.out h) (j := 0) (by decide) rfl (i := 5) (by decide) rfl; simpa [wantK] using this
  have ra0_6 : ∀ W', Below u6.heap.size u6 W' → World.cell? W' ⟨gg_a, 6, none⟩ = some (.int .u16 1000) := fun W' h => by have := RowK.Own.slot (RowK.Own.below O_a.out h) (j := 0) (by decide) rfl (i := 6) (by decide) rfl; simpa [wantK] using this
  have ra0_7 : ∀ W', Below u6.heap.size u6 W' → World.cell? W' ⟨gg_a, 7, none⟩ = some (.int .u16 1007) := fun W' h => by have := RowK.Own.slot (RowK.Own.below O_a.out h) (j := 0) (by decide) rfl (i := 7) (by decide) rfl; simpa [wantK] using this
  have rb0_0 : ∀ W', Below u6.heap.size u6 W' → World.cell? W' ⟨gg_b, 0, none⟩ = some (.bool true) := fun W' h => by have := RowK.Own.slot (RowK.Own.below O_b.out h) (j := 0) (by decide) rfl (i := 0) (by decide) rfl; simpa [wantK] using this
  have rb0_1 : ∀ W', Below u6.heap.size u6 W' → World.cell? W' ⟨gg_b, 1, none⟩ = some (.int .u32 167772162) := fun W' h => by have := RowK.Own.slot (RowK.Own.below O_b.out h) (j := 0) (by decide) rfl (i := 1) (by decide) rfl; simpa [wantK] using this
  have rb0_2 : ∀ W', Below u6.heap.size u6 W' → World.cell? W' ⟨gg_b, 2, none⟩ = some (.int .u16 8000) := fun W' h => by have := RowK.Own.slot (RowK.Own.below O_b.out h) (j := 0) (by decide) rfl (i := 2) (by decide) rfl; simpa [wantK] using this
  have rb0_3 : ∀ W', Below u6.heap.size u6 W' → World.cell? W' ⟨gg_b, 3, none⟩ = some (.int .u32 151587081) := fun W' h => by have := RowK.Own.slot (RowK.Own.below O_b.out h) (j := 0) (by decide) rfl (i := 3) (by decide) rfl; simpa [wantK] using this
  have rb0_4 : ∀ W', Below u6.heap.size u6 W' → World.cell? W' ⟨gg_b, 4, none⟩ = some (.int .u16 80) := fun W' h => by have := RowK.Own.slot (RowK.Own.below O_b.out h) (j := 0) (by decide) rfl (i := 4) (by decide) rfl; simpa [wantK] using this
  have rb0_5 : ∀ W', Below u6.heap.size u6 W' → World.cell? W' ⟨gg_b, 5, none⟩ = some (.int .u32 0) := fun W' h => by have := RowK.Own.slot (RowK.Own.below O_b.out h) (j := 0) (by decide) rfl (i := 5) (by decide) rfl; simpa [wantK] using this
  have rb0_6 : ∀ W', Below u6.heap.size u6 W' → World.cell? W' ⟨gg_b, 6, none⟩ = some (.int .u16 0) := fun W' h => by have := RowK.Own.slot (RowK.Own.below O_b.out h) (j := 0) (by decide) rfl (i := 6) (by decide) rfl; simpa [wantK] using this
  have rb0_7 : ∀ W', Below u6.heap.size u6 W' → World.cell? W' ⟨gg_b, 7, none⟩ = some (.int .u16 0) := fun W' h => by have := RowK.Own.slot (RowK.Own.below O_b.out h) (j := 0) (by decide) rfl (i := 7) (by decide) rfl; simpa [wantK] using this
  have rd0_0 : ∀ W', Below u6.heap.size u6 W' → World.cell? W' ⟨gg_d, 0, none⟩ = some (.bool false) := fun W' h => by have := RowK.Own.slot (RowK.Own.below O_d.out h) (j := 0) (by decide) rfl (i := 0) (by decide) rfl; simpa [wantK] using this
  have rd0_1 : ∀ W', Below u6.heap.size u6 W' → World.cell? W' ⟨gg_d, 1, none⟩ = some (.int .u32 167772161) := fun W' h => by have := RowK.Own.slot (RowK.Own.below O_d.out h) (j := 0) (by decide) rfl (i := 1) (by decide) rfl; simpa [wantK] using this
  have rd0_2 : ∀ W', Below u6.heap.size u6 W' → World.cell? W' ⟨gg_d, 2, none⟩ = some (.int .u16 4000) := fun W' h => by have := RowK.Own.slot (RowK.Own.below O_d.out h) (j := 0) (by decide) rfl (i := 2) (by decide) rfl; simpa [wantK] using this
  have rd0_3 : ∀ W', Below u6.heap.size u6 W' → World.cell? W' ⟨gg_d, 3, none⟩ = some (.int .u32 0) := fun W' h => by have := RowK.Own.slot (RowK.Own.below O_d.out h) (j := 0) (by decide) rfl (i := 3) (by decide) rfl; simpa [wantK] using this
  have rd0_4 : ∀ W', Below u6.heap.size u6 W' → World.cell? W' ⟨gg_d, 4, none⟩ = some (.int .u16 0) := fun W' h => by have := RowK.Own.slot (RowK.Own.below O_d.out h) (j := 0) (by decide) rfl (i := 4) (by decide) rfl; simpa [wantK] using this
  have rd0_5 : ∀ W', Below u6.heap.size u6 W' → World.cell? W' ⟨gg_d, 5, none⟩ = some (.int .u32 151587081) := fun W' h => by have := RowK.Own.slot (RowK.Own.below O_d.out h) (j := 0) (by decide) rfl (i := 5) (by decide) rfl; simpa [wantK] using this
  have rd0_6 : ∀ W', Below u6.heap.size u6 W' → World.cell? W' ⟨gg_d, 6, none⟩ = some (.int .u16 1000) := fun W' h => by have := RowK.Own.slot (RowK.Own.below O_d.out h) (j := 0) (by decide) rfl (i := 6) (by decide) rfl; simpa [wantK] using this
  have rd0_7 : ∀ W', Below u6.heap.size u6 W' → World.cell? W' ⟨gg_d, 7, none⟩ = some (.int .u16 1007) := fun W' h => by have := RowK.Own.slot (RowK.Own.below O_d.out h) (j := 0) (by decide) rfl (i := 7) (by decide) rfl; simpa [wantK] using this
  have rd1_0 : ∀ W', Below u6.heap.size u6 W' → World.cell? W' ⟨gg_d, 8, none⟩ = some (.bool true) := fun W' h => by have := RowK.Own.slot (RowK.Own.below O_d.out h) (j := 1) (by decide) rfl (i := 0) (by decide) rfl; simpa [wantK] using this
  have rd1_1 : ∀ W', Below u6.heap.size u6 W' → World.cell? W' ⟨gg_d, 9, none⟩ = some (.int .u32 167772162) := fun W' h => by have := RowK.Own.slot (RowK.Own.below O_d.out h) (j := 1) (by decide) rfl (i := 1) (by decide) rfl; simpa [wantK] using this
  have rd1_2 : ∀ W', Below u6.heap.size u6 W' → World.cell? W' ⟨gg_d, 10, none⟩ = some (.int .u16 8000) := fun W' h => by have := RowK.Own.slot (RowK.Own.below O_d.out h) (j := 1) (by decide) rfl (i := 2) (by decide) rfl; simpa [wantK] using this
  have rd1_3 : ∀ W', Below u6.heap.size u6 W' → World.cell? W' ⟨gg_d, 11, none⟩ = some (.int .u32 151587081) := fun W' h => by have := RowK.Own.slot (RowK.Own.below O_d.out h) (j := 1) (by decide) rfl (i := 3) (by decide) rfl; simpa [wantK] using this
  have rd1_4 : ∀ W', Below u6.heap.size u6 W' → World.cell? W' ⟨gg_d, 12, none⟩ = some (.int .u16 80) := fun W' h => by have := RowK.Own.slot (RowK.Own.below O_d.out h) (j := 1) (by decide) rfl (i := 4) (by decide) rfl; simpa [wantK] using this
  have rd1_5 : ∀ W', Below u6.heap.size u6 W' → World.cell? W' ⟨gg_d, 13, none⟩ = some (.int .u32 0) := fun W' h => by have := RowK.Own.slot (RowK.Own.below O_d.out h) (j := 1) (by decide) rfl (i := 5) (by decide) rfl; simpa [wantK] using this
  have rd1_6 : ∀ W', Below u6.heap.size u6 W' → World.cell? W' ⟨gg_d, 14, none⟩ = some (.int .u16 0) := fun W' h => by have := RowK.Own.slot (RowK.Own.below O_d.out h) (j := 1) (by decide) rfl (i := 6) (by decide) rfl; simpa [wantK] using this
  have rd1_7 : ∀ W', Below u6.heap.size u6 W' → World.cell? W' ⟨gg_d, 15, none⟩ = some (.int .u16 0) := fun W' h => by have := RowK.Own.slot (RowK.Own.below O_d.out h) (j := 1) (by decide) rfl (i := 7) (by decide) rfl; simpa [wantK] using this
  have bb : Below u6.heap.size u6 u6 := Below.refl _ _
  clear D_a D_b D_c D_d D_i D_j D_k O_a O_b O_c O_d O_i O_j O_k E0 E1 E2 E3 E4 TS0 HL
  focus
    refine wp_region_J [] (fun W => Below u6.heap.size u6 W) (by kernel_rfl) (bb.drew) (fun hS0 => ?_)
    obtain ⟨hG, hsel⟩ := okOps (md := .any) (ops := #[{ dst := some 127 , op := Go.Op.fieldAddr 31 ( Go.Operand.tmp 7 ) 2 , type := 0 , pos := "outright.go:42" , after := #[ ] , guard := none }, { dst := some 128 , op := Go.Op.load 4 ( Go.Operand.tmp 127 ) , type := 4 , pos := "outright.go:42" , after := #[ { on := 0 , ground := Go.Ground.data } ] , guard := none }, { dst := some 129 , op := Go.Op.move ( Go.Operand.tmp 128 ) , type := 4 , pos := "outright.go:42" , after := #[ { on := 1 , ground := Go.Ground.data } ] , guard := none }, { dst := some 130 , op := Go.Op.fieldAddr 31 ( Go.Operand.tmp 7 ) 4 , type := 0 , pos := "outright.go:42" , after := #[ { on := 2 , ground := Go.Ground.guard } ] , guard := some ( 2 , true ) }, { dst := some 131 , op := Go.Op.load 29 ( Go.Operand.tmp 130 ) , type := 29 , pos := "outright.go:42" , after := #[ { on := 3 , ground := Go.Ground.data } , { on := 2 , ground := Go.Ground.guard } ] , guard := some ( 2 , true ) }, { dst := some 132 , op := Go.Op.indexAddr 29 ( Go.Operand.tmp 131 ) ( Go.Operand.const ( Go.Value.int Go.IntKind.i64 0 ) ) , type := 0 , pos := "outright.go:42" , after := #[ { on := 4 , ground := Go.Ground.data } , { on := 2 , ground := Go.Ground.guard } ] , guard := some ( 2 , true ) }, { dst := some 133 , op := Go.Op.load 40 ( Go.Operand.tmp 132 ) , type := 40 , pos := "outright.go:42" , after := #[ { on := 5 , ground := Go.Ground.data } , { on := 2 , ground := Go.Ground.guard } ] , guard := some ( 2 , true ) }, { dst := some 134 , op := Go.Op.load 26 ( Go.Operand.tmp 2 ) , type := 26 , pos := "outright.go:42" , after := #[ { on := 2 , ground := Go.Ground.guard } ] , guard := some ( 2 , true ) }, { dst := some 135 , op := Go.Op.build 40 #[ ( 1 , Go.Operand.tmp 134 ) , ( 3 , Go.Operand.const ( Go.Value.int Go.IntKind.u32 151587081 ) ) , ( 4 , Go.Operand.const ( Go.Value.int Go.IntKind.u16 1000 ) ) , ( 5 , Go.Operand.const ( Go.Value.int Go.IntKind.u16 1007 ) ) ] , type := 40 , pos := "outright.go:42" , after := #[ { on := 7 , ground := Go.Ground.data } , { on := 2 , ground := Go.Ground.guard } ] , guard := some ( 2 , true ) }, { dst := some 136 , op := Go.Op.binOp Go.BinOp.eql 40 ( Go.Operand.tmp 133 ) ( Go.Operand.tmp 135 ) 40 , type := 4 , pos := "outright.go:42" , after := #[ { on := 6 , ground := Go.Ground.data } , { on := 8 , ground := Go.Ground.data } , { on := 2 , ground := Go.Ground.guard } ] , guard := some ( 2 , true ) }, { dst := some 137 , op := Go.Op.pick ( Go.Operand.tmp 129 ) ( Go.Operand.tmp 136 ) ( Go.Operand.const ( Go.Value.bool false ) ) , type := 4 , pos := "outright.go:42" , after := #[ { on := 2 , ground := Go.Ground.data } , { on := 9 , ground := Go.Ground.data } ] , guard := none }, { dst := some 138 , op := Go.Op.move ( Go.Operand.tmp 137 ) , type := 4 , pos := "outright.go:42" , after := #[ { on := 10 , ground := Go.Ground.data } , { on := 2 , ground := Go.Ground.chain } ] , guard := none }, { dst := some 139 , op := Go.Op.fieldAddr 31 ( Go.Operand.tmp 9 ) 4 , type := 0 , pos := "outright.go:42" , after := #[ { on := 11 , ground := Go.Ground.guard } ] , guard := some ( 11 , true ) }, { dst := some 140 , op := Go.Op.load 29 ( Go.Operand.tmp 139 ) , type := 29 , pos := "outright.go:42" , after := #[ { on := 12 , ground := Go.Ground.data } , { on := 11 , ground := Go.Ground.guard } ] , guard := some ( 11 , true ) }, { dst := some 141 , op := Go.Op.indexAddr 29 ( Go.Operand.tmp 140 ) ( Go.Operand.const ( Go.Value.int Go.IntKind.i64 0 ) ) , type := 0 , pos := "outright.go:42" , after := #[ { on := 13 , ground := Go.Ground.data } , { on := 11 , ground := Go.Ground.guard } ] , guard := some ( 11 , true ) }, { dst := some 142 , op := Go.Op.fieldAddr 40 ( Go.Operand.tmp 141 ) 2 , type := 0 , pos := "outright.go:42" , after := #[ { on := 14 , ground := Go.Ground.data } , { on := 11 , ground := Go.Ground.guard } ] , guard := some ( 11 , true ) }, { dst := some 143 , op := Go.Op.load 26 ( Go.Operand.tmp 142 ) , type := 26 , pos := "outright.go:42" , after := #[ { on := 15 , ground := Go.Ground.data } , { on := 11 , ground := Go.Ground.guard } ] , guard := some ( 11 , true ) }, { dst := some 144 , op := Go.Op.load 26 ( Go.Operand.tmp 5 ) , type := 26 , pos := "outright.go:42" , after := #[ { on := 11 , ground := Go.Ground.guard } ] , guard := some ( 11 , true ) }, { dst := some 145 , op := Go.Op.binOp Go.BinOp.eql 26 ( Go.Operand.tmp 143 ) ( Go.Operand.tmp 144 ) 26 , type := 4 , pos := "outright.go:42" , after := #[ { on := 16 , ground := Go.Ground.data } , { on := 17 , ground := Go.Ground.data } , { on := 11 , ground := Go.Ground.guard } ] , guard := some ( 11 , true ) }, { dst := some 146 , op := Go.Op.pick ( Go.Operand.tmp 138 ) ( Go.Operand.tmp 145 ) ( Go.Operand.const ( Go.Value.bool false ) ) , type := 4 , pos := "outright.go:42" , after := #[ { on := 11 , ground := Go.Ground.data } , { on := 18 , ground := Go.Ground.data } ] , guard := none }, { dst := some 147 , op := Go.Op.move ( Go.Operand.tmp 146 ) , type := 4 , pos := "outright.go:42" , after := #[ { on := 19 , ground := Go.Ground.data } , { on := 11 , ground := Go.Ground.chain } ] , guard := none }, { dst := some 148 , op := Go.Op.fieldAddr 31 ( Go.Operand.tmp 11 ) 1 , type := 0 , pos := "outright.go:42" , after := #[ { on := 20 , ground := Go.Ground.guard } ] , guard := some ( 20 , true ) }, { dst := some 149 , op := Go.Op.load 26 ( Go.Operand.tmp 148 ) , type := 26 , pos := "outright.go:42" , after := #[ { on := 21 , ground := Go.Ground.data } , { on := 20 , ground := Go.Ground.guard } ] , guard := some ( 20 , true ) }, { dst := some 150 , op := Go.Op.load 26 ( Go.Operand.tmp 3 ) , type := 26 , pos := "outright.go:42" , after := #[ { on := 20 , ground := Go.Ground.guard } ] , guard := some ( 20 , true ) }, { dst := some 151 , op := Go.Op.binOp Go.BinOp.eql 26 ( Go.Operand.tmp 149 ) ( Go.Operand.tmp 150 ) 26 , type := 4 , pos := "outright.go:42" , after := #[ { on := 22 , ground := Go.Ground.data } , { on := 23 , ground := Go.Ground.data } , { on := 20 , ground := Go.Ground.guard } ] , guard := some ( 20 , true ) }, { dst := some 152 , op := Go.Op.pick ( Go.Operand.tmp 147 ) ( Go.Operand.tmp 151 ) ( Go.Operand.const ( Go.Value.bool false ) ) , type := 4 , pos := "outright.go:42" , after := #[ { on := 20 , ground := Go.Ground.data } , { on := 24 , ground := Go.Ground.data } ] , guard := none }, { dst := some 153 , op := Go.Op.move ( Go.Operand.tmp 152 ) , type := 4 , pos := "outright.go:42" , after := #[ { on := 25 , ground := Go.Ground.data } , { on := 20 , ground := Go.Ground.chain } ] , guard := none }, { dst := some 154 , op := Go.Op.fieldAddr 31 ( Go.Operand.tmp 11 ) 2 , type := 0 , pos := "outright.go:42" , after := #[ { on := 26 , ground := Go.Ground.guard } ] , guard := some ( 26 , true ) }, { dst := some 155 , op := Go.Op.load 4 ( Go.Operand.tmp 154 ) , type := 4 , pos := "outright.go:42" , after := #[ { on := 27 , ground := Go.Ground.data } , { on := 26 , ground := Go.Ground.guard } ] , guard := some ( 26 , true ) }, { dst := some 156 , op := Go.Op.unOp Go.UnOp.not 4 ( Go.Operand.tmp 155 ) , type := 4 , pos := "outright.go:42" , after := #[ { on := 28 , ground := Go.Ground.data } , { on := 26 , ground := Go.Ground.guard } ] , guard := some ( 26 , true ) }, { dst := some 157 , op := Go.Op.pick ( Go.Operand.tmp 153 ) ( Go.Operand.tmp 156 ) ( Go.Operand.const ( Go.Value.bool false ) ) , type := 4 , pos := "outright.go:42" , after := #[ { on := 26 , ground := Go.Ground.data } , { on := 29 , ground := Go.Ground.data } ] , guard := none }, { dst := some 158 , op := Go.Op.move ( Go.Operand.tmp 157 ) , type := 4 , pos := "outright.go:42" , after := #[ { on := 30 , ground := Go.Ground.data } , { on := 26 , ground := Go.Ground.chain } ] , guard := none }, { dst := some 159 , op := Go.Op.fieldAddr 31 ( Go.Operand.tmp 13 ) 1 , type := 0 , pos := "outright.go:42" , after := #[ { on := 31 , ground := Go.Ground.guard } ] , guard := some ( 31 , true ) }, { dst := some 160 , op := Go.Op.load 26 ( Go.Operand.tmp 159 ) , type := 26 , pos := "outright.go:42" , after := #[ { on := 32 , ground := Go.Ground.data } , { on := 31 , ground := Go.Ground.guard } ] , guard := some ( 31 , true ) }, { dst := some 161 , op := Go.Op.load 26 ( Go.Operand.tmp 3 ) , type := 26 , pos := "outright.go:42" , after := #[ { on := 31 , ground := Go.Ground.guard } ] , guard := some ( 31 , true ) }, { dst := some 162 , op := Go.Op.binOp Go.BinOp.eql 26 ( Go.Operand.tmp 160 ) ( Go.Operand.tmp 161 ) 26 , type := 4 , pos := "outright.go:42" , after := #[ { on := 33 , ground := Go.Ground.data } , { on := 34 , ground := Go.Ground.data } , { on := 31 , ground := Go.Ground.guard } ] , guard := some ( 31 , true ) }, { dst := some 163 , op := Go.Op.pick ( Go.Operand.tmp 158 ) ( Go.Operand.tmp 162 ) ( Go.Operand.const ( Go.Value.bool false ) ) , type := 4 , pos := "outright.go:42" , after := #[ { on := 31 , ground := Go.Ground.data } , { on := 35 , ground := Go.Ground.data } ] , guard := none }, { dst := some 164 , op := Go.Op.move ( Go.Operand.tmp 163 ) , type := 4 , pos := "outright.go:42" , after := #[ { on := 36 , ground := Go.Ground.data } , { on := 31 , ground := Go.Ground.chain } ] , guard := none }, { dst := some 165 , op := Go.Op.fieldAddr 31 ( Go.Operand.tmp 13 ) 4 , type := 0 , pos := "outright.go:42" , after := #[ { on := 37 , ground := Go.Ground.guard } ] , guard := some ( 37 , true ) }, { dst := some 166 , op := Go.Op.load 29 ( Go.Operand.tmp 165 ) , type := 29 , pos := "outright.go:42" , after := #[ { on := 38 , ground := Go.Ground.data } , { on := 37 , ground := Go.Ground.guard } ] , guard := some ( 37 , true ) }, { dst := some 167 , op := Go.Op.indexAddr 29 ( Go.Operand.tmp 166 ) ( Go.Operand.const ( Go.Value.int Go.IntKind.i64 1 ) ) , type := 0 , pos := "outright.go:42" , after := #[ { on := 39 , ground := Go.Ground.data } , { on := 37 , ground := Go.Ground.guard } ] , guard := some ( 37 , true ) }, { dst := some 168 , op := Go.Op.fieldAddr 40 ( Go.Operand.tmp 167 ) 2 , type := 0 , pos := "outright.go:42" , after := #[ { on := 40 , ground := Go.Ground.data } , { on := 37 , ground := Go.Ground.guard } ] , guard := some ( 37 , true ) }, { dst := some 169 , op := Go.Op.load 26 ( Go.Operand.tmp 168 ) , type := 26 , pos := "outright.go:42" , after := #[ { on := 41 , ground := Go.Ground.data } , { on := 37 , ground := Go.Ground.guard } ] , guard := some ( 37 , true ) }, { dst := some 170 , op := Go.Op.load 26 ( Go.Operand.tmp 5 ) , type := 26 , pos := "outright.go:42" , after := #[ { on := 37 , ground := Go.Ground.guard } ] , guard := some ( 37 , true ) }, { dst := some 171 , op := Go.Op.binOp Go.BinOp.eql 26 ( Go.Operand.tmp 169 ) ( Go.Operand.tmp 170 ) 26 , type := 4 , pos := "outright.go:42" , after := #[ { on := 42 , ground := Go.Ground.data } , { on := 43 , ground := Go.Ground.data } , { on := 37 , ground := Go.Ground.guard } ] , guard := some ( 37 , true ) }, { dst := some 172 , op := Go.Op.pick ( Go.Operand.tmp 164 ) ( Go.Operand.tmp 171 ) ( Go.Operand.const ( Go.Value.bool false ) ) , type := 4 , pos := "outright.go:42" , after := #[ { on := 37 , ground := Go.Ground.data } , { on := 44 , ground := Go.Ground.data } ] , guard := none }, { dst := some 0 , op := Go.Op.assign ( Go.Operand.tmp 172 ) , type := 4 , pos := "outright.go:42" , after := #[ { on := 45 , ground := Go.Ground.data } , { on := 37 , ground := Go.Ground.chain } , { on := 0 , ground := Go.Ground.phase } , { on := 1 , ground := Go.Ground.phase } , { on := 2 , ground := Go.Ground.phase } , { on := 3 , ground := Go.Ground.phase } , { on := 4 , ground := Go.Ground.phase } , { on := 5 , ground := Go.Ground.phase } , { on := 6 , ground := Go.Ground.phase } , { on := 7 , ground := Go.Ground.phase } , { on := 8 , ground := Go.Ground.phase } , { on := 9 , ground := Go.Ground.phase } , { on := 10 , ground := Go.Ground.phase } , { on := 11 , ground := Go.Ground.phase } , { on := 12 , ground := Go.Ground.phase } , { on := 13 , ground := Go.Ground.phase } , { on := 14 , ground := Go.Ground.phase } , { on := 15 , ground := Go.Ground.phase } , { on := 16 , ground := Go.Ground.phase } , { on := 17 , ground := Go.Ground.phase } , { on := 18 , ground := Go.Ground.phase } , { on := 19 , ground := Go.Ground.phase } , { on := 20 , ground := Go.Ground.phase } , { on := 21 , ground := Go.Ground.phase } , { on := 22 , ground := Go.Ground.phase } , { on := 23 , ground := Go.Ground.phase } , { on := 24 , ground := Go.Ground.phase } , { on := 25 , ground := Go.Ground.phase } , { on := 26 , ground := Go.Ground.phase } , { on := 27 , ground := Go.Ground.phase } , { on := 28 , ground := Go.Ground.phase } , { on := 29 , ground := Go.Ground.phase } , { on := 30 , ground := Go.Ground.phase } , { on := 31 , ground := Go.Ground.phase } , { on := 32 , ground := Go.Ground.phase } , { on := 33 , ground := Go.Ground.phase } , { on := 34 , ground := Go.Ground.phase } , { on := 35 , ground := Go.Ground.phase } , { on := 36 , ground := Go.Ground.phase } , { on := 37 , ground := Go.Ground.phase } , { on := 38 , ground := Go.Ground.phase } , { on := 39 , ground := Go.Ground.phase } , { on := 40 , ground := Go.Ground.phase } , { on := 41 , ground := Go.Ground.phase } , { on := 42 , ground := Go.Ground.phase } , { on := 43 , ground := Go.Ground.phase } , { on := 44 , ground := Go.Ground.phase } , { on := 45 , ground := Go.Ground.phase } ] , guard := none }]) (by kernel_rfl)
    refine wpAnyJ_takeG (i := 0) (oi := { dst := some 127 , op := Go.Op.fieldAddr 31 ( Go.Operand.tmp 7 ) 2 , type := 0 , pos := "outright.go:42" , after := #[ ] , guard := none }) (v := ?v0_1) hG hsel (by kernel_rfl) (by kernel_rfl) (by kernel_rfl) (by kernel_rfl) (fun _ _ _ h => h) (Or.inl (And.intro (by kernel_rfl) ?q0_1)) hS0 ?r0_1
    case q0_1 => intro w hx; refine run_env [7] [?a0_1_7] (by kernel_rfl) (by kernel_rfl) (⟨?e0_1_7, trivial⟩) ?h0_1; (case e0_1_7 => ((conv => lhs; whnf); (try exact rfl))); (case h0_1 => ((try dsimp only); (try simp only [envL, lookV, if_true, if_false]); (try go_simp); (try with_reducible rfl)))
    (try simp only [Act.put, List.setIfInBounds_toArray, List.set_cons_zero, List.set_cons_succ, List.getElem_toArray, List.getElem_cons_succ, List.getElem_cons_zero])
    refine wpAnyJ_takeG (i := 1) (oi := { dst := some 128 , op := Go.Op.load 4 ( Go.Operand.tmp 127 ) , type := 4 , pos := "outright.go:42" , after := #[ { on := 0 , ground := Go.Ground.data } ] , guard := none }) (v := ?v1_2) hG hsel (by kernel_rfl) (by kernel_rfl) (by kernel_rfl) (by kernel_rfl) (fun _ _ _ h => h) (Or.inl (And.intro (by kernel_rfl) ?q1_2)) hS0 ?r1_2
    case q1_2 => intro w hx; refine run_env [127] [?a1_2_127] (by kernel_rfl) (by kernel_rfl) (⟨?e1_2_127, trivial⟩) ?h1_2; (case e1_2_127 => ((conv => lhs; whnf); (try exact rfl))); (case h1_2 => ((try dsimp only); (try simp only [envL, lookV, if_true, if_false]); (try go_simp); (try with_reducible rfl)))
    (try simp only [Act.put, List.setIfInBounds_toArray, List.set_cons_zero, List.set_cons_succ, List.getElem_toArray, List.getElem_cons_succ, List.getElem_cons_zero])
    refine wpAnyJ_takeG (i := 2) (oi := { dst := some 129 , op := Go.Op.move ( Go.Operand.tmp 128 ) , type := 4 , pos := "outright.go:42" , after := #[ { on := 1 , ground := Go.Ground.data } ] , guard := none }) (v := ?v2_3) hG hsel (by kernel_rfl) (by kernel_rfl) (by kernel_rfl) (by kernel_rfl) (fun _ _ _ h => h) (Or.inl (And.intro (by kernel_rfl) ?q2_3)) hS0 ?r2_3
    case q2_3 => intro w hx; refine run_env [128] [?a2_3_128] (by kernel_rfl) (by kernel_rfl) (⟨?e2_3_128, trivial⟩) ?h2_3; (case e2_3_128 => ((conv => lhs; whnf); (try exact rfl))); (case h2_3 => ((try dsimp only); (try simp only [envL, lookV, if_true, if_false]); (try go_simp); (try with_reducible rfl)))
    (try simp only [Act.put, List.setIfInBounds_toArray, List.set_cons_zero, List.set_cons_succ, List.getElem_toArray, List.getElem_cons_succ, List.getElem_cons_zero])
    refine wpAnyJ_takeG (i := 3) (oi := { dst := some 130 , op := Go.Op.fieldAddr 31 ( Go.Operand.tmp 7 ) 4 , type := 0 , pos := "outright.go:42" , after := #[ { on := 2 , ground := Go.Ground.guard } ] , guard := some ( 2 , true ) }) (v := ?v3_4) hG hsel (by kernel_rfl) (by kernel_rfl) (by kernel_rfl) (by kernel_rfl) (fun _ _ _ h => h) (Or.inl (And.intro (by kernel_rfl) ?q3_4)) hS0 ?r3_4
    case q3_4 => intro w hx; refine run_env [7] [?a3_4_7] (by kernel_rfl) (by kernel_rfl) (⟨?e3_4_7, trivial⟩) ?h3_4; (case e3_4_7 => ((conv => lhs; whnf); (try exact rfl))); (case h3_4 => ((try dsimp only); (try simp only [envL, lookV, if_true, if_false]); (try go_simp); (try with_reducible rfl)))
    (try simp only [Act.put, List.setIfInBounds_toArray, List.set_cons_zero, List.set_cons_succ, List.getElem_toArray, List.getElem_cons_succ, List.getElem_cons_zero])
    refine wpAnyJ_takeG (i := 4) (oi := { dst := some 131 , op := Go.Op.load 29 ( Go.Operand.tmp 130 ) , type := 29 , pos := "outright.go:42" , after := #[ { on := 3 , ground := Go.Ground.data } , { on := 2 , ground := Go.Ground.guard } ] , guard := some ( 2 , true ) }) (v := ?v4_5) hG hsel (by kernel_rfl) (by kernel_rfl) (by kernel_rfl) (by kernel_rfl) (fun _ _ _ h => h) (Or.inl (And.intro (by kernel_rfl) ?q4_5)) hS0 ?r4_5
    case q4_5 => intro w hx; refine run_env [130] [?a4_5_130] (by kernel_rfl) (by kernel_rfl) (⟨?e4_5_130, trivial⟩) ?h4_5; (case e4_5_130 => ((conv => lhs; whnf); (try exact rfl))); (case h4_5 => ((try dsimp only); (try simp only [envL, lookV, if_true, if_false]); (try go_simp); (try with_reducible rfl)))
    (try simp only [Act.put, List.setIfInBounds_toArray, List.set_cons_zero, List.set_cons_succ, List.getElem_toArray, List.getElem_cons_succ, List.getElem_cons_zero])
    refine wpAnyJ_takeG (i := 5) (oi := { dst := some 132 , op := Go.Op.indexAddr 29 ( Go.Operand.tmp 131 ) ( Go.Operand.const ( Go.Value.int Go.IntKind.i64 0 ) ) , type := 0 , pos := "outright.go:42" , after := #[ { on := 4 , ground := Go.Ground.data } , { on := 2 , ground := Go.Ground.guard } ] , guard := some ( 2 , true ) }) (v := ?v5_6) hG hsel (by kernel_rfl) (by kernel_rfl) (by kernel_rfl) (by kernel_rfl) (fun _ _ _ h => h) (Or.inl (And.intro (by kernel_rfl) ?q5_6)) hS0 ?r5_6
    case q5_6 => intro w hx; refine run_env [131] [?a5_6_131] (by kernel_rfl) (by kernel_rfl) (⟨?e5_6_131, trivial⟩) ?h5_6; (case e5_6_131 => ((conv => lhs; whnf); (try exact rfl))); (case h5_6 => ((try dsimp only); (try simp only [envL, lookV, if_true, if_false]); (try go_simp); (try with_reducible rfl)))
    (try simp only [Act.put, List.setIfInBounds_toArray, List.set_cons_zero, List.set_cons_succ, List.getElem_toArray, List.getElem_cons_succ, List.getElem_cons_zero])
    refine wpAnyJ_takeG (i := 6) (oi := { dst := some 133 , op := Go.Op.load 40 ( Go.Operand.tmp 132 ) , type := 40 , pos := "outright.go:42" , after := #[ { on := 5 , ground := Go.Ground.data } , { on := 2 , ground := Go.Ground.guard } ] , guard := some ( 2 , true ) }) (v := ?v6_7) hG hsel (by kernel_rfl) (by kernel_rfl) (by kernel_rfl) (by kernel_rfl) (fun _ _ _ h => h) (Or.inl (And.intro (by kernel_rfl) ?q6_7)) hS0 ?r6_7
    case q6_7 => intro w hx; refine run_env [132] [?a6_7_132] (by kernel_rfl) (by kernel_rfl) (⟨?e6_7_132, trivial⟩) ?h6_7; (case e6_7_132 => ((conv => lhs; whnf); (try exact rfl))); (case h6_7 => ((try dsimp only); (try simp only [envL, lookV, if_true, if_false]); (try go_simp); (try with_reducible rfl)))
    (try simp only [Act.put, List.setIfInBounds_toArray, List.set_cons_zero, List.set_cons_succ, List.getElem_toArray, List.getElem_cons_succ, List.getElem_cons_zero])
    refine wpAnyJ_takeG (i := 7) (oi := { dst := some 134 , op := Go.Op.load 26 ( Go.Operand.tmp 2 ) , type := 26 , pos := "outright.go:42" , after := #[ { on := 2 , ground := Go.Ground.guard } ] , guard := some ( 2 , true ) }) (v := ?v7_8) hG hsel (by kernel_rfl) (by kernel_rfl) (by kernel_rfl) (by kernel_rfl) (fun _ _ _ h => h) (Or.inl (And.intro (by kernel_rfl) ?q7_8)) hS0 ?r7_8
    case q7_8 => intro w hx; refine run_env [2] [?a7_8_2] (by kernel_rfl) (by kernel_rfl) (⟨?e7_8_2, trivial⟩) ?h7_8; (case e7_8_2 => ((conv => lhs; whnf); (try exact rfl))); (case h7_8 => ((try dsimp only); (try simp only [envL, lookV, if_true, if_false]); (try go_simp); (try with_reducible rfl)))
    (try simp only [Act.put, List.setIfInBounds_toArray, List.set_cons_zero, List.set_cons_succ, List.getElem_toArray, List.getElem_cons_succ, List.getElem_cons_zero])
    refine wpAnyJ_takeG (i := 8) (oi := { dst := some 135 , op := Go.Op.build 40 #[ ( 1 , Go.Operand.tmp 134 ) , ( 3 , Go.Operand.const ( Go.Value.int Go.IntKind.u32 151587081 ) ) , ( 4 , Go.Operand.const ( Go.Value.int Go.IntKind.u16 1000 ) ) , ( 5 , Go.Operand.const ( Go.Value.int Go.IntKind.u16 1007 ) ) ] , type := 40 , pos := "outright.go:42" , after := #[ { on := 7 , ground := Go.Ground.data } , { on := 2 , ground := Go.Ground.guard } ] , guard := some ( 2 , true ) }) (v := ?v8_9) hG hsel (by kernel_rfl) (by kernel_rfl) (by kernel_rfl) (by kernel_rfl) (fun _ _ _ h => h) (Or.inl (And.intro (by kernel_rfl) ?q8_9)) hS0 ?r8_9
    case q8_9 => intro w hx; refine run_env [134] [?a8_9_134] (by kernel_rfl) (by kernel_rfl) (⟨?e8_9_134, trivial⟩) ?h8_9; (case e8_9_134 => ((conv => lhs; whnf); (try exact rfl))); (case h8_9 => ((try dsimp only); (try simp only [envL, lookV, if_true, if_false]); (try go_simp); (try with_reducible rfl)))
    (try simp only [Act.put, List.setIfInBounds_toArray, List.set_cons_zero, List.set_cons_succ, List.getElem_toArray, List.getElem_cons_succ, List.getElem_cons_zero])
    refine wpAnyJ_takeG (i := 9) (oi := { dst := some 136 , op := Go.Op.binOp Go.BinOp.eql 40 ( Go.Operand.tmp 133 ) ( Go.Operand.tmp 135 ) 40 , type := 4 , pos := "outright.go:42" , after := #[ { on := 6 , ground := Go.Ground.data } , { on := 8 , ground := Go.Ground.data } , { on := 2 , ground := Go.Ground.guard } ] , guard := some ( 2 , true ) }) (v := ?v9_10) hG hsel (by kernel_rfl) (by kernel_rfl) (by kernel_rfl) (by kernel_rfl) (fun _ _ _ h => h) (Or.inl (And.intro (by kernel_rfl) ?q9_10)) hS0 ?r9_10
    case q9_10 => intro w hx; refine run_env [133, 135] [?a9_10_133, ?a9_10_135] (by kernel_rfl) (by kernel_rfl) (⟨?e9_10_133, ?e9_10_135, trivial⟩) ?h9_10; (case e9_10_133 => ((conv => lhs; whnf); (try exact rfl))); (case e9_10_135 => ((conv => lhs; whnf); (try exact rfl))); (case h9_10 => ((try dsimp only); (try simp only [envL, lookV, if_true, if_false]); (try go_simp); (try with_reducible rfl)))
    (try simp only [Act.put, List.setIfInBounds_toArray, List.set_cons_zero, List.set_cons_succ, List.getElem_toArray, List.getElem_cons_succ, List.getElem_cons_zero])
    refine wpAnyJ_takeG (i := 10) (oi := { dst := some 137 , op := Go.Op.pick ( Go.Operand.tmp 129 ) ( Go.Operand.tmp 136 ) ( Go.Operand.const ( Go.Value.bool false ) ) , type := 4 , pos := "outright.go:42" , after := #[ { on := 2 , ground := Go.Ground.data } , { on := 9 , ground := Go.Ground.data } ] , guard := none }) (v := ?v10_11) hG hsel (by kernel_rfl) (by kernel_rfl) (by kernel_rfl) (by kernel_rfl) (fun _ _ _ h => h) (Or.inl (And.intro (by kernel_rfl) ?q10_11)) hS0 ?r10_11
    case q10_11 => intro w hx; refine run_env [129, 136] [?a10_11_129, ?a10_11_136] (by kernel_rfl) (by kernel_rfl) (⟨?e10_11_129, ?e10_11_136, trivial⟩) ?h10_11; (case e10_11_129 => ((conv => lhs; whnf); (try exact rfl))); (case e10_11_136 => ((conv => lhs; whnf); (try exact rfl))); (case h10_11 => ((try dsimp only); (try simp only [envL, lookV, if_true, if_false]); (try go_simp); (try with_reducible rfl)))
    (try simp only [Act.put, List.setIfInBounds_toArray, List.set_cons_zero, List.set_cons_succ, List.getElem_toArray, List.getElem_cons_succ, List.getElem_cons_zero])
    refine wpAnyJ_takeG (i := 11) (oi := { dst := some 138 , op := Go.Op.move ( Go.Operand.tmp 137 ) , type := 4 , pos := "outright.go:42" , after := #[ { on := 10 , ground := Go.Ground.data } , { on := 2 , ground := Go.Ground.chain } ] , guard := none }) (v := ?v11_12) hG hsel (by kernel_rfl) (by kernel_rfl) (by kernel_rfl) (by kernel_rfl) (fun _ _ _ h => h) (Or.inl (And.intro (by kernel_rfl) ?q11_12)) hS0 ?r11_12
    case q11_12 => intro w hx; refine run_env [137] [?a11_12_137] (by kernel_rfl) (by kernel_rfl) (⟨?e11_12_137, trivial⟩) ?h11_12; (case e11_12_137 => ((conv => lhs; whnf); (try exact rfl))); (case h11_12 => ((try dsimp only); (try simp only [envL, lookV, if_true, if_false]); (try go_simp); (try with_reducible rfl)))
    (try simp only [Act.put, List.setIfInBounds_toArray, List.set_cons_zero, List.set_cons_succ, List.getElem_toArray, List.getElem_cons_succ, List.getElem_cons_zero])
    refine wpAnyJ_takeG (i := 12) (oi := { dst := some 139 , op := Go.Op.fieldAddr 31 ( Go.Operand.tmp 9 ) 4 , type := 0 , pos := "outright.go:42" , after := #[ { on := 11 , ground := Go.Ground.guard } ] , guard := some ( 11 , true ) }) (v := ?v12_13) hG hsel (by kernel_rfl) (by kernel_rfl) (by kernel_rfl) (by kernel_rfl) (fun _ _ _ h => h) (Or.inl (And.intro (by kernel_rfl) ?q12_13)) hS0 ?r12_13
    case q12_13 => intro w hx; refine run_env [9] [?a12_13_9] (by kernel_rfl) (by kernel_rfl) (⟨?e12_13_9, trivial⟩) ?h12_13; (case e12_13_9 => ((conv => lhs; whnf); (try exact rfl))); (case h12_13 => ((try dsimp only); (try simp only [envL, lookV, if_true, if_false]); (try go_simp); (try with_reducible rfl)))
    (try simp only [Act.put, List.setIfInBounds_toArray, List.set_cons_zero, List.set_cons_succ, List.getElem_toArray, List.getElem_cons_succ, List.getElem_cons_zero])
    refine wpAnyJ_takeG (i := 13) (oi := { dst := some 140 , op := Go.Op.load 29 ( Go.Operand.tmp 139 ) , type := 29 , pos := "outright.go:42" , after := #[ { on := 12 , ground := Go.Ground.data } , { on := 11 , ground := Go.Ground.guard } ] , guard := some ( 11 , true ) }) (v := ?v13_14) hG hsel (by kernel_rfl) (by kernel_rfl) (by kernel_rfl) (by kernel_rfl) (fun _ _ _ h => h) (Or.inl (And.intro (by kernel_rfl) ?q13_14)) hS0 ?r13_14
    case q13_14 => intro w hx; refine run_env [139] [?a13_14_139] (by kernel_rfl) (by kernel_rfl) (⟨?e13_14_139, trivial⟩) ?h13_14; (case e13_14_139 => ((conv => lhs; whnf); (try exact rfl))); (case h13_14 => ((try dsimp only); (try simp only [envL, lookV, if_true, if_false]); (try go_simp); (try with_reducible rfl)))
    (try simp only [Act.put, List.setIfInBounds_toArray, List.set_cons_zero, List.set_cons_succ, List.getElem_toArray, List.getElem_cons_succ, List.getElem_cons_zero])
    refine wpAnyJ_takeG (i := 14) (oi := { dst := some 141 , op := Go.Op.indexAddr 29 ( Go.Operand.tmp 140 ) ( Go.Operand.const ( Go.Value.int Go.IntKind.i64 0 ) ) , type := 0 , pos := "outright.go:42" , after := #[ { on := 13 , ground := Go.Ground.data } , { on := 11 , ground := Go.Ground.guard } ] , guard := some ( 11 , true ) }) (v := ?v14_15) hG hsel (by kernel_rfl) (by kernel_rfl) (by kernel_rfl) (by kernel_rfl) (fun _ _ _ h => h) (Or.inl (And.intro (by kernel_rfl) ?q14_15)) hS0 ?r14_15
    case q14_15 => intro w hx; refine run_env [140] [?a14_15_140] (by kernel_rfl) (by kernel_rfl) (⟨?e14_15_140, trivial⟩) ?h14_15; (case e14_15_140 => ((conv => lhs; whnf); (try exact rfl))); (case h14_15 => ((try dsimp only); (try simp only [envL, lookV, if_true, if_false]); (try go_simp); (try with_reducible rfl)))
    (try simp only [Act.put, List.setIfInBounds_toArray, List.set_cons_zero, List.set_cons_succ, List.getElem_toArray, List.getElem_cons_succ, List.getElem_cons_zero])
    refine wpAnyJ_takeG (i := 15) (oi := { dst := some 142 , op := Go.Op.fieldAddr 40 ( Go.Operand.tmp 141 ) 2 , type := 0 , pos := "outright.go:42" , after := #[ { on := 14 , ground := Go.Ground.data } , { on := 11 , ground := Go.Ground.guard } ] , guard := some ( 11 , true ) }) (v := ?v15_16) hG hsel (by kernel_rfl) (by kernel_rfl) (by kernel_rfl) (by kernel_rfl) (fun _ _ _ h => h) (Or.inl (And.intro (by kernel_rfl) ?q15_16)) hS0 ?r15_16
    case q15_16 => intro w hx; refine run_env [141] [?a15_16_141] (by kernel_rfl) (by kernel_rfl) (⟨?e15_16_141, trivial⟩) ?h15_16; (case e15_16_141 => ((conv => lhs; whnf); (try exact rfl))); (case h15_16 => ((try dsimp only); (try simp only [envL, lookV, if_true, if_false]); (try go_simp); (try with_reducible rfl)))
    (try simp only [Act.put, List.setIfInBounds_toArray, List.set_cons_zero, List.set_cons_succ, List.getElem_toArray, List.getElem_cons_succ, List.getElem_cons_zero])
    refine wpAnyJ_takeG (i := 16) (oi := { dst := some 143 , op := Go.Op.load 26 ( Go.Operand.tmp 142 ) , type := 26 , pos := "outright.go:42" , after := #[ { on := 15 , ground := Go.Ground.data } , { on := 11 , ground := Go.Ground.guard } ] , guard := some ( 11 , true ) }) (v := ?v16_17) hG hsel (by kernel_rfl) (by kernel_rfl) (by kernel_rfl) (by kernel_rfl) (fun _ _ _ h => h) (Or.inl (And.intro (by kernel_rfl) ?q16_17)) hS0 ?r16_17
    case q16_17 => intro w hx; refine run_env [142] [?a16_17_142] (by kernel_rfl) (by kernel_rfl) (⟨?e16_17_142, trivial⟩) ?h16_17; (case e16_17_142 => ((conv => lhs; whnf); (try exact rfl))); (case h16_17 => ((try dsimp only); (try simp only [envL, lookV, if_true, if_false]); (try go_simp); (try with_reducible rfl)))
    (try simp only [Act.put, List.setIfInBounds_toArray, List.set_cons_zero, List.set_cons_succ, List.getElem_toArray, List.getElem_cons_succ, List.getElem_cons_zero])
    refine wpAnyJ_takeG (i := 17) (oi := { dst := some 144 , op := Go.Op.load 26 ( Go.Operand.tmp 5 ) , type := 26 , pos := "outright.go:42" , after := #[ { on := 11 , ground := Go.Ground.guard } ] , guard := some ( 11 , true ) }) (v := ?v17_18) hG hsel (by kernel_rfl) (by kernel_rfl) (by kernel_rfl) (by kernel_rfl) (fun _ _ _ h => h) (Or.inl (And.intro (by kernel_rfl) ?q17_18)) hS0 ?r17_18
    case q17_18 => intro w hx; refine run_env [5] [?a17_18_5] (by kernel_rfl) (by kernel_rfl) (⟨?e17_18_5, trivial⟩) ?h17_18; (case e17_18_5 => ((conv => lhs; whnf); (try exact rfl))); (case h17_18 => ((try dsimp only); (try simp only [envL, lookV, if_true, if_false]); (try go_simp); (try with_reducible rfl)))
    (try simp only [Act.put, List.setIfInBounds_toArray, List.set_cons_zero, List.set_cons_succ, List.getElem_toArray, List.getElem_cons_succ, List.getElem_cons_zero])
    refine wpAnyJ_takeG (i := 18) (oi := { dst := some 145 , op := Go.Op.binOp Go.BinOp.eql 26 ( Go.Operand.tmp 143 ) ( Go.Operand.tmp 144 ) 26 , type := 4 , pos := "outright.go:42" , after := #[ { on := 16 , ground := Go.Ground.data } , { on := 17 , ground := Go.Ground.data } , { on := 11 , ground := Go.Ground.guard } ] , guard := some ( 11 , true ) }) (v := ?v18_19) hG hsel (by kernel_rfl) (by kernel_rfl) (by kernel_rfl) (by kernel_rfl) (fun _ _ _ h => h) (Or.inl (And.intro (by kernel_rfl) ?q18_19)) hS0 ?r18_19
    case q18_19 => intro w hx; refine run_env [143, 144] [?a18_19_143, ?a18_19_144] (by kernel_rfl) (by kernel_rfl) (⟨?e18_19_143, ?e18_19_144, trivial⟩) ?h18_19; (case e18_19_143 => ((conv => lhs; whnf); (try exact rfl))); (case e18_19_144 => ((conv => lhs; whnf); (try exact rfl))); (case h18_19 => ((try dsimp only); (try simp only [envL, lookV, if_true, if_false]); (try go_simp); (try with_reducible rfl)))
    (try simp only [Act.put, List.setIfInBounds_toArray, List.set_cons_zero, List.set_cons_succ, List.getElem_toArray, List.getElem_cons_succ, List.getElem_cons_zero])
    refine wpAnyJ_takeG (i := 19) (oi := { dst := some 146 , op := Go.Op.pick ( Go.Operand.tmp 138 ) ( Go.Operand.tmp 145 ) ( Go.Operand.const ( Go.Value.bool false ) ) , type := 4 , pos := "outright.go:42" , after := #[ { on := 11 , ground := Go.Ground.data } , { on := 18 , ground := Go.Ground.data } ] , guard := none }) (v := ?v19_20) hG hsel (by kernel_rfl) (by kernel_rfl) (by kernel_rfl) (by kernel_rfl) (fun _ _ _ h => h) (Or.inl (And.intro (by kernel_rfl) ?q19_20)) hS0 ?r19_20
    case q19_20 => intro w hx; refine run_env [138, 145] [?a19_20_138, ?a19_20_145] (by kernel_rfl) (by kernel_rfl) (⟨?e19_20_138, ?e19_20_145, trivial⟩) ?h19_20; (case e19_20_138 => ((conv => lhs; whnf); (try exact rfl))); (case e19_20_145 => ((conv => lhs; whnf); (try exact rfl))); (case h19_20 => ((try dsimp only); (try simp only [envL, lookV, if_true, if_false]); (try go_simp); (try with_reducible rfl)))
    (try simp only [Act.put, List.setIfInBounds_toArray, List.set_cons_zero, List.set_cons_succ, List.getElem_toArray, List.getElem_cons_succ, List.getElem_cons_zero])
    refine wpAnyJ_takeG (i := 20) (oi := { dst := some 147 , op := Go.Op.move ( Go.Operand.tmp 146 ) , type := 4 , pos := "outright.go:42" , after := #[ { on := 19 , ground := Go.Ground.data } , { on := 11 , ground := Go.Ground.chain } ] , guard := none }) (v := ?v20_21) hG hsel (by kernel_rfl) (by kernel_rfl) (by kernel_rfl) (by kernel_rfl) (fun _ _ _ h => h) (Or.inl (And.intro (by kernel_rfl) ?q20_21)) hS0 ?r20_21
    case q20_21 => intro w hx; refine run_env [146] [?a20_21_146] (by kernel_rfl) (by kernel_rfl) (⟨?e20_21_146, trivial⟩) ?h20_21; (case e20_21_146 => ((conv => lhs; whnf); (try exact rfl))); (case h20_21 => ((try dsimp only); (try simp only [envL, lookV, if_true, if_false]); (try go_simp); (try with_reducible rfl)))
    (try simp only [Act.put, List.setIfInBounds_toArray, List.set_cons_zero, List.set_cons_succ, List.getElem_toArray, List.getElem_cons_succ, List.getElem_cons_zero])
    refine wpAnyJ_takeG (i := 21) (oi := { dst := some 148 , op := Go.Op.fieldAddr 31 ( Go.Operand.tmp 11 ) 1 , type := 0 , pos := "outright.go:42" , after := #[ { on := 20 , ground := Go.Ground.guard } ] , guard := some ( 20 , true ) }) (v := ?v21_22) hG hsel (by kernel_rfl) (by kernel_rfl) (by kernel_rfl) (by kernel_rfl) (fun _ _ _ h => h) (Or.inl (And.intro (by kernel_rfl) ?q21_22)) hS0 ?r21_22
    case q21_22 => intro w hx; refine run_env [11] [?a21_22_11] (by kernel_rfl) (by kernel_rfl) (⟨?e21_22_11, trivial⟩) ?h21_22; (case e21_22_11 => ((conv => lhs; whnf); (try exact rfl))); (case h21_22 => ((try dsimp only); (try simp only [envL, lookV, if_true, if_false]); (try go_simp); (try with_reducible rfl)))
    (try simp only [Act.put, List.setIfInBounds_toArray, List.set_cons_zero, List.set_cons_succ, List.getElem_toArray, List.getElem_cons_succ, List.getElem_cons_zero])
    refine wpAnyJ_takeG (i := 22) (oi := { dst := some 149 , op := Go.Op.load 26 ( Go.Operand.tmp 148 ) , type := 26 , pos := "outright.go:42" , after := #[ { on := 21 , ground := Go.Ground.data } , { on := 20 , ground := Go.Ground.guard } ] , guard := some ( 20 , true ) }) (v := ?v22_23) hG hsel (by kernel_rfl) (by kernel_rfl) (by kernel_rfl) (by kernel_rfl) (fun _ _ _ h => h) (Or.inl (And.intro (by kernel_rfl) ?q22_23)) hS0 ?r22_23
    case q22_23 => intro w hx; refine run_env [148] [?a22_23_148] (by kernel_rfl) (by kernel_rfl) (⟨?e22_23_148, trivial⟩) ?h22_23; (case e22_23_148 => ((conv => lhs; whnf); (try exact rfl))); (case h22_23 => ((try dsimp only); (try simp only [envL, lookV, if_true, if_false]); (try go_simp); (try with_reducible rfl)))
    (try simp only [Act.put, List.setIfInBounds_toArray, List.set_cons_zero, List.set_cons_succ, List.getElem_toArray, List.getElem_cons_succ, List.getElem_cons_zero])
    refine wpAnyJ_takeG (i := 23) (oi := { dst := some 150 , op := Go.Op.load 26 ( Go.Operand.tmp 3 ) , type := 26 , pos := "outright.go:42" , after := #[ { on := 20 , ground := Go.Ground.guard } ] , guard := some ( 20 , true ) }) (v := ?v23_24) hG hsel (by kernel_rfl) (by kernel_rfl) (by kernel_rfl) (by kernel_rfl) (fun _ _ _ h => h) (Or.inl (And.intro (by kernel_rfl) ?q23_24)) hS0 ?r23_24
    case q23_24 => intro w hx; refine run_env [3] [?a23_24_3] (by kernel_rfl) (by kernel_rfl) (⟨?e23_24_3, trivial⟩) ?h23_24; (case e23_24_3 => ((conv => lhs; whnf); (try exact rfl))); (case h23_24 => ((try dsimp only); (try simp only [envL, lookV, if_true, if_false]); (try go_simp); (try with_reducible rfl)))
    (try simp only [Act.put, List.setIfInBounds_toArray, List.set_cons_zero, List.set_cons_succ, List.getElem_toArray, List.getElem_cons_succ, List.getElem_cons_zero])
    refine wpAnyJ_takeG (i := 24) (oi := { dst := some 151 , op := Go.Op.binOp Go.BinOp.eql 26 ( Go.Operand.tmp 149 ) ( Go.Operand.tmp 150 ) 26 , type := 4 , pos := "outright.go:42" , after := #[ { on := 22 , ground := Go.Ground.data } , { on := 23 , ground := Go.Ground.data } , { on := 20 , ground := Go.Ground.guard } ] , guard := some ( 20 , true ) }) (v := ?v24_25) hG hsel (by kernel_rfl) (by kernel_rfl) (by kernel_rfl) (by kernel_rfl) (fun _ _ _ h => h) (Or.inl (And.intro (by kernel_rfl) ?q24_25)) hS0 ?r24_25
    case q24_25 => intro w hx; refine run_env [149, 150] [?a24_25_149, ?a24_25_150] (by kernel_rfl) (by kernel_rfl) (⟨?e24_25_149, ?e24_25_150, trivial⟩) ?h24_25; (case e24_25_149 => ((conv => lhs; whnf); (try exact rfl))); (case e24_25_150 => ((conv => lhs; whnf); (try exact rfl))); (case h24_25 => ((try dsimp only); (try simp only [envL, lookV, if_true, if_false]); (try go_simp); (try with_reducible rfl)))
    (try simp only [Act.put, List.setIfInBounds_toArray, List.set_cons_zero, List.set_cons_succ, List.getElem_toArray, List.getElem_cons_succ, List.getElem_cons_zero])
    refine wpAnyJ_takeG (i := 25) (oi := { dst := some 152 , op := Go.Op.pick ( Go.Operand.tmp 147 ) ( Go.Operand.tmp 151 ) ( Go.Operand.const ( Go.Value.bool false ) ) , type := 4 , pos := "outright.go:42" , after := #[ { on := 20 , ground := Go.Ground.data } , { on := 24 , ground := Go.Ground.data } ] , guard := none }) (v := ?v25_26) hG hsel (by kernel_rfl) (by kernel_rfl) (by kernel_rfl) (by kernel_rfl) (fun _ _ _ h => h) (Or.inl (And.intro (by kernel_rfl) ?q25_26)) hS0 ?r25_26
    case q25_26 => intro w hx; refine run_env [147, 151] [?a25_26_147, ?a25_26_151] (by kernel_rfl) (by kernel_rfl) (⟨?e25_26_147, ?e25_26_151, trivial⟩) ?h25_26; (case e25_26_147 => ((conv => lhs; whnf); (try exact rfl))); (case e25_26_151 => ((conv => lhs; whnf); (try exact rfl))); (case h25_26 => ((try dsimp only); (try simp only [envL, lookV, if_true, if_false]); (try go_simp); (try with_reducible rfl)))
    (try simp only [Act.put, List.setIfInBounds_toArray, List.set_cons_zero, List.set_cons_succ, List.getElem_toArray, List.getElem_cons_succ, List.getElem_cons_zero])
    refine wpAnyJ_takeG (i := 26) (oi := { dst := some 153 , op := Go.Op.move ( Go.Operand.tmp 152 ) , type := 4 , pos := "outright.go:42" , after := #[ { on := 25 , ground := Go.Ground.data } , { on := 20 , ground := Go.Ground.chain } ] , guard := none }) (v := ?v26_27) hG hsel (by kernel_rfl) (by kernel_rfl) (by kernel_rfl) (by kernel_rfl) (fun _ _ _ h => h) (Or.inl (And.intro (by kernel_rfl) ?q26_27)) hS0 ?r26_27
    case q26_27 => intro w hx; refine run_env [152] [?a26_27_152] (by kernel_rfl) (by kernel_rfl) (⟨?e26_27_152, trivial⟩) ?h26_27; (case e26_27_152 => ((conv => lhs; whnf); (try exact rfl))); (case h26_27 => ((try dsimp only); (try simp only [envL, lookV, if_true, if_false]); (try go_simp); (try with_reducible rfl)))
    (try simp only [Act.put, List.setIfInBounds_toArray, List.set_cons_zero, List.set_cons_succ, List.getElem_toArray, List.getElem_cons_succ, List.getElem_cons_zero])
    refine wpAnyJ_takeG (i := 27) (oi := { dst := some 154 , op := Go.Op.fieldAddr 31 ( Go.Operand.tmp 11 ) 2 , type := 0 , pos := "outright.go:42" , after := #[ { on := 26 , ground := Go.Ground.guard } ] , guard := some ( 26 , true ) }) (v := ?v27_28) hG hsel (by kernel_rfl) (by kernel_rfl) (by kernel_rfl) (by kernel_rfl) (fun _ _ _ h => h) (Or.inl (And.intro (by kernel_rfl) ?q27_28)) hS0 ?r27_28
    case q27_28 => intro w hx; refine run_env [11] [?a27_28_11] (by kernel_rfl) (by kernel_rfl) (⟨?e27_28_11, trivial⟩) ?h27_28; (case e27_28_11 => ((conv => lhs; whnf); (try exact rfl))); (case h27_28 => ((try dsimp only); (try simp only [envL, lookV, if_true, if_false]); (try go_simp); (try with_reducible rfl)))
    (try simp only [Act.put, List.setIfInBounds_toArray, List.set_cons_zero, List.set_cons_succ, List.getElem_toArray, List.getElem_cons_succ, List.getElem_cons_zero])
    refine wpAnyJ_takeG (i := 28) (oi := { dst := some 155 , op := Go.Op.load 4 ( Go.Operand.tmp 154 ) , type := 4 , pos := "outright.go:42" , after := #[ { on := 27 , ground := Go.Ground.data } , { on := 26 , ground := Go.Ground.guard } ] , guard := some ( 26 , true ) }) (v := ?v28_29) hG hsel (by kernel_rfl) (by kernel_rfl) (by kernel_rfl) (by kernel_rfl) (fun _ _ _ h => h) (Or.inl (And.intro (by kernel_rfl) ?q28_29)) hS0 ?r28_29
    case q28_29 => intro w hx; refine run_env [154] [?a28_29_154] (by kernel_rfl) (by kernel_rfl) (⟨?e28_29_154, trivial⟩) ?h28_29; (case e28_29_154 => ((conv => lhs; whnf); (try exact rfl))); (case h28_29 => ((try dsimp only); (try simp only [envL, lookV, if_true, if_false]); (try go_simp); (try with_reducible rfl)))
    (try simp only [Act.put, List.setIfInBounds_toArray, List.set_cons_zero, List.set_cons_succ, List.getElem_toArray, List.getElem_cons_succ, List.getElem_cons_zero])
    refine wpAnyJ_takeG (i := 29) (oi := { dst := some 156 , op := Go.Op.unOp Go.UnOp.not 4 ( Go.Operand.tmp 155 ) , type := 4 , pos := "outright.go:42" , after := #[ { on := 28 , ground := Go.Ground.data } , { on := 26 , ground := Go.Ground.guard } ] , guard := some ( 26 , true ) }) (v := ?v29_30) hG hsel (by kernel_rfl) (by kernel_rfl) (by kernel_rfl) (by kernel_rfl) (fun _ _ _ h => h) (Or.inl (And.intro (by kernel_rfl) ?q29_30)) hS0 ?r29_30
    case q29_30 => intro w hx; refine run_env [155] [?a29_30_155] (by kernel_rfl) (by kernel_rfl) (⟨?e29_30_155, trivial⟩) ?h29_30; (case e29_30_155 => ((conv => lhs; whnf); (try exact rfl))); (case h29_30 => ((try dsimp only); (try simp only [envL, lookV, if_true, if_false]); (try go_simp); (try with_reducible rfl)))
    (try simp only [Act.put, List.setIfInBounds_toArray, List.set_cons_zero, List.set_cons_succ, List.getElem_toArray, List.getElem_cons_succ, List.getElem_cons_zero])
    refine wpAnyJ_takeG (i := 30) (oi := { dst := some 157 , op := Go.Op.pick ( Go.Operand.tmp 153 ) ( Go.Operand.tmp 156 ) ( Go.Operand.const ( Go.Value.bool false ) ) , type := 4 , pos := "outright.go:42" , after := #[ { on := 26 , ground := Go.Ground.data } , { on := 29 , ground := Go.Ground.data } ] , guard := none }) (v := ?v30_31) hG hsel (by kernel_rfl) (by kernel_rfl) (by kernel_rfl) (by kernel_rfl) (fun _ _ _ h => h) (Or.inl (And.intro (by kernel_rfl) ?q30_31)) hS0 ?r30_31
    case q30_31 => intro w hx; refine run_env [153, 156] [?a30_31_153, ?a30_31_156] (by kernel_rfl) (by kernel_rfl) (⟨?e30_31_153, ?e30_31_156, trivial⟩) ?h30_31; (case e30_31_153 => ((conv => lhs; whnf); (try exact rfl))); (case e30_31_156 => ((conv => lhs; whnf); (try exact rfl))); (case h30_31 => ((try dsimp only); (try simp only [envL, lookV, if_true, if_false]); (try go_simp); (try with_reducible rfl)))
    (try simp only [Act.put, List.setIfInBounds_toArray, List.set_cons_zero, List.set_cons_succ, List.getElem_toArray, List.getElem_cons_succ, List.getElem_cons_zero])
    refine wpAnyJ_takeG (i := 31) (oi := { dst := some 158 , op := Go.Op.move ( Go.Operand.tmp 157 ) , type := 4 , pos := "outright.go:42" , after := #[ { on := 30 , ground := Go.Ground.data } , { on := 26 , ground := Go.Ground.chain } ] , guard := none }) (v := ?v31_32) hG hsel (by kernel_rfl) (by kernel_rfl) (by kernel_rfl) (by kernel_rfl) (fun _ _ _ h => h) (Or.inl (And.intro (by kernel_rfl) ?q31_32)) hS0 ?r31_32
    case q31_32 => intro w hx; refine run_env [157] [?a31_32_157] (by kernel_rfl) (by kernel_rfl) (⟨?e31_32_157, trivial⟩) ?h31_32; (case e31_32_157 => ((conv => lhs; whnf); (try exact rfl))); (case h31_32 => ((try dsimp only); (try simp only [envL, lookV, if_true, if_false]); (try go_simp); (try with_reducible rfl)))
    (try simp only [Act.put, List.setIfInBounds_toArray, List.set_cons_zero, List.set_cons_succ, List.getElem_toArray, List.getElem_cons_succ, List.getElem_cons_zero])
    refine wpAnyJ_takeG (i := 32) (oi := { dst := some 159 , op := Go.Op.fieldAddr 31 ( Go.Operand.tmp 13 ) 1 , type := 0 , pos := "outright.go:42" , after := #[ { on := 31 , ground := Go.Ground.guard } ] , guard := some ( 31 , true ) }) (v := ?v32_33) hG hsel (by kernel_rfl) (by kernel_rfl) (by kernel_rfl) (by kernel_rfl) (fun _ _ _ h => h) (Or.inl (And.intro (by kernel_rfl) ?q32_33)) hS0 ?r32_33
    case q32_33 => intro w hx; refine run_env [13] [?a32_33_13] (by kernel_rfl) (by kernel_rfl) (⟨?e32_33_13, trivial⟩) ?h32_33; (case e32_33_13 => ((conv => lhs; whnf); (try exact rfl))); (case h32_33 => ((try dsimp only); (try simp only [envL, lookV, if_true, if_false]); (try go_simp); (try with_reducible rfl)))
    (try simp only [Act.put, List.setIfInBounds_toArray, List.set_cons_zero, List.set_cons_succ, List.getElem_toArray, List.getElem_cons_succ, List.getElem_cons_zero])
    refine wpAnyJ_takeG (i := 33) (oi := { dst := some 160 , op := Go.Op.load 26 ( Go.Operand.tmp 159 ) , type := 26 , pos := "outright.go:42" , after := #[ { on := 32 , ground := Go.Ground.data } , { on := 31 , ground := Go.Ground.guard } ] , guard := some ( 31 , true ) }) (v := ?v33_34) hG hsel (by kernel_rfl) (by kernel_rfl) (by kernel_rfl) (by kernel_rfl) (fun _ _ _ h => h) (Or.inl (And.intro (by kernel_rfl) ?q33_34)) hS0 ?r33_34
    case q33_34 => intro w hx; refine run_env [159] [?a33_34_159] (by kernel_rfl) (by kernel_rfl) (⟨?e33_34_159, trivial⟩) ?h33_34; (case e33_34_159 => ((conv => lhs; whnf); (try exact rfl))); (case h33_34 => ((try dsimp only); (try simp only [envL, lookV, if_true, if_false]); (try go_simp); (try with_reducible rfl)))
    (try simp only [Act.put, List.setIfInBounds_toArray, List.set_cons_zero, List.set_cons_succ, List.getElem_toArray, List.getElem_cons_succ, List.getElem_cons_zero])
    refine wpAnyJ_takeG (i := 34) (oi := { dst := some 161 , op := Go.Op.load 26 ( Go.Operand.tmp 3 ) , type := 26 , pos := "outright.go:42" , after := #[ { on := 31 , ground := Go.Ground.guard } ] , guard := some ( 31 , true ) }) (v := ?v34_35) hG hsel (by kernel_rfl) (by kernel_rfl) (by kernel_rfl) (by kernel_rfl) (fun _ _ _ h => h) (Or.inl (And.intro (by kernel_rfl) ?q34_35)) hS0 ?r34_35
    case q34_35 => intro w hx; refine run_env [3] [?a34_35_3] (by kernel_rfl) (by kernel_rfl) (⟨?e34_35_3, trivial⟩) ?h34_35; (case e34_35_3 => ((conv => lhs; whnf); (try exact rfl))); (case h34_35 => ((try dsimp only); (try simp only [envL, lookV, if_true, if_false]); (try go_simp); (try with_reducible rfl)))
    (try simp only [Act.put, List.setIfInBounds_toArray, List.set_cons_zero, List.set_cons_succ, List.getElem_toArray, List.getElem_cons_succ, List.getElem_cons_zero])
    refine wpAnyJ_takeG (i := 35) (oi := { dst := some 162 , op := Go.Op.binOp Go.BinOp.eql 26 ( Go.Operand.tmp 160 ) ( Go.Operand.tmp 161 ) 26 , type := 4 , pos := "outright.go:42" , after := #[ { on := 33 , ground := Go.Ground.data } , { on := 34 , ground := Go.Ground.data } , { on := 31 , ground := Go.Ground.guard } ] , guard := some ( 31 , true ) }) (v := ?v35_36) hG hsel (by kernel_rfl) (by kernel_rfl) (by kernel_rfl) (by kernel_rfl) (fun _ _ _ h => h) (Or.inl (And.intro (by kernel_rfl) ?q35_36)) hS0 ?r35_36
    case q35_36 => intro w hx; refine run_env [160, 161] [?a35_36_160, ?a35_36_161] (by kernel_rfl) (by kernel_rfl) (⟨?e35_36_160, ?e35_36_161, trivial⟩) ?h35_36; (case e35_36_160 => ((conv => lhs; whnf); (try exact rfl))); (case e35_36_161 => ((conv => lhs; whnf); (try exact rfl))); (case h35_36 => ((try dsimp only); (try simp only [envL, lookV, if_true, if_false]); (try go_simp); (try with_reducible rfl)))
    (try simp only [Act.put, List.setIfInBounds_toArray, List.set_cons_zero, List.set_cons_succ, List.getElem_toArray, List.getElem_cons_succ, List.getElem_cons_zero])
    refine wpAnyJ_takeG (i := 36) (oi := { dst := some 163 , op := Go.Op.pick ( Go.Operand.tmp 158 ) ( Go.Operand.tmp 162 ) ( Go.Operand.const ( Go.Value.bool false ) ) , type := 4 , pos := "outright.go:42" , after := #[ { on := 31 , ground := Go.Ground.data } , { on := 35 , ground := Go.Ground.data } ] , guard := none }) (v := ?v36_37) hG hsel (by kernel_rfl) (by kernel_rfl) (by kernel_rfl) (by kernel_rfl) (fun _ _ _ h => h) (Or.inl (And.intro (by kernel_rfl) ?q36_37)) hS0 ?r36_37
    case q36_37 => intro w hx; refine run_env [158, 162] [?a36_37_158, ?a36_37_162] (by kernel_rfl) (by kernel_rfl) (⟨?e36_37_158, ?e36_37_162, trivial⟩) ?h36_37; (case e36_37_158 => ((conv => lhs; whnf); (try exact rfl))); (case e36_37_162 => ((conv => lhs; whnf); (try exact rfl))); (case h36_37 => ((try dsimp only); (try simp only [envL, lookV, if_true, if_false]); (try go_simp); (try with_reducible rfl)))
    (try simp only [Act.put, List.setIfInBounds_toArray, List.set_cons_zero, List.set_cons_succ, List.getElem_toArray, List.getElem_cons_succ, List.getElem_cons_zero])
    refine wpAnyJ_takeG (i := 37) (oi := { dst := some 164 , op := Go.Op.move ( Go.Operand.tmp 163 ) , type := 4 , pos := "outright.go:42" , after := #[ { on := 36 , ground := Go.Ground.data } , { on := 31 , ground := Go.Ground.chain } ] , guard := none }) (v := ?v37_38) hG hsel (by kernel_rfl) (by kernel_rfl) (by kernel_rfl) (by kernel_rfl) (fun _ _ _ h => h) (Or.inl (And.intro (by kernel_rfl) ?q37_38)) hS0 ?r37_38
    case q37_38 => intro w hx; refine run_env [163] [?a37_38_163] (by kernel_rfl) (by kernel_rfl) (⟨?e37_38_163, trivial⟩) ?h37_38; (case e37_38_163 => ((conv => lhs; whnf); (try exact rfl))); (case h37_38 => ((try dsimp only); (try simp only [envL, lookV, if_true, if_false]); (try go_simp); (try with_reducible rfl)))
    (try simp only [Act.put, List.setIfInBounds_toArray, List.set_cons_zero, List.set_cons_succ, List.getElem_toArray, List.getElem_cons_succ, List.getElem_cons_zero])
    refine wpAnyJ_takeG (i := 38) (oi := { dst := some 165 , op := Go.Op.fieldAddr 31 ( Go.Operand.tmp 13 ) 4 , type := 0 , pos := "outright.go:42" , after := #[ { on := 37 , ground := Go.Ground.guard } ] , guard := some ( 37 , true ) }) (v := ?v38_39) hG hsel (by kernel_rfl) (by kernel_rfl) (by kernel_rfl) (by kernel_rfl) (fun _ _ _ h => h) (Or.inl (And.intro (by kernel_rfl) ?q38_39)) hS0 ?r38_39
    case q38_39 => intro w hx; refine run_env [13] [?a38_39_13] (by kernel_rfl) (by kernel_rfl) (⟨?e38_39_13, trivial⟩) ?h38_39; (case e38_39_13 => ((conv => lhs; whnf); (try exact rfl))); (case h38_39 => ((try dsimp only); (try simp only [envL, lookV, if_true, if_false]); (try go_simp); (try with_reducible rfl)))
    (try simp only [Act.put, List.setIfInBounds_toArray, List.set_cons_zero, List.set_cons_succ, List.getElem_toArray, List.getElem_cons_succ, List.getElem_cons_zero])
    refine wpAnyJ_takeG (i := 39) (oi := { dst := some 166 , op := Go.Op.load 29 ( Go.Operand.tmp 165 ) , type := 29 , pos := "outright.go:42" , after := #[ { on := 38 , ground := Go.Ground.data } , { on := 37 , ground := Go.Ground.guard } ] , guard := some ( 37 , true ) }) (v := ?v39_40) hG hsel (by kernel_rfl) (by kernel_rfl) (by kernel_rfl) (by kernel_rfl) (fun _ _ _ h => h) (Or.inl (And.intro (by kernel_rfl) ?q39_40)) hS0 ?r39_40
    case q39_40 => intro w hx; refine run_env [165] [?a39_40_165] (by kernel_rfl) (by kernel_rfl) (⟨?e39_40_165, trivial⟩) ?h39_40; (case e39_40_165 => ((conv => lhs; whnf); (try exact rfl))); (case h39_40 => ((try dsimp only); (try simp only [envL, lookV, if_true, if_false]); (try go_simp); (try with_reducible rfl)))
    (try simp only [Act.put, List.setIfInBounds_toArray, List.set_cons_zero, List.set_cons_succ, List.getElem_toArray, List.getElem_cons_succ, List.getElem_cons_zero])
    refine wpAnyJ_takeG (i := 40) (oi := { dst := some 167 , op := Go.Op.indexAddr 29 ( Go.Operand.tmp 166 ) ( Go.Operand.const ( Go.Value.int Go.IntKind.i64 1 ) ) , type := 0 , pos := "outright.go:42" , after := #[ { on := 39 , ground := Go.Ground.data } , { on := 37 , ground := Go.Ground.guard } ] , guard := some ( 37 , true ) }) (v := ?v40_41) hG hsel (by kernel_rfl) (by kernel_rfl) (by kernel_rfl) (by kernel_rfl) (fun _ _ _ h => h) (Or.inl (And.intro (by kernel_rfl) ?q40_41)) hS0 ?r40_41
    case q40_41 => intro w hx; refine run_env [166] [?a40_41_166] (by kernel_rfl) (by kernel_rfl) (⟨?e40_41_166, trivial⟩) ?h40_41; (case e40_41_166 => ((conv => lhs; whnf); (try exact rfl))); (case h40_41 => ((try dsimp only); (try simp only [envL, lookV, if_true, if_false]); (try go_simp); (try with_reducible rfl)))
    (try simp only [Act.put, List.setIfInBounds_toArray, List.set_cons_zero, List.set_cons_succ, List.getElem_toArray, List.getElem_cons_succ, List.getElem_cons_zero])
    refine wpAnyJ_takeG (i := 41) (oi := { dst := some 168 , op := Go.Op.fieldAddr 40 ( Go.Operand.tmp 167 ) 2 , type := 0 , pos := "outright.go:42" , after := #[ { on := 40 , ground := Go.Ground.data } , { on := 37 , ground := Go.Ground.guard } ] , guard := some ( 37 , true ) }) (v := ?v41_42) hG hsel (by kernel_rfl) (by kernel_rfl) (by kernel_rfl) (by kernel_rfl) (fun _ _ _ h => h) (Or.inl (And.intro (by kernel_rfl) ?q41_42)) hS0 ?r41_42
    case q41_42 => intro w hx; refine run_env [167] [?a41_42_167] (by kernel_rfl) (by kernel_rfl) (⟨?e41_42_167, trivial⟩) ?h41_42; (case e41_42_167 => ((conv => lhs; whnf); (try exact rfl))); (case h41_42 => ((try dsimp only); (try simp only [envL, lookV, if_true, if_false]); (try go_simp); (try with_reducible rfl)))
    (try simp only [Act.put, List.setIfInBounds_toArray, List.set_cons_zero, List.set_cons_succ, List.getElem_toArray, List.getElem_cons_succ, List.getElem_cons_zero])
    refine wpAnyJ_takeG (i := 42) (oi := { dst := some 169 , op := Go.Op.load 26 ( Go.Operand.tmp 168 ) , type := 26 , pos := "outright.go:42" , after := #[ { on := 41 , ground := Go.Ground.data } , { on := 37 , ground := Go.Ground.guard } ] , guard := some ( 37 , true ) }) (v := ?v42_43) hG hsel (by kernel_rfl) (by kernel_rfl) (by kernel_rfl) (by kernel_rfl) (fun _ _ _ h => h) (Or.inl (And.intro (by kernel_rfl) ?q42_43)) hS0 ?r42_43
    case q42_43 => intro w hx; refine run_env [168] [?a42_43_168] (by kernel_rfl) (by kernel_rfl) (⟨?e42_43_168, trivial⟩) ?h42_43; (case e42_43_168 => ((conv => lhs; whnf); (try exact rfl))); (case h42_43 => ((try dsimp only); (try simp only [envL, lookV, if_true, if_false]); (try go_simp); (try with_reducible rfl)))
    (try simp only [Act.put, List.setIfInBounds_toArray, List.set_cons_zero, List.set_cons_succ, List.getElem_toArray, List.getElem_cons_succ, List.getElem_cons_zero])
    refine wpAnyJ_takeG (i := 43) (oi := { dst := some 170 , op := Go.Op.load 26 ( Go.Operand.tmp 5 ) , type := 26 , pos := "outright.go:42" , after := #[ { on := 37 , ground := Go.Ground.guard } ] , guard := some ( 37 , true ) }) (v := ?v43_44) hG hsel (by kernel_rfl) (by kernel_rfl) (by kernel_rfl) (by kernel_rfl) (fun _ _ _ h => h) (Or.inl (And.intro (by kernel_rfl) ?q43_44)) hS0 ?r43_44
    case q43_44 => intro w hx; refine run_env [5] [?a43_44_5] (by kernel_rfl) (by kernel_rfl) (⟨?e43_44_5, trivial⟩) ?h43_44; (case e43_44_5 => ((conv => lhs; whnf); (try exact rfl))); (case h43_44 => ((try dsimp only); (try simp only [envL, lookV, if_true, if_false]); (try go_simp); (try with_reducible rfl)))
    (try simp only [Act.put, List.setIfInBounds_toArray, List.set_cons_zero, List.set_cons_succ, List.getElem_toArray, List.getElem_cons_succ, List.getElem_cons_zero])
    refine wpAnyJ_takeG (i := 44) (oi := { dst := some 171 , op := Go.Op.binOp Go.BinOp.eql 26 ( Go.Operand.tmp 169 ) ( Go.Operand.tmp 170 ) 26 , type := 4 , pos := "outright.go:42" , after := #[ { on := 42 , ground := Go.Ground.data } , { on := 43 , ground := Go.Ground.data } , { on := 37 , ground := Go.Ground.guard } ] , guard := some ( 37 , true ) }) (v := ?v44_45) hG hsel (by kernel_rfl) (by kernel_rfl) (by kernel_rfl) (by kernel_rfl) (fun _ _ _ h => h) (Or.inl (And.intro (by kernel_rfl) ?q44_45)) hS0 ?r44_45
    case q44_45 => intro w hx; refine run_env [169, 170] [?a44_45_169, ?a44_45_170] (by kernel_rfl) (by kernel_rfl) (⟨?e44_45_169, ?e44_45_170, trivial⟩) ?h44_45; (case e44_45_169 => ((conv => lhs; whnf); (try exact rfl))); (case e44_45_170 => ((conv => lhs; whnf); (try exact rfl))); (case h44_45 => ((try dsimp only); (try simp only [envL, lookV, if_true, if_false]); (try go_simp); (try with_reducible rfl)))
    (try simp only [Act.put, List.setIfInBounds_toArray, List.set_cons_zero, List.set_cons_succ, List.getElem_toArray, List.getElem_cons_succ, List.getElem_cons_zero])
    refine wpAnyJ_takeG (i := 45) (oi := { dst := some 172 , op := Go.Op.pick ( Go.Operand.tmp 164 ) ( Go.Operand.tmp 171 ) ( Go.Operand.const ( Go.Value.bool false ) ) , type := 4 , pos := "outright.go:42" , after := #[ { on := 37 , ground := Go.Ground.data } , { on := 44 , ground := Go.Ground.data } ] , guard := none }) (v := ?v45_46) hG hsel (by kernel_rfl) (by kernel_rfl) (by kernel_rfl) (by kernel_rfl) (fun _ _ _ h => h) (Or.inl (And.intro (by kernel_rfl) ?q45_46)) hS0 ?r45_46
    case q45_46 => intro w hx; refine run_env [164, 171] [?a45_46_164, ?a45_46_171] (by kernel_rfl) (by kernel_rfl) (⟨?e45_46_164, ?e45_46_171, trivial⟩) ?h45_46; (case e45_46_164 => ((conv => lhs; whnf); (try exact rfl))); (case e45_46_171 => ((conv => lhs; whnf); (try exact rfl))); (case h45_46 => ((try dsimp only); (try simp only [envL, lookV, if_true, if_false]); (try go_simp); (try with_reducible rfl)))
    (try simp only [Act.put, List.setIfInBounds_toArray, List.set_cons_zero, List.set_cons_succ, List.getElem_toArray, List.getElem_cons_succ, List.getElem_cons_zero])
    refine wpAnyJ_takeG (i := 46) (oi := { dst := some 0 , op := Go.Op.assign ( Go.Operand.tmp 172 ) , type := 4 , pos := "outright.go:42" , after := #[ { on := 45 , ground := Go.Ground.data } , { on := 37 , ground := Go.Ground.chain } , { on := 0 , ground := Go.Ground.phase } , { on := 1 , ground := Go.Ground.phase } , { on := 2 , ground := Go.Ground.phase } , { on := 3 , ground := Go.Ground.phase } , { on := 4 , ground := Go.Ground.phase } , { on := 5 , ground := Go.Ground.phase } , { on := 6 , ground := Go.Ground.phase } , { on := 7 , ground := Go.Ground.phase } , { on := 8 , ground := Go.Ground.phase } , { on := 9 , ground := Go.Ground.phase } , { on := 10 , ground := Go.Ground.phase } , { on := 11 , ground := Go.Ground.phase } , { on := 12 , ground := Go.Ground.phase } , { on := 13 , ground := Go.Ground.phase } , { on := 14 , ground := Go.Ground.phase } , { on := 15 , ground := Go.Ground.phase } , { on := 16 , ground := Go.Ground.phase } , { on := 17 , ground := Go.Ground.phase } , { on := 18 , ground := Go.Ground.phase } , { on := 19 , ground := Go.Ground.phase } , { on := 20 , ground := Go.Ground.phase } , { on := 21 , ground := Go.Ground.phase } , { on := 22 , ground := Go.Ground.phase } , { on := 23 , ground := Go.Ground.phase } , { on := 24 , ground := Go.Ground.phase } , { on := 25 , ground := Go.Ground.phase } , { on := 26 , ground := Go.Ground.phase } , { on := 27 , ground := Go.Ground.phase } , { on := 28 , ground := Go.Ground.phase } , { on := 29 , ground := Go.Ground.phase } , { on := 30 , ground := Go.Ground.phase } , { on := 31 , ground := Go.Ground.phase } , { on := 32 , ground := Go.Ground.phase } , { on := 33 , ground := Go.Ground.phase } , { on := 34 , ground := Go.Ground.phase } , { on := 35 , ground := Go.Ground.phase } , { on := 36 , ground := Go.Ground.phase } , { on := 37 , ground := Go.Ground.phase } , { on := 38 , ground := Go.Ground.phase } , { on := 39 , ground := Go.Ground.phase } , { on := 40 , ground := Go.Ground.phase } , { on := 41 , ground := Go.Ground.phase } , { on := 42 , ground := Go.Ground.phase } , { on := 43 , ground := Go.Ground.phase } , { on := 44 , ground := Go.Ground.phase } , { on := 45 , ground := Go.Ground.phase } ] , guard := none }) (v := ?v46_47) hG hsel (by kernel_rfl) (by kernel_rfl) (by kernel_rfl) (by kernel_rfl) (fun _ _ _ h => h) (Or.inl (And.intro (by kernel_rfl) ?q46_47)) hS0 ?r46_47
    case q46_47 => intro w hx; refine run_env [172] [?a46_47_172] (by kernel_rfl) (by kernel_rfl) (⟨?e46_47_172, trivial⟩) ?h46_47; (case e46_47_172 => ((conv => lhs; whnf); (try exact rfl))); (case h46_47 => ((try dsimp only); (try simp only [envL, lookV, if_true, if_false]); (try go_simp); (try with_reducible rfl)))
    (try simp only [Act.put, List.setIfInBounds_toArray, List.set_cons_zero, List.set_cons_succ, List.getElem_toArray, List.getElem_cons_succ, List.getElem_cons_zero])
    refine wpAnyJ_done (by kernel_rfl) ?_ _
  have LF := hide (bstep L.out hS0)
  go_wp2_with fail
  go_ret
  exact ⟨by first | rfl | simp, LF.out⟩
end Go.Proofs.YtilfcikhipadpaaDoor
end

section
/- BindsMake: what its walk calls. -/
set_option linter.unusedVariables false
set_option linter.unusedSimpArgs false
namespace Go.Proofs.YtilfcikhipadpaaDoor
open Go.RowKit Go.Lib
attribute [local go_sem] Oper.semAt_some envL lookV

theorem l_plan2 (w : World) (q : Pln) (A : Option Addr) (n c : Nat) (hn : n = q.ws.length) (hA : wantK.Has w A q.ws) (hn6 : n ≤ 1000) (hc : n ≤ c) :
    Calls Tryd.prog 5 #[.agg #[.int .u8 q.x.p, .int .u32 q.x.si, .int .u16 q.x.sp, .int .u32 q.x.di, .int .u16 q.x.dp, .int .u32 q.di, .int .u16 q.dp, .bool q.src, .int .i64 q.st, .slice A n c]] w (fun e w' => ∃ Aq cq, e = .returned (.agg #[.int .u8 q.x.p, .int .u32 q.x.si, .int .u16 q.x.sp, .int .u32 q.x.di, .int .u16 q.x.dp, .int .u32 q.di, .int .u16 q.dp, .bool q.src, .int .i64 q.st, .slice Aq n cq]) ∧ dwantK.Has w' Aq q.ws ∧ n ≤ cq ∧ Below w.heap.size w w') :=
  (l_plan w q A n c hn hA hn6 hc).mono (by
    rintro e w' ⟨V, rfl, own, _, b⟩
    obtain ⟨Aq, cq, rfl, hc, hh⟩ := own.has
    rw [← hn] at hc ⊢
    exact ⟨Aq, cq, rfl, hh, hc, b⟩)
theorem l_Doc2 (w : World) (q : Ent) (A : Option Addr) (n c : Nat) (hn : n = q.hs.length) (hA : holdK.Has w A q.hs) (hn6 : n ≤ 1000) (hc : n ≤ c) :
    Calls Tryd.prog 11 #[.agg (q.cells (.slice A n c))] w (fun e w' => ∃ Aq cq, e = .returned (.agg (q.cells (.slice Aq n cq))) ∧ dholdK.Has w' Aq q.hs ∧ n ≤ cq ∧ Below w.heap.size w w') :=
  (l_Doc w q A n c hn hA hn6 hc).mono (by
    rintro e w' ⟨V, rfl, own, _, b⟩
    obtain ⟨Aq, cq, rfl, hc, hh⟩ := own.has
    rw [← hn] at hc ⊢
    exact ⟨Aq, cq, rfl, hh, hc, b⟩)
theorem makeV_len (q : Pln) (os : List Pt) (now : Int) : (makeV q os now).1.hs.length ≤ q.ws.length := by
  unfold makeV
  repeat' split
  · exact Nat.zero_le _
  · exact Nat.zero_le _
  · exact Nat.zero_le _
  · show (holdsL q.ws os).length ≤ _
    unfold holdsL; simp; omega
def Gave (K : RowK Hld) (w : World) (E : Ent × Int) (m : Nat) (e : Ending) (w' : World) : Prop := ∃ Ah ch, e = .returned (.tuple #[.agg (E.1.cells (.slice Ah m ch)), .int .i64 E.2]) ∧ K.Has w' Ah E.1.hs ∧ m ≤ ch ∧ Below w.heap.size w w'
theorem Made.gave {K : RowK Hld} {w : World} {E : Ent × Int} {m : Nat} (hm : m = E.1.hs.length) {e : Ending} {w' : World} (h : Made K w E e w') : Gave K w E m e w' := by
  obtain ⟨V, rfl, own, _, b⟩ := h
  obtain ⟨Aq, cq, rfl, hc, hh⟩ := own.has
  rw [← hm] at hc ⊢
  exact ⟨Aq, cq, rfl, hh, hc, b⟩
/-- endpoints that meet wants -/
def metOf (x : Wnt) : Pt := if x.fx = true then ⟨x.oi, x.op⟩ else ⟨x.a, x.f⟩
theorem RowK.Read.below {α : Type} {K : RowK α} {W W' : World} {x : Value} {m : List α} (h : K.Read W x m) (k : Below W.heap.size W W') : K.Read W' x m := by
  rcases h with h | ⟨a, c, h, hc⟩
  · exact Or.inl h
  · refine Or.inr ⟨a, c, h, fun j u hu => ?_⟩
    have h1 := hc j u hu
    have h2 := World.block_lt_of_cell? W _ h1
    rw [k.cell (p := a.add j) h2]
    exact h1
theorem RowK.Own.hasS {α : Type} {K : RowK α} {W : World} {A : Option Addr} {n c : Nat} {l : List α} (h : K.Own W (.slice A n c) l) : n = l.length ∧ n ≤ c ∧ K.Has W A l := by
  obtain ⟨A', c', hv, hc, hh⟩ := h.has
  cases hv
  exact ⟨rfl, hc, hh⟩
theorem bits_i64_bd (op : BinOp) (a b : Int) : -9223372036854775808 ≤ bits op .i64 a b ∧ bits op .i64 a b ≤ 9223372036854775807 := by
  unfold bits
  rw [IntKind.wrap_i64]
  omega
end Go.Proofs.YtilfcikhipadpaaDoor
end
