/- Several texts of this claim, one behind the other. -/
import Derived.Test.YtjeaknipmdfkdaaGreatDoorK29
import Derived.Test.YtjeaknipmdfkdaaGreatDoorK2
import Derived.Test.YtjeaknipmdfkdaaGreatDoorK22
import Derived.Test.YtjeaknipmdfkdaaGreatDoorK9
import Derived.Test.YtjeaknipmdfkdaaGreatDoorK4

section
/- The document's answer for rewrite (porterref09): Ports, over this program. -/
set_option linter.unusedVariables false
set_option linter.unusedSimpArgs false
namespace Go.Proofs.YtjeaknipmdfkdaaGreatDoor
open Go.RowKit
attribute [local go_sem] Oper.semAt_some

set_option maxRecDepth 100000 in
set_option maxHeartbeats 4000000 in
theorem rn_ports_t (a b c d : Int) (l ips : ByteArray) (v n0 nF : Int) (pr ip t1 pn out : ByteArray) (w : World) (hl : l.size ≤ 1000000) (h20 : 18 ≤ l.size) (hpr : pr.size = 4) (hip : ip.size = 8) (hips : ips.size = 8)
    (f1 : ∀ W (A : Option Addr), Row W W.heap.size A 2 (ints16 [b, d]) → Calls Tryz.prog 82 #[.slice A 2 2] W (Ret (.string pr) W))
    (f2 : ∀ W, Calls Tryz.prog 60 #[.string l, .int .i64 16] W (Ret (.int .u16 v) W))
    (f4 : ∀ W, Calls Tryz.prog 76 #[.agg #[.int .u32 a, .int .u16 b, .int .u32 c, .int .u16 d]] W (Ret (.string ip) W))
    (f6 : ∀ W, Calls Tryz.prog 37 #[.int .u16 v, .string (ips ++ l.extract 0 4), .string (ip ++ pr)] W (Ret (.int .u16 n0) W))
    (f7 : ∀ W, Calls Tryz.prog 38 #[.string l, .int .i64 0, .string pr] W (Ret (.string t1) W))
    (f8 : ∀ W, Calls Tryz.prog 39 #[.int .u16 nF] W (Ret (.string pn) W))
    (f9 : ∀ W, Calls Tryz.prog 38 #[.string t1, .int .i64 16, .string pn] W (Ret (.string out) W))
    (hF : nF = n0) :
    Calls Tryz.prog 74 #[.string l, .string ips, .agg #[.int .u32 a, .int .u16 b, .int .u32 c, .int .u16 d], .int .i64 16] w (Ret (.string out) w) := by
  subst hF
  have i1 : (4 : Int) ≤ (l.size : Int) := by omega
  have k1 : (ips ++ l.extract 0 4).size ≤ 1000 := by rw [ByteArray.size_append, ByteArray.size_extract]; omega
  have k2 : (ip ++ pr).size ≤ 1000 := by rw [ByteArray.size_append]; omega
  have F1 := hide f1; have F2 := hide f2; have F4 := hide f4; have F6 := hide f6; have F7 := hide f7; have F8 := hide f8; have F9 := hide f9
  clear f1 f2 f4 f6 f7 f8 f9
  go_enter Tryz.func74, Tryz.ntmps74
  have d0 := Cells.new w #[.int .u32 a, .int .u16 b, .int .u32 c, .int .u16 d] 39
  go_wp2_with fail
  (with_reducible refine Calls.mono (F1.out _ _ (Row.freshAt _ _ _ _ _ _ (by simp) rfl rfl)) ?_)
  rintro e w1 ⟨rfl, b1⟩
  have d1 := Cells.up d0 (fresh_below _ _) b1
  replace b1 : Below w.heap.size w w1 := bstep (bstep (fresh_below _ _) (fresh_below _ _)) b1
  clear d0
  go_wp2_with fail
  (with_reducible refine (F2.out _).mono ?_)
  rintro e w2 ⟨rfl, b2⟩
  have d2 := Cells.below b2 d1
  replace b2 : Below w.heap.size w w2 := bstep b1 b2
  clear d1 b1
  go_wp2_with fail
  have SK := hide (fun (zX zY : World) (zh : (Below w.heap.size w zX ∧ zX.cell? ⟨w.heap.size, 0, none⟩ = some (.int .u32 a) ∧ zX.cell? ⟨w.heap.size, 1, none⟩ = some (.int .u16 b) ∧ zX.cell? ⟨w.heap.size, 2, none⟩ = some (.int .u32 c) ∧ zX.cell? ⟨w.heap.size, 3, none⟩ = some (.int .u16 d) ∧ True)) (zb : Below zX.heap.size zX zY) => (show (Below w.heap.size w zY ∧ zY.cell? ⟨w.heap.size, 0, none⟩ = some (.int .u32 a) ∧ zY.cell? ⟨w.heap.size, 1, none⟩ = some (.int .u16 b) ∧ zY.cell? ⟨w.heap.size, 2, none⟩ = some (.int .u32 c) ∧ zY.cell? ⟨w.heap.size, 3, none⟩ = some (.int .u16 d) ∧ True) from ⟨bstep zh.1 zb, cellAt zb zh.2.1, cellAt zb zh.2.2.1, cellAt zb zh.2.2.2.1, cellAt zb zh.2.2.2.2.1, trivial⟩))
  have FS := hide (fun (zX : World) (zh : (Below w.heap.size w zX ∧ zX.cell? ⟨w.heap.size, 0, none⟩ = some (.int .u32 a) ∧ zX.cell? ⟨w.heap.size, 1, none⟩ = some (.int .u16 b) ∧ zX.cell? ⟨w.heap.size, 2, none⟩ = some (.int .u32 c) ∧ zX.cell? ⟨w.heap.size, 3, none⟩ = some (.int .u16 d) ∧ True)) => zh.1)
  have GS := hide (fun (zX : World) (zh : (Below w.heap.size w zX ∧ zX.cell? ⟨w.heap.size, 0, none⟩ = some (.int .u32 a) ∧ zX.cell? ⟨w.heap.size, 1, none⟩ = some (.int .u16 b) ∧ zX.cell? ⟨w.heap.size, 2, none⟩ = some (.int .u32 c) ∧ zX.cell? ⟨w.heap.size, 3, none⟩ = some (.int .u16 d) ∧ True)) => zh)
  have hS0 : (Below w.heap.size w w2 ∧ w2.cell? ⟨w.heap.size, 0, none⟩ = some (.int .u32 a) ∧ w2.cell? ⟨w.heap.size, 1, none⟩ = some (.int .u16 b) ∧ w2.cell? ⟨w.heap.size, 2, none⟩ = some (.int .u32 c) ∧ w2.cell? ⟨w.heap.size, 3, none⟩ = some (.int .u16 d) ∧ True) := ⟨(by (repeat' (first | with_reducible exact b2 | with_reducible exact Below.refl _ _ | with_reducible refine Below.setCell ?_ (by first | exact Nat.le_refl _ | (dsimp only; omega)) _ | with_reducible refine bstep ?_ (fresh_below _ _) | with_reducible refine Below.drew ?_))), d2.at_ 0, d2.at_ 1, d2.at_ 2, d2.at_ 3, trivial⟩
  go_region_held_law (fun w' => (Below w.heap.size w w' ∧ w'.cell? ⟨w.heap.size, 0, none⟩ = some (.int .u32 a) ∧ w'.cell? ⟨w.heap.size, 1, none⟩ = some (.int .u16 b) ∧ w'.cell? ⟨w.heap.size, 2, none⟩ = some (.int .u32 c) ∧ w'.cell? ⟨w.heap.size, 3, none⟩ = some (.int .u16 d) ∧ True)) (first | assumption | exact SK.out _ _ hS0 (Below.refl _ _).drew | exact SK.out _ _ hS0 (fresh_below _ _).drew | exact SK.out _ _ (by assumption) (fresh_below _ _) | (refine SK.out _ _ ?_ (by assumption); assumption))
    (first | (go_at_call 76; (with_reducible refine (F4.out _).mono ?_); rintro e wq ⟨rfl, bq⟩) | (go_at_call 37; (with_reducible refine (F6.out _).mono ?_); rintro e wq ⟨rfl, bq⟩))
  all_goals
    have gs := GS.out _ (by assumption)
    have gb : Below w.heap.size w wq := gs.1
    clear SK FS GS hS0 gs
    obtain ⟨w3, rfl⟩ : ∃ W : World, W = wq := ⟨_, rfl⟩
    have b3 := gb
    go_wp2_with fail
    (with_reducible refine (F7.out _).mono ?_)
    rintro e w4 ⟨rfl, b4⟩
    replace b4 : Below w.heap.size w w4 := bstep b3 b4
    go_wp2_with fail
    (with_reducible refine (F8.out _).mono ?_)
    rintro e w5 ⟨rfl, b5⟩
    replace b5 : Below w.heap.size w w5 := bstep b4 b5
    go_wp2_with fail
    (with_reducible refine (F9.out _).mono ?_)
    rintro e w6 ⟨rfl, b6⟩
    replace b6 : Below w.heap.size w w6 := bstep b5 b6
    go_wp2_with fail
    go_ret
    exact ⟨rfl, b6⟩

set_option maxRecDepth 100000 in
set_option maxHeartbeats 4000000 in
theorem rn_ports_u0 (a b c d : Int) (l ips : ByteArray) (v n0 nF : Int) (pr ip t1 pn out : ByteArray) (w : World) (hl : l.size ≤ 1000000) (h20 : 8 ≤ l.size) (hpr : pr.size = 4) (hip : ip.size = 8) (hips : ips.size = 8)
    (f1 : ∀ W (A : Option Addr), Row W W.heap.size A 2 (ints16 [b, d]) → Calls Tryz.prog 82 #[.slice A 2 2] W (Ret (.string pr) W))
    (f2 : ∀ W, Calls Tryz.prog 60 #[.string l, .int .i64 6] W (Ret (.int .u16 v) W))
    (f4 : ∀ W, Calls Tryz.prog 76 #[.agg #[.int .u32 a, .int .u16 b, .int .u32 c, .int .u16 d]] W (Ret (.string ip) W))
    (f6 : ∀ W, Calls Tryz.prog 37 #[.int .u16 v, .string (ips ++ l.extract 0 4), .string (ip ++ pr)] W (Ret (.int .u16 n0) W))
    (f7 : ∀ W, Calls Tryz.prog 38 #[.string l, .int .i64 0, .string pr] W (Ret (.string t1) W))
    (f8 : ∀ W, Calls Tryz.prog 39 #[.int .u16 nF] W (Ret (.string pn) W))
    (f9 : ∀ W, Calls Tryz.prog 38 #[.string t1, .int .i64 6, .string pn] W (Ret (.string out) W))
    (hv : v = 0) (hF : nF = 0) :
    Calls Tryz.prog 74 #[.string l, .string ips, .agg #[.int .u32 a, .int .u16 b, .int .u32 c, .int .u16 d], .int .i64 6] w (Ret (.string out) w) := by
  subst hF; subst hv
  have i1 : (4 : Int) ≤ (l.size : Int) := by omega
  have k1 : (ips ++ l.extract 0 4).size ≤ 1000 := by rw [ByteArray.size_append, ByteArray.size_extract]; omega
  have k2 : (ip ++ pr).size ≤ 1000 := by rw [ByteArray.size_append]; omega
  have F1 := hide f1; have F2 := hide f2; have F4 := hide f4; have F6 := hide f6; have F7 := hide f7; have F8 := hide f8; have F9 := hide f9
  clear f1 f2 f4 f6 f7 f8 f9
  go_enter Tryz.func74, Tryz.ntmps74
  have d0 := Cells.new w #[.int .u32 a, .int .u16 b, .int .u32 c, .int .u16 d] 39
  go_wp2_with fail
  (with_reducible refine Calls.mono (F1.out _ _ (Row.freshAt _ _ _ _ _ _ (by simp) rfl rfl)) ?_)
  rintro e w1 ⟨rfl, b1⟩
  have d1 := Cells.up d0 (fresh_below _ _) b1
  replace b1 : Below w.heap.size w w1 := bstep (bstep (fresh_below _ _) (fresh_below _ _)) b1
  clear d0
  go_wp2_with fail
  (with_reducible refine (F2.out _).mono ?_)
  rintro e w2 ⟨rfl, b2⟩
  have d2 := Cells.below b2 d1
  replace b2 : Below w.heap.size w w2 := bstep b1 b2
  clear d1 b1
  go_wp2_with fail
  have SK := hide (fun (zX zY : World) (zh : (Below w.heap.size w zX ∧ zX.cell? ⟨w.heap.size, 0, none⟩ = some (.int .u32 a) ∧ zX.cell? ⟨w.heap.size, 1, none⟩ = some (.int .u16 b) ∧ zX.cell? ⟨w.heap.size, 2, none⟩ = some (.int .u32 c) ∧ zX.cell? ⟨w.heap.size, 3, none⟩ = some (.int .u16 d) ∧ True)) (zb : Below zX.heap.size zX zY) => (show (Below w.heap.size w zY ∧ zY.cell? ⟨w.heap.size, 0, none⟩ = some (.int .u32 a) ∧ zY.cell? ⟨w.heap.size, 1, none⟩ = some (.int .u16 b) ∧ zY.cell? ⟨w.heap.size, 2, none⟩ = some (.int .u32 c) ∧ zY.cell? ⟨w.heap.size, 3, none⟩ = some (.int .u16 d) ∧ True) from ⟨bstep zh.1 zb, cellAt zb zh.2.1, cellAt zb zh.2.2.1, cellAt zb zh.2.2.2.1, cellAt zb zh.2.2.2.2.1, trivial⟩))
  have FS := hide (fun (zX : World) (zh : (Below w.heap.size w zX ∧ zX.cell? ⟨w.heap.size, 0, none⟩ = some (.int .u32 a) ∧ zX.cell? ⟨w.heap.size, 1, none⟩ = some (.int .u16 b) ∧ zX.cell? ⟨w.heap.size, 2, none⟩ = some (.int .u32 c) ∧ zX.cell? ⟨w.heap.size, 3, none⟩ = some (.int .u16 d) ∧ True)) => zh.1)
  have GS := hide (fun (zX : World) (zh : (Below w.heap.size w zX ∧ zX.cell? ⟨w.heap.size, 0, none⟩ = some (.int .u32 a) ∧ zX.cell? ⟨w.heap.size, 1, none⟩ = some (.int .u16 b) ∧ zX.cell? ⟨w.heap.size, 2, none⟩ = some (.int .u32 c) ∧ zX.cell? ⟨w.heap.size, 3, none⟩ = some (.int .u16 d) ∧ True)) => zh)
  have hS0 : (Below w.heap.size w w2 ∧ w2.cell? ⟨w.heap.size, 0, none⟩ = some (.int .u32 a) ∧ w2.cell? ⟨w.heap.size, 1, none⟩ = some (.int .u16 b) ∧ w2.cell? ⟨w.heap.size, 2, none⟩ = some (.int .u32 c) ∧ w2.cell? ⟨w.heap.size, 3, none⟩ = some (.int .u16 d) ∧ True) := ⟨(by (repeat' (first | with_reducible exact b2 | with_reducible exact Below.refl _ _ | with_reducible refine Below.setCell ?_ (by first | exact Nat.le_refl _ | (dsimp only; omega)) _ | with_reducible refine bstep ?_ (fresh_below _ _) | with_reducible refine Below.drew ?_))), d2.at_ 0, d2.at_ 1, d2.at_ 2, d2.at_ 3, trivial⟩
  go_region_held_law (fun w' => (Below w.heap.size w w' ∧ w'.cell? ⟨w.heap.size, 0, none⟩ = some (.int .u32 a) ∧ w'.cell? ⟨w.heap.size, 1, none⟩ = some (.int .u16 b) ∧ w'.cell? ⟨w.heap.size, 2, none⟩ = some (.int .u32 c) ∧ w'.cell? ⟨w.heap.size, 3, none⟩ = some (.int .u16 d) ∧ True)) (first | assumption | exact SK.out _ _ hS0 (Below.refl _ _).drew | exact SK.out _ _ hS0 (fresh_below _ _).drew | exact SK.out _ _ (by assumption) (fresh_below _ _) | (refine SK.out _ _ ?_ (by assumption); assumption))
    (first | (go_at_call 76; (with_reducible refine (F4.out _).mono ?_); rintro e wq ⟨rfl, bq⟩) | (go_at_call 37; (with_reducible refine (F6.out _).mono ?_); rintro e wq ⟨rfl, bq⟩))
  all_goals
    have gs := GS.out _ (by assumption)
    have gb : Below w.heap.size w wq := gs.1
    clear SK FS GS hS0 gs
    obtain ⟨w3, rfl⟩ : ∃ W : World, W = wq := ⟨_, rfl⟩
    have b3 := gb
    go_wp2_with fail
    (with_reducible refine (F7.out _).mono ?_)
    rintro e w4 ⟨rfl, b4⟩
    replace b4 : Below w.heap.size w w4 := bstep b3 b4
    go_wp2_with fail
    (with_reducible refine (F8.out _).mono ?_)
    rintro e w5 ⟨rfl, b5⟩
    replace b5 : Below w.heap.size w w5 := bstep b4 b5
    go_wp2_with fail
    (with_reducible refine (F9.out _).mono ?_)
    rintro e w6 ⟨rfl, b6⟩
    replace b6 : Below w.heap.size w w6 := bstep b5 b6
    go_wp2_with fail
    go_ret
    exact ⟨rfl, b6⟩

set_option maxRecDepth 100000 in
set_option maxHeartbeats 4000000 in
theorem rn_ports_u1 (a b c d : Int) (l ips : ByteArray) (v n0 nF : Int) (pr ip t1 pn out : ByteArray) (w : World) (hl : l.size ≤ 1000000) (h20 : 8 ≤ l.size) (hpr : pr.size = 4) (hip : ip.size = 8) (hips : ips.size = 8)
    (f1 : ∀ W (A : Option Addr), Row W W.heap.size A 2 (ints16 [b, d]) → Calls Tryz.prog 82 #[.slice A 2 2] W (Ret (.string pr) W))
    (f2 : ∀ W, Calls Tryz.prog 60 #[.string l, .int .i64 6] W (Ret (.int .u16 v) W))
    (f4 : ∀ W, Calls Tryz.prog 76 #[.agg #[.int .u32 a, .int .u16 b, .int .u32 c, .int .u16 d]] W (Ret (.string ip) W))
    (f6 : ∀ W, Calls Tryz.prog 37 #[.int .u16 v, .string (ips ++ l.extract 0 4), .string (ip ++ pr)] W (Ret (.int .u16 n0) W))
    (f7 : ∀ W, Calls Tryz.prog 38 #[.string l, .int .i64 0, .string pr] W (Ret (.string t1) W))
    (f8 : ∀ W, Calls Tryz.prog 39 #[.int .u16 nF] W (Ret (.string pn) W))
    (f9 : ∀ W, Calls Tryz.prog 38 #[.string t1, .int .i64 6, .string pn] W (Ret (.string out) W))
    (hv : v ≠ 0) (hn : n0 = 0) (hF : nF = 65535) :
    Calls Tryz.prog 74 #[.string l, .string ips, .agg #[.int .u32 a, .int .u16 b, .int .u32 c, .int .u16 d], .int .i64 6] w (Ret (.string out) w) := by
  have q1 : (v == 0) = false := by simpa using hv
  clear hv
  subst hF; subst hn
  have i1 : (4 : Int) ≤ (l.size : Int) := by omega
  have k1 : (ips ++ l.extract 0 4).size ≤ 1000 := by rw [ByteArray.size_append, ByteArray.size_extract]; omega
  have k2 : (ip ++ pr).size ≤ 1000 := by rw [ByteArray.size_append]; omega
  have F1 := hide f1; have F2 := hide f2; have F4 := hide f4; have F6 := hide f6; have F7 := hide f7; have F8 := hide f8; have F9 := hide f9
  clear f1 f2 f4 f6 f7 f8 f9
  go_enter Tryz.func74, Tryz.ntmps74
  have d0 := Cells.new w #[.int .u32 a, .int .u16 b, .int .u32 c, .int .u16 d] 39
  go_wp2_with fail
  (with_reducible refine Calls.mono (F1.out _ _ (Row.freshAt _ _ _ _ _ _ (by simp) rfl rfl)) ?_)
  rintro e w1 ⟨rfl, b1⟩
  have d1 := Cells.up d0 (fresh_below _ _) b1
  replace b1 : Below w.heap.size w w1 := bstep (bstep (fresh_below _ _) (fresh_below _ _)) b1
  clear d0
  go_wp2_with fail
  (with_reducible refine (F2.out _).mono ?_)
  rintro e w2 ⟨rfl, b2⟩
  have d2 := Cells.below b2 d1
  replace b2 : Below w.heap.size w w2 := bstep b1 b2
  clear d1 b1
  go_wp2_with fail
  have SK := hide (fun (zX zY : World) (zh : (Below w.heap.size w zX ∧ zX.cell? ⟨w.heap.size, 0, none⟩ = some (.int .u32 a) ∧ zX.cell? ⟨w.heap.size, 1, none⟩ = some (.int .u16 b) ∧ zX.cell? ⟨w.heap.size, 2, none⟩ = some (.int .u32 c) ∧ zX.cell? ⟨w.heap.size, 3, none⟩ = some (.int .u16 d) ∧ True)) (zb : Below zX.heap.size zX zY) => (show (Below w.heap.size w zY ∧ zY.cell? ⟨w.heap.size, 0, none⟩ = some (.int .u32 a) ∧ zY.cell? ⟨w.heap.size, 1, none⟩ = some (.int .u16 b) ∧ zY.cell? ⟨w.heap.size, 2, none⟩ = some (.int .u32 c) ∧ zY.cell? ⟨w.heap.size, 3, none⟩ = some (.int .u16 d) ∧ True) from ⟨bstep zh.1 zb, cellAt zb zh.2.1, cellAt zb zh.2.2.1, cellAt zb zh.2.2.2.1, cellAt zb zh.2.2.2.2.1, trivial⟩))
  have FS := hide (fun (zX : World) (zh : (Below w.heap.size w zX ∧ zX.cell? ⟨w.heap.size, 0, none⟩ = some (.int .u32 a) ∧ zX.cell? ⟨w.heap.size, 1, none⟩ = some (.int .u16 b) ∧ zX.cell? ⟨w.heap.size, 2, none⟩ = some (.int .u32 c) ∧ zX.cell? ⟨w.heap.size, 3, none⟩ = some (.int .u16 d) ∧ True)) => zh.1)
  have GS := hide (fun (zX : World) (zh : (Below w.heap.size w zX ∧ zX.cell? ⟨w.heap.size, 0, none⟩ = some (.int .u32 a) ∧ zX.cell? ⟨w.heap.size, 1, none⟩ = some (.int .u16 b) ∧ zX.cell? ⟨w.heap.size, 2, none⟩ = some (.int .u32 c) ∧ zX.cell? ⟨w.heap.size, 3, none⟩ = some (.int .u16 d) ∧ True)) => zh)
  have hS0 : (Below w.heap.size w w2 ∧ w2.cell? ⟨w.heap.size, 0, none⟩ = some (.int .u32 a) ∧ w2.cell? ⟨w.heap.size, 1, none⟩ = some (.int .u16 b) ∧ w2.cell? ⟨w.heap.size, 2, none⟩ = some (.int .u32 c) ∧ w2.cell? ⟨w.heap.size, 3, none⟩ = some (.int .u16 d) ∧ True) := ⟨(by (repeat' (first | with_reducible exact b2 | with_reducible exact Below.refl _ _ | with_reducible refine Below.setCell ?_ (by first | exact Nat.le_refl _ | (dsimp only; omega)) _ | with_reducible refine bstep ?_ (fresh_below _ _) | with_reducible refine Below.drew ?_))), d2.at_ 0, d2.at_ 1, d2.at_ 2, d2.at_ 3, trivial⟩
  go_region_held_law (fun w' => (Below w.heap.size w w' ∧ w'.cell? ⟨w.heap.size, 0, none⟩ = some (.int .u32 a) ∧ w'.cell? ⟨w.heap.size, 1, none⟩ = some (.int .u16 b) ∧ w'.cell? ⟨w.heap.size, 2, none⟩ = some (.int .u32 c) ∧ w'.cell? ⟨w.heap.size, 3, none⟩ = some (.int .u16 d) ∧ True)) (first | assumption | exact SK.out _ _ hS0 (Below.refl _ _).drew | exact SK.out _ _ hS0 (fresh_below _ _).drew | exact SK.out _ _ (by assumption) (fresh_below _ _) | (refine SK.out _ _ ?_ (by assumption); assumption))
    (first | (go_at_call 76; (with_reducible refine (F4.out _).mono ?_); rintro e wq ⟨rfl, bq⟩) | (go_at_call 37; (with_reducible refine (F6.out _).mono ?_); rintro e wq ⟨rfl, bq⟩))
  all_goals
    have gs := GS.out _ (by assumption)
    have gb : Below w.heap.size w wq := gs.1
    clear SK FS GS hS0 gs
    obtain ⟨w3, rfl⟩ : ∃ W : World, W = wq := ⟨_, rfl⟩
    have b3 := gb
    go_wp2_with fail
    (with_reducible refine (F7.out _).mono ?_)
    rintro e w4 ⟨rfl, b4⟩
    replace b4 : Below w.heap.size w w4 := bstep b3 b4
    go_wp2_with fail
    (with_reducible refine (F8.out _).mono ?_)
    rintro e w5 ⟨rfl, b5⟩
    replace b5 : Below w.heap.size w w5 := bstep b4 b5
    go_wp2_with fail
    (with_reducible refine (F9.out _).mono ?_)
    rintro e w6 ⟨rfl, b6⟩
    replace b6 : Below w.heap.size w w6 := bstep b5 b6
    go_wp2_with fail
    go_ret
    exact ⟨rfl, b6⟩

set_option maxRecDepth 100000 in
set_option maxHeartbeats 4000000 in
theorem rn_ports_u2 (a b c d : Int) (l ips : ByteArray) (v n0 nF : Int) (pr ip t1 pn out : ByteArray) (w : World) (hl : l.size ≤ 1000000) (h20 : 8 ≤ l.size) (hpr : pr.size = 4) (hip : ip.size = 8) (hips : ips.size = 8)
    (f1 : ∀ W (A : Option Addr), Row W W.heap.size A 2 (ints16 [b, d]) → Calls Tryz.prog 82 #[.slice A 2 2] W (Ret (.string pr) W))
    (f2 : ∀ W, Calls Tryz.prog 60 #[.string l, .int .i64 6] W (Ret (.int .u16 v) W))
    (f4 : ∀ W, Calls Tryz.prog 76 #[.agg #[.int .u32 a, .int .u16 b, .int .u32 c, .int .u16 d]] W (Ret (.string ip) W))
    (f6 : ∀ W, Calls Tryz.prog 37 #[.int .u16 v, .string (ips ++ l.extract 0 4), .string (ip ++ pr)] W (Ret (.int .u16 n0) W))
    (f7 : ∀ W, Calls Tryz.prog 38 #[.string l, .int .i64 0, .string pr] W (Ret (.string t1) W))
    (f8 : ∀ W, Calls Tryz.prog 39 #[.int .u16 nF] W (Ret (.string pn) W))
    (f9 : ∀ W, Calls Tryz.prog 38 #[.string t1, .int .i64 6, .string pn] W (Ret (.string out) W))
    (hv : v ≠ 0) (hn : n0 ≠ 0) (hF : nF = n0) :
    Calls Tryz.prog 74 #[.string l, .string ips, .agg #[.int .u32 a, .int .u16 b, .int .u32 c, .int .u16 d], .int .i64 6] w (Ret (.string out) w) := by
  have q1 : (v == 0) = false := by simpa using hv
  have q2 : (n0 == 0) = false := by simpa using hn
  clear hv hn
  subst hF
  have i1 : (4 : Int) ≤ (l.size : Int) := by omega
  have k1 : (ips ++ l.extract 0 4).size ≤ 1000 := by rw [ByteArray.size_append, ByteArray.size_extract]; omega
  have k2 : (ip ++ pr).size ≤ 1000 := by rw [ByteArray.size_append]; omega
  have F1 := hide f1; have F2 := hide f2; have F4 := hide f4; have F6 := hide f6; have F7 := hide f7; have F8 := hide f8; have F9 := hide f9
  clear f1 f2 f4 f6 f7 f8 f9
  go_enter Tryz.func74, Tryz.ntmps74
  have d0 := Cells.new w #[.int .u32 a, .int .u16 b, .int .u32 c, .int .u16 d] 39
  go_wp2_with fail
  (with_reducible refine Calls.mono (F1.out _ _ (Row.freshAt _ _ _ _ _ _ (by simp) rfl rfl)) ?_)
  rintro e w1 ⟨rfl, b1⟩
  have d1 := Cells.up d0 (fresh_below _ _) b1
  replace b1 : Below w.heap.size w w1 := bstep (bstep (fresh_below _ _) (fresh_below _ _)) b1
  clear d0
  go_wp2_with fail
  (with_reducible refine (F2.out _).mono ?_)
  rintro e w2 ⟨rfl, b2⟩
  have d2 := Cells.below b2 d1
  replace b2 : Below w.heap.size w w2 := bstep b1 b2
  clear d1 b1
  go_wp2_with fail
  have SK := hide (fun (zX zY : World) (zh : (Below w.heap.size w zX ∧ zX.cell? ⟨w.heap.size, 0, none⟩ = some (.int .u32 a) ∧ zX.cell? ⟨w.heap.size, 1, none⟩ = some (.int .u16 b) ∧ zX.cell? ⟨w.heap.size, 2, none⟩ = some (.int .u32 c) ∧ zX.cell? ⟨w.heap.size, 3, none⟩ = some (.int .u16 d) ∧ True)) (zb : Below zX.heap.size zX zY) => (show (Below w.heap.size w zY ∧ zY.cell? ⟨w.heap.size, 0, none⟩ = some (.int .u32 a) ∧ zY.cell? ⟨w.heap.size, 1, none⟩ = some (.int .u16 b) ∧ zY.cell? ⟨w.heap.size, 2, none⟩ = some (.int .u32 c) ∧ zY.cell? ⟨w.heap.size, 3, none⟩ = some (.int .u16 d) ∧ True) from ⟨bstep zh.1 zb, cellAt zb zh.2.1, cellAt zb zh.2.2.1, cellAt zb zh.2.2.2.1, cellAt zb zh.2.2.2.2.1, trivial⟩))
  have FS := hide (fun (zX : World) (zh : (Below w.heap.size w zX ∧ zX.cell? ⟨w.heap.size, 0, none⟩ = some (.int .u32 a) ∧ zX.cell? ⟨w.heap.size, 1, none⟩ = some (.int .u16 b) ∧ zX.cell? ⟨w.heap.size, 2, none⟩ = some (.int .u32 c) ∧ zX.cell? ⟨w.heap.size, 3, none⟩ = some (.int .u16 d) ∧ True)) => zh.1)
  have GS := hide (fun (zX : World) (zh : (Below w.heap.size w zX ∧ zX.cell? ⟨w.heap.size, 0, none⟩ = some (.int .u32 a) ∧ zX.cell? ⟨w.heap.size, 1, none⟩ = some (.int .u16 b) ∧ zX.cell? ⟨w.heap.size, 2, none⟩ = some (.int .u32 c) ∧ zX.cell? ⟨w.heap.size, 3, none⟩ = some (.int .u16 d) ∧ True)) => zh)
  have hS0 : (Below w.heap.size w w2 ∧ w2.cell? ⟨w.heap.size, 0, none⟩ = some (.int .u32 a) ∧ w2.cell? ⟨w.heap.size, 1, none⟩ = some (.int .u16 b) ∧ w2.cell? ⟨w.heap.size, 2, none⟩ = some (.int .u32 c) ∧ w2.cell? ⟨w.heap.size, 3, none⟩ = some (.int .u16 d) ∧ True) := ⟨(by (repeat' (first | with_reducible exact b2 | with_reducible exact Below.refl _ _ | with_reducible refine Below.setCell ?_ (by first | exact Nat.le_refl _ | (dsimp only; omega)) _ | with_reducible refine bstep ?_ (fresh_below _ _) | with_reducible refine Below.drew ?_))), d2.at_ 0, d2.at_ 1, d2.at_ 2, d2.at_ 3, trivial⟩
  go_region_held_law (fun w' => (Below w.heap.size w w' ∧ w'.cell? ⟨w.heap.size, 0, none⟩ = some (.int .u32 a) ∧ w'.cell? ⟨w.heap.size, 1, none⟩ = some (.int .u16 b) ∧ w'.cell? ⟨w.heap.size, 2, none⟩ = some (.int .u32 c) ∧ w'.cell? ⟨w.heap.size, 3, none⟩ = some (.int .u16 d) ∧ True)) (first | assumption | exact SK.out _ _ hS0 (Below.refl _ _).drew | exact SK.out _ _ hS0 (fresh_below _ _).drew | exact SK.out _ _ (by assumption) (fresh_below _ _) | (refine SK.out _ _ ?_ (by assumption); assumption))
    (first | (go_at_call 76; (with_reducible refine (F4.out _).mono ?_); rintro e wq ⟨rfl, bq⟩) | (go_at_call 37; (with_reducible refine (F6.out _).mono ?_); rintro e wq ⟨rfl, bq⟩))
  all_goals
    have gs := GS.out _ (by assumption)
    have gb : Below w.heap.size w wq := gs.1
    clear SK FS GS hS0 gs
    obtain ⟨w3, rfl⟩ : ∃ W : World, W = wq := ⟨_, rfl⟩
    have b3 := gb
    go_wp2_with fail
    (with_reducible refine (F7.out _).mono ?_)
    rintro e w4 ⟨rfl, b4⟩
    replace b4 : Below w.heap.size w w4 := bstep b3 b4
    go_wp2_with fail
    (with_reducible refine (F8.out _).mono ?_)
    rintro e w5 ⟨rfl, b5⟩
    replace b5 : Below w.heap.size w w5 := bstep b4 b5
    go_wp2_with fail
    (with_reducible refine (F9.out _).mono ?_)
    rintro e w6 ⟨rfl, b6⟩
    replace b6 : Below w.heap.size w w6 := bstep b5 b6
    go_wp2_with fail
    go_ret
    exact ⟨rfl, b6⟩

theorem rn_Ports (a b c d : Int) (l ips : ByteArray) (k : Nat) (kk : Int) (w : World) (hk : (k = 16 ∧ kk = 16) ∨ (k = 6 ∧ kk = 6)) (ha : 0 ≤ a ∧ a ≤ 4294967295) (hb : 0 ≤ b ∧ b ≤ 65535) (hc : 0 ≤ c ∧ c ≤ 4294967295) (hd : 0 ≤ d ∧ d ≤ 65535) (hl : l.size ≤ 1000000) (h20 : k + 2 ≤ l.size) (hi : ips.size = 8) :
    Calls Tryz.prog 74 #[.string l, .string ips, .agg #[.int .u32 a, .int .u16 b, .int .u32 c, .int .u16 d], .int .i64 kk] w (Ret (.string (S (flowNew (L l) (L ips) a b c d k))) w) := by
  have hbd : ∀ x ∈ [b, d], 0 ≤ x ∧ x ≤ 65535 := by
    intro x hx
    simp only [List.mem_cons, List.not_mem_nil, or_false] at hx
    rcases hx with rfl | rfl <;> assumption
  have hL : k + 2 ≤ (L l).length := by rw [L_length]; exact h20
  have hk4 : 6 ≤ k := by omega
  have hns := flowSum_bd (L l) (L ips) a b c d k
  have hnf := flowFix_bd (k := k) (was := be16 (L l) k) hns
  have hz : (putW [b, d] ++ (L l).drop 4).length = l.size := by rw [List.length_append, List.length_drop, L_length]; show 4 + _ = _; omega
  have z0 : (S (putW [b, d])).size = 4 := rfl
  have z8 : (S (ipsOf a c)).size = 8 := rfl
  have f1 := fun W A (hR : Row W W.heap.size A 2 (ints16 [b, d])) => r_Word A 2 2 [b, d] W hR hbd (by omega)
  have f2 := fun W => rn_Word l k W (by omega) h20
  have f4 := fun W => rn_Pair a b c d W ha hc
  have f6 := fun W => r_Updates (be16 (L l) k) (ips ++ l.extract 0 4) (S (ipsOf a c) ++ S (putW [b, d])) W (be16_bd _ _) (by rw [ByteArray.size_append, ByteArray.size_extract]; omega) (by rw [ByteArray.size_append, z0, z8]; omega)
  rw [L_append, L_append, L_extract, L_S, L_S, show ((L l).drop 0).take 4 = (L l).take 4 from rfl] at f6
  have f7 := fun W => rn_With l 0 (S (putW [b, d])) W (by omega) (by rw [z0]; omega)
  rw [show (L l).take 0 ++ (L (S (putW [b, d])) ++ (L l).drop (0 + (S (putW [b, d])).size)) = putW [b, d] ++ (L l).drop 4 from by rw [L_S]; rfl, show ((0 : Nat) : Int) = 0 from rfl] at f7
  have f8 := fun W => r_Put16 (flowFix k (be16 (L l) k) (flowSum (L l) (L ips) a b c d k)) W hnf.1 hnf.2
  have f9 := fun W => rn_With (S (putW [b, d] ++ (L l).drop 4)) k (S (put16 (flowFix k (be16 (L l) k) (flowSum (L l) (L ips) a b c d k)))) W (by rw [S_size, hz]; omega) (by rw [S_size, S_size, hz, put16_length]; omega)
  have e9 : (L (S (putW [b, d] ++ (L l).drop 4))).take k ++ (L (S (put16 (flowFix k (be16 (L l) k) (flowSum (L l) (L ips) a b c d k)))) ++ (L (S (putW [b, d] ++ (L l).drop 4))).drop (k + (S (put16 (flowFix k (be16 (L l) k) (flowSum (L l) (L ips) a b c d k)))).size)) = flowNew (L l) (L ips) a b c d k := by
    rw [L_S, L_S, ← List.append_assoc]; rfl
  rw [e9] at f9
  rcases hk with ⟨rfl, rfl⟩ | ⟨rfl, rfl⟩
  · rw [show ((16 : Nat) : Int) = 16 from rfl] at f2 f9
    exact rn_ports_t a b c d l ips _ _ _ _ _ _ _ _ w (by omega) (by omega) z0 z8 hi f1 f2 f4 f6 f7 f8 f9 (by unfold flowFix; rw [if_neg (by decide)]; rfl)
  · rw [show ((6 : Nat) : Int) = 6 from rfl] at f2 f9
    by_cases hv : be16 (L l) 6 = 0
    · exact rn_ports_u0 a b c d l ips _ _ _ _ _ _ _ _ w (by omega) (by omega) z0 z8 hi f1 f2 f4 f6 f7 f8 f9 hv (by unfold flowFix; rw [if_pos rfl, if_pos hv])
    by_cases hn : flowSum (L l) (L ips) a b c d 6 = 0
    · exact rn_ports_u1 a b c d l ips _ _ _ _ _ _ _ _ w (by omega) (by omega) z0 z8 hi f1 f2 f4 f6 f7 f8 f9 hv hn (by unfold flowFix; rw [if_pos rfl, if_neg hv, if_pos hn])
    · exact rn_ports_u2 a b c d l ips _ _ _ _ _ _ _ _ w (by omega) (by omega) z0 z8 hi f1 f2 f4 f6 f7 f8 f9 hv hn (by unfold flowFix; rw [if_pos rfl, if_neg hv, if_neg hn]; rfl)
end Go.Proofs.YtjeaknipmdfkdaaGreatDoor
end

section
/- The document's answer for what is seen of a packet (porterref08.Of), first half, over this program. -/
set_option linter.unusedVariables false
set_option linter.unusedSimpArgs false
namespace Go.Proofs.YtjeaknipmdfkdaaGreatDoor
open Go.RowKit
attribute [local go_sem] Oper.semAt_some

set_option maxRecDepth 100000 in
set_option maxHeartbeats 4000000 in
theorem o_Of_bad (s l : ByteArray) (w : World) (h0 h1 h3 h4 h5 h6 : Int) (h2 : Bool) (h7 : ByteArray) (r : Int) (hr : r ≠ 0)
    (c1 : ∀ W, Calls Tryz.prog 58 #[.string s] W (Ret (.tuple #[.agg #[.int .u8 h0, .int .u16 h1, .bool h2, .int .u8 h3, .int .u8 h4, .int .u32 h5, .int .u32 h6, .string h7], .string l, .int .i64 r]) W)) :
    Calls Tryz.prog 57 #[.string s] w (Ret (.tuple #[.agg #[.int .u8 0, .int .u32 0, .int .u16 0, .int .u32 0, .int .u16 0, .int .i64 0, .int .u8 0, .bool false, .int .u8 0], .int .i64 r]) w) := by
  have q1 : (r != 0) = true := by simpa using hr
  have q2 : (r == 0) = false := by simpa using hr
  have C1 := hide c1
  clear c1 hr
  go_enter Tryz.func57, Tryz.ntmps57
  have d0 := Cells.new w #[.int .u8 0, .int .u32 0, .int .u16 0, .int .u32 0, .int .u16 0, .int .i64 0, .int .u8 0, .bool false, .int .u8 0] 120
  go_wp2_with fail
  (with_reducible refine (C1.out _).mono ?_)
  rintro e w1 ⟨rfl, b1⟩
  have d1 := Cells.alloc (Cells.below b1 d0) (.cells #[.int .u8 h0, .int .u16 h1, .bool h2, .int .u8 h3, .int .u8 h4, .int .u32 h5, .int .u32 h6, .string h7] 50)
  replace b1 : Below w.heap.size w (w1.alloc (.cells #[.int .u8 h0, .int .u16 h1, .bool h2, .int .u8 h3, .int .u8 h4, .int .u32 h5, .int .u32 h6, .string h7] 50)) := bstep (bstep (fresh_below _ _) b1) (fresh_below _ _)
  obtain ⟨xd1_0, xd1_1, xd1_2, xd1_3, xd1_4, xd1_5, xd1_6, xd1_7, xd1_8⟩ := d1.x9
  obtain ⟨yd1_0, yd1_1, yd1_2, yd1_3, yd1_4, yd1_5, yd1_6, yd1_7, yd1_8⟩ := d1.y9
  clear d0
  go_wp2_with fail
  generalize w1.alloc (.cells #[.int .u8 h0, .int .u16 h1, .bool h2, .int .u8 h3, .int .u8 h4, .int .u32 h5, .int .u32 h6, .string h7] 50) = W at *
  have r5 := (Cells.put9 d1 (.int .u8 0) (.int .u32 0) (.int .u16 0) (.int .u32 0) (.int .u16 0) (.int .i64 0) (.int .u8 0) (.bool false) (.int .u8 0))
  have b5 := (Below.put9 b1 (b := w.heap.size) (by first | exact Nat.le_refl _ | omega) (.int .u8 0) (.int .u32 0) (.int .u16 0) (.int .u32 0) (.int .u16 0) (.int .i64 0) (.int .u8 0) (.bool false) (.int .u8 0))
  have HR5 := hide r5; have HB5 := hide b5
  clear r5 b5 d1
  generalize (((((((((W.setCell ⟨w.heap.size, 0, none⟩ (.int .u8 0)).setCell ⟨w.heap.size, 1, none⟩ (.int .u32 0)).setCell ⟨w.heap.size, 2, none⟩ (.int .u16 0)).setCell ⟨w.heap.size, 3, none⟩ (.int .u32 0)).setCell ⟨w.heap.size, 4, none⟩ (.int .u16 0)).setCell ⟨w.heap.size, 5, none⟩ (.int .i64 0)).setCell ⟨w.heap.size, 6, none⟩ (.int .u8 0)).setCell ⟨w.heap.size, 7, none⟩ (.bool false)).setCell ⟨w.heap.size, 8, none⟩ (.int .u8 0)) = W5 at *
  have r5 := HR5.out; have b5 := HB5.out
  clear HR5 HB5
  obtain ⟨xr5_0, xr5_1, xr5_2, xr5_3, xr5_4, xr5_5, xr5_6, xr5_7, xr5_8⟩ := r5.x9
  (try simp only [Exit.inBlock, Exit.then]); refine bodyPost_ret (by simp [results, Tryz.results57, go_sem, *]; try rfl) rfl ?_
  first | exact ⟨rfl, b5⟩ | exact ⟨rfl, b5.drew⟩

set_option maxRecDepth 100000 in
set_option maxHeartbeats 4000000 in
theorem o_Of_other (s l : ByteArray) (w : World) (h0 h1 h3 h4 h5 h6 : Int) (h2 : Bool) (h7 : ByteArray)
    (c1 : ∀ W, Calls Tryz.prog 58 #[.string s] W (Ret (.tuple #[.agg #[.int .u8 h0, .int .u16 h1, .bool h2, .int .u8 h3, .int .u8 h4, .int .u32 h5, .int .u32 h6, .string h7], .string l, .int .i64 0]) W))
    (hp : h4 ≠ 6 ∧ h4 ≠ 17 ∧ h4 ≠ 1) :
    Calls Tryz.prog 57 #[.string s] w (Ret (.tuple #[.agg #[.int .u8 0, .int .u32 0, .int .u16 0, .int .u32 0, .int .u16 0, .int .i64 0, .int .u8 0, .bool false, .int .u8 0], .int .i64 6]) w) := by
  have q1 : (h4 == 6) = false := by simpa using hp.1
  have q2 : (h4 == 17) = false := by simpa using hp.2.1
  have q3 : (h4 == 1) = false := by simpa using hp.2.2
  have C1 := hide c1
  clear c1 hp
  go_enter Tryz.func57, Tryz.ntmps57
  have d0 := Cells.new w #[.int .u8 0, .int .u32 0, .int .u16 0, .int .u32 0, .int .u16 0, .int .i64 0, .int .u8 0, .bool false, .int .u8 0] 120
  go_wp2_with fail
  (with_reducible refine (C1.out _).mono ?_)
  rintro e w1 ⟨rfl, b1⟩
  have d1 := Cells.below b1 d0
  have e1 := Cells.new w1 #[.int .u8 h0, .int .u16 h1, .bool h2, .int .u8 h3, .int .u8 h4, .int .u32 h5, .int .u32 h6, .string h7] 50
  obtain ⟨xe1_0, xe1_1, xe1_2, xe1_3, xe1_4, xe1_5, xe1_6, xe1_7⟩ := e1.x8
  have d3 := Cells.alloc (Cells.alloc d1 (.cells #[.int .u8 h0, .int .u16 h1, .bool h2, .int .u8 h3, .int .u8 h4, .int .u32 h5, .int .u32 h6, .string h7] 50)) (.cells #[.int .u8 h4, .int .u32 h5, .int .u16 0, .int .u32 h6, .int .u16 0, .int .i64 2, .int .u8 0, .bool false, .int .u8 h3] 120)
  have e3 := Cells.alloc e1 (.cells #[.int .u8 h4, .int .u32 h5, .int .u16 0, .int .u32 h6, .int .u16 0, .int .i64 2, .int .u8 0, .bool false, .int .u8 h3] 120)
  have xe3_4 : (((w1.alloc (.cells #[.int .u8 h0, .int .u16 h1, .bool h2, .int .u8 h3, .int .u8 h4, .int .u32 h5, .int .u32 h6, .string h7] 50)).alloc (.cells #[.int .u8 h4, .int .u32 h5, .int .u16 0, .int .u32 h6, .int .u16 0, .int .i64 2, .int .u8 0, .bool false, .int .u8 h3] 120))).cell? ⟨w1.heap.size, 4, none⟩ = some (.int .u8 h4) := e3.at_ 4
  have x3 : Cells ((w1.alloc (.cells #[.int .u8 h0, .int .u16 h1, .bool h2, .int .u8 h3, .int .u8 h4, .int .u32 h5, .int .u32 h6, .string h7] 50)).alloc (.cells #[.int .u8 h4, .int .u32 h5, .int .u16 0, .int .u32 h6, .int .u16 0, .int .i64 2, .int .u8 0, .bool false, .int .u8 h3] 120)) (w1.heap.size + 1) #[.int .u8 h4, .int .u32 h5, .int .u16 0, .int .u32 h6, .int .u16 0, .int .i64 2, .int .u8 0, .bool false, .int .u8 h3] 120 := by
    have := Cells.new (w1.alloc (.cells #[.int .u8 h0, .int .u16 h1, .bool h2, .int .u8 h3, .int .u8 h4, .int .u32 h5, .int .u32 h6, .string h7] 50)) #[.int .u8 h4, .int .u32 h5, .int .u16 0, .int .u32 h6, .int .u16 0, .int .i64 2, .int .u8 0, .bool false, .int .u8 h3] 120
    rw [show (w1.alloc (.cells #[.int .u8 h0, .int .u16 h1, .bool h2, .int .u8 h3, .int .u8 h4, .int .u32 h5, .int .u32 h6, .string h7] 50)).heap.size = w1.heap.size + 1 from by simp] at this
    exact this
  have b3 : Below w.heap.size w ((w1.alloc (.cells #[.int .u8 h0, .int .u16 h1, .bool h2, .int .u8 h3, .int .u8 h4, .int .u32 h5, .int .u32 h6, .string h7] 50)).alloc (.cells #[.int .u8 h4, .int .u32 h5, .int .u16 0, .int .u32 h6, .int .u16 0, .int .i64 2, .int .u8 0, .bool false, .int .u8 h3] 120)) := bstep (bstep (bstep (fresh_below _ _) b1) (fresh_below _ _)) (fresh_below _ _)
  have hlt : w.heap.size ≠ w1.heap.size + 1 := by have := d1.lt; omega
  have hle : w.heap.size ≤ w1.heap.size + 1 := by have := d1.lt; omega
  have D3 := hide d3; have X3 := hide x3; have B3 := hide b3; have HN := hide hlt; have HL := hide hle
  clear d0 d1 e1 d3 e3 x3 b3 b1 hlt hle
  have d3 := D3.out; have b3 := B3.out
  obtain ⟨xd3_0, xd3_1, xd3_2, xd3_3, xd3_4, xd3_5, xd3_6, xd3_7, xd3_8⟩ := d3.x9
  obtain ⟨yd3_0, yd3_1, yd3_2, yd3_3, yd3_4, yd3_5, yd3_6, yd3_7, yd3_8⟩ := d3.y9
  go_wp2_with fail
  generalize ((w1.alloc (.cells #[.int .u8 h0, .int .u16 h1, .bool h2, .int .u8 h3, .int .u8 h4, .int .u32 h5, .int .u32 h6, .string h7] 50)).alloc (.cells #[.int .u8 h4, .int .u32 h5, .int .u16 0, .int .u32 h6, .int .u16 0, .int .i64 2, .int .u8 0, .bool false, .int .u8 h3] 120)) = W at *
  have r5 := (Cells.put9 d3 (.int .u8 0) (.int .u32 0) (.int .u16 0) (.int .u32 0) (.int .u16 0) (.int .i64 0) (.int .u8 0) (.bool false) (.int .u8 0))
  have b5 := (Below.put9 b3 (b := w.heap.size) (by first | exact Nat.le_refl _ | omega) (.int .u8 0) (.int .u32 0) (.int .u16 0) (.int .u32 0) (.int .u16 0) (.int .i64 0) (.int .u8 0) (.bool false) (.int .u8 0))
  have HR5 := hide r5; have HB5 := hide b5
  clear r5 b5 d3
  generalize (((((((((W.setCell ⟨w.heap.size, 0, none⟩ (.int .u8 0)).setCell ⟨w.heap.size, 1, none⟩ (.int .u32 0)).setCell ⟨w.heap.size, 2, none⟩ (.int .u16 0)).setCell ⟨w.heap.size, 3, none⟩ (.int .u32 0)).setCell ⟨w.heap.size, 4, none⟩ (.int .u16 0)).setCell ⟨w.heap.size, 5, none⟩ (.int .i64 0)).setCell ⟨w.heap.size, 6, none⟩ (.int .u8 0)).setCell ⟨w.heap.size, 7, none⟩ (.bool false)).setCell ⟨w.heap.size, 8, none⟩ (.int .u8 0)) = W5 at *
  have r5 := HR5.out; have b5 := HB5.out
  clear HR5 HB5
  obtain ⟨xr5_0, xr5_1, xr5_2, xr5_3, xr5_4, xr5_5, xr5_6, xr5_7, xr5_8⟩ := r5.x9
  (try simp only [Exit.inBlock, Exit.then]); refine bodyPost_ret (by simp [results, Tryz.results57, go_sem, *]; try rfl) rfl ?_
  first | exact ⟨rfl, b5⟩ | exact ⟨rfl, b5.drew⟩

set_option maxRecDepth 100000 in
set_option maxHeartbeats 4000000 in
theorem o_Of_tcp_no (s l : ByteArray) (w : World) (h0 h1 h3 h5 h6 : Int) (h2 : Bool) (h7 : ByteArray) (r : ByteArray)
    (c1 : ∀ W, Calls Tryz.prog 58 #[.string s] W (Ret (.tuple #[.agg #[.int .u8 h0, .int .u16 h1, .bool h2, .int .u8 h3, .int .u8 6, .int .u32 h5, .int .u32 h6, .string h7], .string l, .int .i64 0]) W))
    (c2 : ∀ W, Calls Tryz.prog 106 #[.string l] W (Ret (.tuple #[.agg #[.int .u16 0, .int .u16 0, .int .u32 0, .int .u32 0, .int .u8 0, .int .u8 0, .int .u16 0, .int .u16 0, .int .u16 0, .string { data := #[] }], .string r, .bool false]) W)) :
    Calls Tryz.prog 57 #[.string s] w (Ret (.tuple #[.agg #[.int .u8 0, .int .u32 0, .int .u16 0, .int .u32 0, .int .u16 0, .int .i64 0, .int .u8 0, .bool false, .int .u8 0], .int .i64 7]) w) := by
  have C1 := hide c1; have C2 := hide c2
  clear c1 c2
  go_enter Tryz.func57, Tryz.ntmps57
  have d0 := Cells.new w #[.int .u8 0, .int .u32 0, .int .u16 0, .int .u32 0, .int .u16 0, .int .i64 0, .int .u8 0, .bool false, .int .u8 0] 120
  go_wp2_with fail
  (with_reducible refine (C1.out _).mono ?_)
  rintro e w1 ⟨rfl, b1⟩
  have d1 := Cells.below b1 d0
  have e1 := Cells.new w1 #[.int .u8 h0, .int .u16 h1, .bool h2, .int .u8 h3, .int .u8 6, .int .u32 h5, .int .u32 h6, .string h7] 50
  obtain ⟨xe1_0, xe1_1, xe1_2, xe1_3, xe1_4, xe1_5, xe1_6, xe1_7⟩ := e1.x8
  have d3 := Cells.alloc (Cells.alloc d1 (.cells #[.int .u8 h0, .int .u16 h1, .bool h2, .int .u8 h3, .int .u8 6, .int .u32 h5, .int .u32 h6, .string h7] 50)) (.cells #[.int .u8 6, .int .u32 h5, .int .u16 0, .int .u32 h6, .int .u16 0, .int .i64 2, .int .u8 0, .bool false, .int .u8 h3] 120)
  have e3 := Cells.alloc e1 (.cells #[.int .u8 6, .int .u32 h5, .int .u16 0, .int .u32 h6, .int .u16 0, .int .i64 2, .int .u8 0, .bool false, .int .u8 h3] 120)
  have xe3_4 : (((w1.alloc (.cells #[.int .u8 h0, .int .u16 h1, .bool h2, .int .u8 h3, .int .u8 6, .int .u32 h5, .int .u32 h6, .string h7] 50)).alloc (.cells #[.int .u8 6, .int .u32 h5, .int .u16 0, .int .u32 h6, .int .u16 0, .int .i64 2, .int .u8 0, .bool false, .int .u8 h3] 120))).cell? ⟨w1.heap.size, 4, none⟩ = some (.int .u8 6) := e3.at_ 4
  have x3 : Cells ((w1.alloc (.cells #[.int .u8 h0, .int .u16 h1, .bool h2, .int .u8 h3, .int .u8 6, .int .u32 h5, .int .u32 h6, .string h7] 50)).alloc (.cells #[.int .u8 6, .int .u32 h5, .int .u16 0, .int .u32 h6, .int .u16 0, .int .i64 2, .int .u8 0, .bool false, .int .u8 h3] 120)) (w1.heap.size + 1) #[.int .u8 6, .int .u32 h5, .int .u16 0, .int .u32 h6, .int .u16 0, .int .i64 2, .int .u8 0, .bool false, .int .u8 h3] 120 := by
    have := Cells.new (w1.alloc (.cells #[.int .u8 h0, .int .u16 h1, .bool h2, .int .u8 h3, .int .u8 6, .int .u32 h5, .int .u32 h6, .string h7] 50)) #[.int .u8 6, .int .u32 h5, .int .u16 0, .int .u32 h6, .int .u16 0, .int .i64 2, .int .u8 0, .bool false, .int .u8 h3] 120
    rw [show (w1.alloc (.cells #[.int .u8 h0, .int .u16 h1, .bool h2, .int .u8 h3, .int .u8 6, .int .u32 h5, .int .u32 h6, .string h7] 50)).heap.size = w1.heap.size + 1 from by simp] at this
    exact this
  have b3 : Below w.heap.size w ((w1.alloc (.cells #[.int .u8 h0, .int .u16 h1, .bool h2, .int .u8 h3, .int .u8 6, .int .u32 h5, .int .u32 h6, .string h7] 50)).alloc (.cells #[.int .u8 6, .int .u32 h5, .int .u16 0, .int .u32 h6, .int .u16 0, .int .i64 2, .int .u8 0, .bool false, .int .u8 h3] 120)) := bstep (bstep (bstep (fresh_below _ _) b1) (fresh_below _ _)) (fresh_below _ _)
  have hlt : w.heap.size ≠ w1.heap.size + 1 := by have := d1.lt; omega
  have hle : w.heap.size ≤ w1.heap.size + 1 := by have := d1.lt; omega
  have D3 := hide d3; have X3 := hide x3; have B3 := hide b3; have HN := hide hlt; have HL := hide hle
  clear d0 d1 e1 d3 e3 x3 b3 b1 hlt hle
  go_wp2_with fail
  (with_reducible refine (C2.out _).mono ?_)
  rintro e w4 ⟨rfl, b4⟩
  have d4 := Cells.alloc (Cells.below b4 D3.out) (.cells #[.int .u16 0, .int .u16 0, .int .u32 0, .int .u32 0, .int .u8 0, .int .u8 0, .int .u16 0, .int .u16 0, .int .u16 0, .string { data := #[] }] 160)
  have x4 := Cells.alloc (Cells.below b4 X3.out) (.cells #[.int .u16 0, .int .u16 0, .int .u32 0, .int .u32 0, .int .u8 0, .int .u8 0, .int .u16 0, .int .u16 0, .int .u16 0, .string { data := #[] }] 160)
  have e4 := Cells.new w4 #[.int .u16 0, .int .u16 0, .int .u32 0, .int .u32 0, .int .u8 0, .int .u8 0, .int .u16 0, .int .u16 0, .int .u16 0, .string { data := #[] }] 160
  have b5 : Below w.heap.size w (w4.alloc (.cells #[.int .u16 0, .int .u16 0, .int .u32 0, .int .u32 0, .int .u8 0, .int .u8 0, .int .u16 0, .int .u16 0, .int .u16 0, .string { data := #[] }] 160)) := bstep (bstep B3.out b4) (fresh_below _ _)
  have hgw : w4.heap.size ≠ w.heap.size := by have := (Cells.below b4 D3.out).lt; omega
  have hgx : w4.heap.size ≠ w1.heap.size + 1 := by have := (Cells.below b4 X3.out).lt; omega
  have HGW := hide hgw; have HGX := hide hgx
  clear D3 X3 B3 b4 C1 C2 hgw hgx
  obtain ⟨xd4_0, xd4_1, xd4_2, xd4_3, xd4_4, xd4_5, xd4_6, xd4_7, xd4_8⟩ := d4.x9
  obtain ⟨yd4_0, yd4_1, yd4_2, yd4_3, yd4_4, yd4_5, yd4_6, yd4_7, yd4_8⟩ := d4.y9
  go_wp2_with fail
  generalize (w4.alloc (.cells #[.int .u16 0, .int .u16 0, .int .u32 0, .int .u32 0, .int .u8 0, .int .u8 0, .int .u16 0, .int .u16 0, .int .u16 0, .string { data := #[] }] 160)) = W at *
  have r5 := (Cells.put9 d4 (.int .u8 0) (.int .u32 0) (.int .u16 0) (.int .u32 0) (.int .u16 0) (.int .i64 0) (.int .u8 0) (.bool false) (.int .u8 0))
  have b5 := (Below.put9 b5 (b := w.heap.size) (by first | exact Nat.le_refl _ | omega) (.int .u8 0) (.int .u32 0) (.int .u16 0) (.int .u32 0) (.int .u16 0) (.int .i64 0) (.int .u8 0) (.bool false) (.int .u8 0))
  have HR5 := hide r5; have HB5 := hide b5
  clear r5 b5 d4
  generalize (((((((((W.setCell ⟨w.heap.size, 0, none⟩ (.int .u8 0)).setCell ⟨w.heap.size, 1, none⟩ (.int .u32 0)).setCell ⟨w.heap.size, 2, none⟩ (.int .u16 0)).setCell ⟨w.heap.size, 3, none⟩ (.int .u32 0)).setCell ⟨w.heap.size, 4, none⟩ (.int .u16 0)).setCell ⟨w.heap.size, 5, none⟩ (.int .i64 0)).setCell ⟨w.heap.size, 6, none⟩ (.int .u8 0)).setCell ⟨w.heap.size, 7, none⟩ (.bool false)).setCell ⟨w.heap.size, 8, none⟩ (.int .u8 0)) = W5 at *
  have r5 := HR5.out; have b5 := HB5.out
  clear HR5 HB5
  obtain ⟨xr5_0, xr5_1, xr5_2, xr5_3, xr5_4, xr5_5, xr5_6, xr5_7, xr5_8⟩ := r5.x9
  (try simp only [Exit.inBlock, Exit.then]); refine bodyPost_ret (by simp [results, Tryz.results57, go_sem, *]; try rfl) rfl ?_
  first | exact ⟨rfl, b5⟩ | exact ⟨rfl, b5.drew⟩

set_option maxRecDepth 100000 in
set_option maxHeartbeats 4000000 in
theorem o_Of_tcp_first (s l : ByteArray) (w : World) (h0 h1 h3 h5 h6 : Int) (h2 : Bool) (h7 : ByteArray) (g0 g1 g2 g3 g4 g5 g6 g7 g8 : Int) (g9 r : ByteArray) (hk : bits .and .u8 g5 23 = 2)
    (c1 : ∀ W, Calls Tryz.prog 58 #[.string s] W (Ret (.tuple #[.agg #[.int .u8 h0, .int .u16 h1, .bool h2, .int .u8 h3, .int .u8 6, .int .u32 h5, .int .u32 h6, .string h7], .string l, .int .i64 0]) W))
    (c2 : ∀ W, Calls Tryz.prog 106 #[.string l] W (Ret (.tuple #[.agg #[.int .u16 g0, .int .u16 g1, .int .u32 g2, .int .u32 g3, .int .u8 g4, .int .u8 g5, .int .u16 g6, .int .u16 g7, .int .u16 g8, .string g9], .string r, .bool true]) W)) :
    Calls Tryz.prog 57 #[.string s] w (Ret (.tuple #[.agg #[.int .u8 6, .int .u32 h5, .int .u16 g0, .int .u32 h6, .int .u16 g1, .int .i64 1, .int .u8 g5, .bool false, .int .u8 h3], .int .i64 0]) w) := by
  have q1 : (bits .and .u8 g5 23 == 2) = true := by simpa using hk
  clear hk
  have C1 := hide c1; have C2 := hide c2
  clear c1 c2
  go_enter Tryz.func57, Tryz.ntmps57
  have d0 := Cells.new w #[.int .u8 0, .int .u32 0, .int .u16 0, .int .u32 0, .int .u16 0, .int .i64 0, .int .u8 0, .bool false, .int .u8 0] 120
  go_wp2_with fail
  (with_reducible refine (C1.out _).mono ?_)
  rintro e w1 ⟨rfl, b1⟩
  have d1 := Cells.below b1 d0
  have e1 := Cells.new w1 #[.int .u8 h0, .int .u16 h1, .bool h2, .int .u8 h3, .int .u8 6, .int .u32 h5, .int .u32 h6, .string h7] 50
  obtain ⟨xe1_0, xe1_1, xe1_2, xe1_3, xe1_4, xe1_5, xe1_6, xe1_7⟩ := e1.x8
  have d3 := Cells.alloc (Cells.alloc d1 (.cells #[.int .u8 h0, .int .u16 h1, .bool h2, .int .u8 h3, .int .u8 6, .int .u32 h5, .int .u32 h6, .string h7] 50)) (.cells #[.int .u8 6, .int .u32 h5, .int .u16 0, .int .u32 h6, .int .u16 0, .int .i64 2, .int .u8 0, .bool false, .int .u8 h3] 120)
  have e3 := Cells.alloc e1 (.cells #[.int .u8 6, .int .u32 h5, .int .u16 0, .int .u32 h6, .int .u16 0, .int .i64 2, .int .u8 0, .bool false, .int .u8 h3] 120)
  have xe3_4 : (((w1.alloc (.cells #[.int .u8 h0, .int .u16 h1, .bool h2, .int .u8 h3, .int .u8 6, .int .u32 h5, .int .u32 h6, .string h7] 50)).alloc (.cells #[.int .u8 6, .int .u32 h5, .int .u16 0, .int .u32 h6, .int .u16 0, .int .i64 2, .int .u8 0, .bool false, .int .u8 h3] 120))).cell? ⟨w1.heap.size, 4, none⟩ = some (.int .u8 6) := e3.at_ 4
  have x3 : Cells ((w1.alloc (.cells #[.int .u8 h0, .int .u16 h1, .bool h2, .int .u8 h3, .int .u8 6, .int .u32 h5, .int .u32 h6, .string h7] 50)).alloc (.cells #[.int .u8 6, .int .u32 h5, .int .u16 0, .int .u32 h6, .int .u16 0, .int .i64 2, .int .u8 0, .bool false, .int .u8 h3] 120)) (w1.heap.size + 1) #[.int .u8 6, .int .u32 h5, .int .u16 0, .int .u32 h6, .int .u16 0, .int .i64 2, .int .u8 0, .bool false, .int .u8 h3] 120 := by
    have := Cells.new (w1.alloc (.cells #[.int .u8 h0, .int .u16 h1, .bool h2, .int .u8 h3, .int .u8 6, .int .u32 h5, .int .u32 h6, .string h7] 50)) #[.int .u8 6, .int .u32 h5, .int .u16 0, .int .u32 h6, .int .u16 0, .int .i64 2, .int .u8 0, .bool false, .int .u8 h3] 120
    rw [show (w1.alloc (.cells #[.int .u8 h0, .int .u16 h1, .bool h2, .int .u8 h3, .int .u8 6, .int .u32 h5, .int .u32 h6, .string h7] 50)).heap.size = w1.heap.size + 1 from by simp] at this
    exact this
  have b3 : Below w.heap.size w ((w1.alloc (.cells #[.int .u8 h0, .int .u16 h1, .bool h2, .int .u8 h3, .int .u8 6, .int .u32 h5, .int .u32 h6, .string h7] 50)).alloc (.cells #[.int .u8 6, .int .u32 h5, .int .u16 0, .int .u32 h6, .int .u16 0, .int .i64 2, .int .u8 0, .bool false, .int .u8 h3] 120)) := bstep (bstep (bstep (fresh_below _ _) b1) (fresh_below _ _)) (fresh_below _ _)
  have hlt : w.heap.size ≠ w1.heap.size + 1 := by have := d1.lt; omega
  have hle : w.heap.size ≤ w1.heap.size + 1 := by have := d1.lt; omega
  have D3 := hide d3; have X3 := hide x3; have B3 := hide b3; have HN := hide hlt; have HL := hide hle
  clear d0 d1 e1 d3 e3 x3 b3 b1 hlt hle
  go_wp2_with fail
  (with_reducible refine (C2.out _).mono ?_)
  rintro e w4 ⟨rfl, b4⟩
  have d4 := Cells.alloc (Cells.below b4 D3.out) (.cells #[.int .u16 g0, .int .u16 g1, .int .u32 g2, .int .u32 g3, .int .u8 g4, .int .u8 g5, .int .u16 g6, .int .u16 g7, .int .u16 g8, .string g9] 160)
  have x4 := Cells.alloc (Cells.below b4 X3.out) (.cells #[.int .u16 g0, .int .u16 g1, .int .u32 g2, .int .u32 g3, .int .u8 g4, .int .u8 g5, .int .u16 g6, .int .u16 g7, .int .u16 g8, .string g9] 160)
  have e4 := Cells.new w4 #[.int .u16 g0, .int .u16 g1, .int .u32 g2, .int .u32 g3, .int .u8 g4, .int .u8 g5, .int .u16 g6, .int .u16 g7, .int .u16 g8, .string g9] 160
  have b5 : Below w.heap.size w (w4.alloc (.cells #[.int .u16 g0, .int .u16 g1, .int .u32 g2, .int .u32 g3, .int .u8 g4, .int .u8 g5, .int .u16 g6, .int .u16 g7, .int .u16 g8, .string g9] 160)) := bstep (bstep B3.out b4) (fresh_below _ _)
  have hgw : w4.heap.size ≠ w.heap.size := by have := (Cells.below b4 D3.out).lt; omega
  have hgx : w4.heap.size ≠ w1.heap.size + 1 := by have := (Cells.below b4 X3.out).lt; omega
  have HGW := hide hgw; have HGX := hide hgx
  clear D3 X3 B3 b4 C1 C2 hgw hgx
  obtain ⟨xx4_0, xx4_1, xx4_2, xx4_3, xx4_4, xx4_5, xx4_6, xx4_7, xx4_8⟩ := x4.x9
  obtain ⟨yx4_0, yx4_1, yx4_2, yx4_3, yx4_4, yx4_5, yx4_6, yx4_7, yx4_8⟩ := x4.y9
  obtain ⟨xe4_0, xe4_1, xe4_2, xe4_3, xe4_4, xe4_5, xe4_6, xe4_7, xe4_8, xe4_9⟩ := e4.x10
  have fS := hide (fun (X : World) (hX : Cells X w4.heap.size #[.int .u16 g0, .int .u16 g1, .int .u32 g2, .int .u32 g3, .int .u8 g4, .int .u8 g5, .int .u16 g6, .int .u16 g7, .int .u16 g8, .string g9] 160) => (show World.cell? X ⟨w4.heap.size, 0, none⟩ = some (.int .u16 g0) ∧ World.cell? X ⟨w4.heap.size, 1, none⟩ = some (.int .u16 g1) ∧ World.cell? X ⟨w4.heap.size, 5, none⟩ = some (.int .u8 g5) from ⟨hX.at_ 0, hX.at_ 1, hX.at_ 5⟩))
  have E4 := hide e4; have X4 := hide x4; have D4 := hide d4; have B5 := hide b5
  clear d4 b5
  go_wp2_with fail
  generalize (w4.alloc (.cells #[.int .u16 g0, .int .u16 g1, .int .u32 g2, .int .u32 g3, .int .u8 g4, .int .u8 g5, .int .u16 g6, .int .u16 g7, .int .u16 g8, .string g9] 160)) = w5 at *
  go_region_held3 (fun zW => World.cell? zW ⟨w4.heap.size, 0, none⟩ = some (.int .u16 g0) ∧ World.cell? zW ⟨w4.heap.size, 1, none⟩ = some (.int .u16 g1) ∧ World.cell? zW ⟨w4.heap.size, 5, none⟩ = some (.int .u8 g5)) (((try dsimp only); with_reducible refine fS.out _ ?_; (repeat' (first | with_reducible exact E4.out | with_reducible refine Cells.drew ?_ | with_reducible refine Cells.other ?_ HGX.out _ _))))
    (fail)
  all_goals
    generalize hW6 : World.setCell _ _ _ = W6
    have x6 : Cells W6 (w1.heap.size + 1) #[.int .u8 6, .int .u32 h5, .int .u16 g0, .int .u32 h6, .int .u16 g1, .int .i64 2, .int .u8 g5, .bool false, .int .u8 h3] 120 := by rw [← hW6]; (first | exact (((X4.out.drew.set_ 2 (.int .u16 g0)).set_ 4 (.int .u16 g1)).set_ 6 (.int .u8 g5)) | exact (((X4.out.drew.set_ 2 (.int .u16 g0)).set_ 6 (.int .u8 g5)).set_ 4 (.int .u16 g1)) | exact (((X4.out.drew.set_ 4 (.int .u16 g1)).set_ 2 (.int .u16 g0)).set_ 6 (.int .u8 g5)) | exact (((X4.out.drew.set_ 4 (.int .u16 g1)).set_ 6 (.int .u8 g5)).set_ 2 (.int .u16 g0)) | exact (((X4.out.drew.set_ 6 (.int .u8 g5)).set_ 2 (.int .u16 g0)).set_ 4 (.int .u16 g1)) | exact (((X4.out.drew.set_ 6 (.int .u8 g5)).set_ 4 (.int .u16 g1)).set_ 2 (.int .u16 g0)))
    have e6 : Cells W6 w4.heap.size #[.int .u16 g0, .int .u16 g1, .int .u32 g2, .int .u32 g3, .int .u8 g4, .int .u8 g5, .int .u16 g6, .int .u16 g7, .int .u16 g8, .string g9] 160 := by rw [← hW6]; (repeat' (first | with_reducible exact E4.out | with_reducible refine Cells.drew ?_ | with_reducible refine Cells.other ?_ HGX.out _ _))
    have d6 : Cells W6 w.heap.size #[.int .u8 0, .int .u32 0, .int .u16 0, .int .u32 0, .int .u16 0, .int .i64 0, .int .u8 0, .bool false, .int .u8 0] 120 := by rw [← hW6]; (repeat' (first | with_reducible exact D4.out | with_reducible refine Cells.drew ?_ | with_reducible refine Cells.other ?_ HN.out _ _))
    have b6 : Below w.heap.size w W6 := by rw [← hW6]; (repeat' (first | with_reducible exact B5.out | with_reducible refine Below.setCell ?_ (by have := HL.out; dsimp only; omega) _ | with_reducible refine Below.drew ?_))
    clear hW6
    have HX6 := hide x6; have HD6 := hide d6; have HB6 := hide b6
    have xe6_5 : W6.cell? ⟨w4.heap.size, 5, none⟩ = some (.int .u8 g5) := e6.at_ 5
    obtain ⟨xx6_0, xx6_1, xx6_2, xx6_3, xx6_4, xx6_5, xx6_6, xx6_7, xx6_8⟩ := x6.x9
    obtain ⟨yx6_0, yx6_1, yx6_2, yx6_3, yx6_4, yx6_5, yx6_6, yx6_7, yx6_8⟩ := x6.y9
    have x7 : Cells (W6.setCell ⟨w1.heap.size + 1, 5, none⟩ (.int .i64 1)) (w1.heap.size + 1) #[.int .u8 6, .int .u32 h5, .int .u16 g0, .int .u32 h6, .int .u16 g1, .int .i64 1, .int .u8 g5, .bool false, .int .u8 h3] 120 := x6.set_ 5 (.int .i64 1)
    have d7 := d6.other HN.out 5 (.int .i64 1)
    have b7 : Below w.heap.size w (W6.setCell ⟨w1.heap.size + 1, 5, none⟩ (.int .i64 1)) := Below.setCell b6 (by have := HL.out; dsimp only; omega) _
    obtain ⟨xd7_0, xd7_1, xd7_2, xd7_3, xd7_4, xd7_5, xd7_6, xd7_7, xd7_8⟩ := d7.x9
    obtain ⟨yd7_0, yd7_1, yd7_2, yd7_3, yd7_4, yd7_5, yd7_6, yd7_7, yd7_8⟩ := d7.y9
    obtain ⟨xx7_0, xx7_1, xx7_2, xx7_3, xx7_4, xx7_5, xx7_6, xx7_7, xx7_8⟩ := x7.x9
    clear x6 d6 b6 e6 HX6 HD6 HB6 E4 X4 D4 B5 fS x4 e4
    have HD7 := hide d7; have HB7 := hide b7; have HX7 := hide x7
    clear d7 b7 x7
    go_wp2_with fail
    have d7 := HD7.out; have b7 := HB7.out
    have hle := HL.out
    generalize (W6.setCell ⟨w1.heap.size + 1, 5, none⟩ (.int .i64 1)) = W7 at *
    have r5 := (Cells.put9 d7 (.int .u8 6) (.int .u32 h5) (.int .u16 g0) (.int .u32 h6) (.int .u16 g1) (.int .i64 1) (.int .u8 g5) (.bool false) (.int .u8 h3))
    have b5 := (Below.put9 b7 (b := w.heap.size) (by first | exact Nat.le_refl _ | omega) (.int .u8 6) (.int .u32 h5) (.int .u16 g0) (.int .u32 h6) (.int .u16 g1) (.int .i64 1) (.int .u8 g5) (.bool false) (.int .u8 h3))
    have HR5 := hide r5; have HB5 := hide b5
    clear r5 b5 d7
    generalize (((((((((W7.setCell ⟨w.heap.size, 0, none⟩ (.int .u8 6)).setCell ⟨w.heap.size, 1, none⟩ (.int .u32 h5)).setCell ⟨w.heap.size, 2, none⟩ (.int .u16 g0)).setCell ⟨w.heap.size, 3, none⟩ (.int .u32 h6)).setCell ⟨w.heap.size, 4, none⟩ (.int .u16 g1)).setCell ⟨w.heap.size, 5, none⟩ (.int .i64 1)).setCell ⟨w.heap.size, 6, none⟩ (.int .u8 g5)).setCell ⟨w.heap.size, 7, none⟩ (.bool false)).setCell ⟨w.heap.size, 8, none⟩ (.int .u8 h3)) = W5 at *
    have r5 := HR5.out; have b5 := HB5.out
    clear HR5 HB5
    obtain ⟨xr5_0, xr5_1, xr5_2, xr5_3, xr5_4, xr5_5, xr5_6, xr5_7, xr5_8⟩ := r5.x9
    (try simp only [Exit.inBlock, Exit.then]); refine bodyPost_ret (by simp [results, Tryz.results57, go_sem, *]; try rfl) rfl ?_
    first | exact ⟨rfl, b5⟩ | exact ⟨rfl, b5.drew⟩

set_option maxRecDepth 100000 in
set_option maxHeartbeats 4000000 in
theorem o_Of_tcp_flow (s l : ByteArray) (w : World) (h0 h1 h3 h5 h6 : Int) (h2 : Bool) (h7 : ByteArray) (g0 g1 g2 g3 g4 g5 g6 g7 g8 : Int) (g9 r : ByteArray) (hk : bits .and .u8 g5 23 ≠ 2)
    (c1 : ∀ W, Calls Tryz.prog 58 #[.string s] W (Ret (.tuple #[.agg #[.int .u8 h0, .int .u16 h1, .bool h2, .int .u8 h3, .int .u8 6, .int .u32 h5, .int .u32 h6, .string h7], .string l, .int .i64 0]) W))
    (c2 : ∀ W, Calls Tryz.prog 106 #[.string l] W (Ret (.tuple #[.agg #[.int .u16 g0, .int .u16 g1, .int .u32 g2, .int .u32 g3, .int .u8 g4, .int .u8 g5, .int .u16 g6, .int .u16 g7, .int .u16 g8, .string g9], .string r, .bool true]) W)) :
    Calls Tryz.prog 57 #[.string s] w (Ret (.tuple #[.agg #[.int .u8 6, .int .u32 h5, .int .u16 g0, .int .u32 h6, .int .u16 g1, .int .i64 2, .int .u8 g5, .bool false, .int .u8 h3], .int .i64 0]) w) := by
  have q1 : (bits .and .u8 g5 23 == 2) = false := by simpa using hk
  clear hk
  have C1 := hide c1; have C2 := hide c2
  clear c1 c2
  go_enter Tryz.func57, Tryz.ntmps57
  have d0 := Cells.new w #[.int .u8 0, .int .u32 0, .int .u16 0, .int .u32 0, .int .u16 0, .int .i64 0, .int .u8 0, .bool false, .int .u8 0] 120
  go_wp2_with fail
  (with_reducible refine (C1.out _).mono ?_)
  rintro e w1 ⟨rfl, b1⟩
  have d1 := Cells.below b1 d0
  have e1 := Cells.new w1 #[.int .u8 h0, .int .u16 h1, .bool h2, .int .u8 h3, .int .u8 6, .int .u32 h5, .int .u32 h6, .string h7] 50
  obtain ⟨xe1_0, xe1_1, xe1_2, xe1_3, xe1_4, xe1_5, xe1_6, xe1_7⟩ := e1.x8
  have d3 := Cells.alloc (Cells.alloc d1 (.cells #[.int .u8 h0, .int .u16 h1, .bool h2, .int .u8 h3, .int .u8 6, .int .u32 h5, .int .u32 h6, .string h7] 50)) (.cells #[.int .u8 6, .int .u32 h5, .int .u16 0, .int .u32 h6, .int .u16 0, .int .i64 2, .int .u8 0, .bool false, .int .u8 h3] 120)
  have e3 := Cells.alloc e1 (.cells #[.int .u8 6, .int .u32 h5, .int .u16 0, .int .u32 h6, .int .u16 0, .int .i64 2, .int .u8 0, .bool false, .int .u8 h3] 120)
  have xe3_4 : (((w1.alloc (.cells #[.int .u8 h0, .int .u16 h1, .bool h2, .int .u8 h3, .int .u8 6, .int .u32 h5, .int .u32 h6, .string h7] 50)).alloc (.cells #[.int .u8 6, .int .u32 h5, .int .u16 0, .int .u32 h6, .int .u16 0, .int .i64 2, .int .u8 0, .bool false, .int .u8 h3] 120))).cell? ⟨w1.heap.size, 4, none⟩ = some (.int .u8 6) := e3.at_ 4
  have x3 : Cells ((w1.alloc (.cells #[.int .u8 h0, .int .u16 h1, .bool h2, .int .u8 h3, .int .u8 6, .int .u32 h5, .int .u32 h6, .string h7] 50)).alloc (.cells #[.int .u8 6, .int .u32 h5, .int .u16 0, .int .u32 h6, .int .u16 0, .int .i64 2, .int .u8 0, .bool false, .int .u8 h3] 120)) (w1.heap.size + 1) #[.int .u8 6, .int .u32 h5, .int .u16 0, .int .u32 h6, .int .u16 0, .int .i64 2, .int .u8 0, .bool false, .int .u8 h3] 120 := by
    have := Cells.new (w1.alloc (.cells #[.int .u8 h0, .int .u16 h1, .bool h2, .int .u8 h3, .int .u8 6, .int .u32 h5, .int .u32 h6, .string h7] 50)) #[.int .u8 6, .int .u32 h5, .int .u16 0, .int .u32 h6, .int .u16 0, .int .i64 2, .int .u8 0, .bool false, .int .u8 h3] 120
    rw [show (w1.alloc (.cells #[.int .u8 h0, .int .u16 h1, .bool h2, .int .u8 h3, .int .u8 6, .int .u32 h5, .int .u32 h6, .string h7] 50)).heap.size = w1.heap.size + 1 from by simp] at this
    exact this
  have b3 : Below w.heap.size w ((w1.alloc (.cells #[.int .u8 h0, .int .u16 h1, .bool h2, .int .u8 h3, .int .u8 6, .int .u32 h5, .int .u32 h6, .string h7] 50)).alloc (.cells #[.int .u8 6, .int .u32 h5, .int .u16 0, .int .u32 h6, .int .u16 0, .int .i64 2, .int .u8 0, .bool false, .int .u8 h3] 120)) := bstep (bstep (bstep (fresh_below _ _) b1) (fresh_below _ _)) (fresh_below _ _)
  have hlt : w.heap.size ≠ w1.heap.size + 1 := by have := d1.lt; omega
  have hle : w.heap.size ≤ w1.heap.size + 1 := by have := d1.lt; omega
  have D3 := hide d3; have X3 := hide x3; have B3 := hide b3; have HN := hide hlt; have HL := hide hle
  clear d0 d1 e1 d3 e3 x3 b3 b1 hlt hle
  go_wp2_with fail
  (with_reducible refine (C2.out _).mono ?_)
  rintro e w4 ⟨rfl, b4⟩
  have d4 := Cells.alloc (Cells.below b4 D3.out) (.cells #[.int .u16 g0, .int .u16 g1, .int .u32 g2, .int .u32 g3, .int .u8 g4, .int .u8 g5, .int .u16 g6, .int .u16 g7, .int .u16 g8, .string g9] 160)
  have x4 := Cells.alloc (Cells.below b4 X3.out) (.cells #[.int .u16 g0, .int .u16 g1, .int .u32 g2, .int .u32 g3, .int .u8 g4, .int .u8 g5, .int .u16 g6, .int .u16 g7, .int .u16 g8, .string g9] 160)
  have e4 := Cells.new w4 #[.int .u16 g0, .int .u16 g1, .int .u32 g2, .int .u32 g3, .int .u8 g4, .int .u8 g5, .int .u16 g6, .int .u16 g7, .int .u16 g8, .string g9] 160
  have b5 : Below w.heap.size w (w4.alloc (.cells #[.int .u16 g0, .int .u16 g1, .int .u32 g2, .int .u32 g3, .int .u8 g4, .int .u8 g5, .int .u16 g6, .int .u16 g7, .int .u16 g8, .string g9] 160)) := bstep (bstep B3.out b4) (fresh_below _ _)
  have hgw : w4.heap.size ≠ w.heap.size := by have := (Cells.below b4 D3.out).lt; omega
  have hgx : w4.heap.size ≠ w1.heap.size + 1 := by have := (Cells.below b4 X3.out).lt; omega
  have HGW := hide hgw; have HGX := hide hgx
  clear D3 X3 B3 b4 C1 C2 hgw hgx
  obtain ⟨xx4_0, xx4_1, xx4_2, xx4_3, xx4_4, xx4_5, xx4_6, xx4_7, xx4_8⟩ := x4.x9
  obtain ⟨yx4_0, yx4_1, yx4_2, yx4_3, yx4_4, yx4_5, yx4_6, yx4_7, yx4_8⟩ := x4.y9
  obtain ⟨xe4_0, xe4_1, xe4_2, xe4_3, xe4_4, xe4_5, xe4_6, xe4_7, xe4_8, xe4_9⟩ := e4.x10
  have fS := hide (fun (X : World) (hX : Cells X w4.heap.size #[.int .u16 g0, .int .u16 g1, .int .u32 g2, .int .u32 g3, .int .u8 g4, .int .u8 g5, .int .u16 g6, .int .u16 g7, .int .u16 g8, .string g9] 160) => (show World.cell? X ⟨w4.heap.size, 0, none⟩ = some (.int .u16 g0) ∧ World.cell? X ⟨w4.heap.size, 1, none⟩ = some (.int .u16 g1) ∧ World.cell? X ⟨w4.heap.size, 5, none⟩ = some (.int .u8 g5) from ⟨hX.at_ 0, hX.at_ 1, hX.at_ 5⟩))
  have E4 := hide e4; have X4 := hide x4; have D4 := hide d4; have B5 := hide b5
  clear d4 b5
  go_wp2_with fail
  generalize (w4.alloc (.cells #[.int .u16 g0, .int .u16 g1, .int .u32 g2, .int .u32 g3, .int .u8 g4, .int .u8 g5, .int .u16 g6, .int .u16 g7, .int .u16 g8, .string g9] 160)) = w5 at *
  go_region_held3 (fun zW => World.cell? zW ⟨w4.heap.size, 0, none⟩ = some (.int .u16 g0) ∧ World.cell? zW ⟨w4.heap.size, 1, none⟩ = some (.int .u16 g1) ∧ World.cell? zW ⟨w4.heap.size, 5, none⟩ = some (.int .u8 g5)) (((try dsimp only); with_reducible refine fS.out _ ?_; (repeat' (first | with_reducible exact E4.out | with_reducible refine Cells.drew ?_ | with_reducible refine Cells.other ?_ HGX.out _ _))))
    (fail)
  all_goals
    generalize hW6 : World.setCell _ _ _ = W6
    have x6 : Cells W6 (w1.heap.size + 1) #[.int .u8 6, .int .u32 h5, .int .u16 g0, .int .u32 h6, .int .u16 g1, .int .i64 2, .int .u8 g5, .bool false, .int .u8 h3] 120 := by rw [← hW6]; (first | exact (((X4.out.drew.set_ 2 (.int .u16 g0)).set_ 4 (.int .u16 g1)).set_ 6 (.int .u8 g5)) | exact (((X4.out.drew.set_ 2 (.int .u16 g0)).set_ 6 (.int .u8 g5)).set_ 4 (.int .u16 g1)) | exact (((X4.out.drew.set_ 4 (.int .u16 g1)).set_ 2 (.int .u16 g0)).set_ 6 (.int .u8 g5)) | exact (((X4.out.drew.set_ 4 (.int .u16 g1)).set_ 6 (.int .u8 g5)).set_ 2 (.int .u16 g0)) | exact (((X4.out.drew.set_ 6 (.int .u8 g5)).set_ 2 (.int .u16 g0)).set_ 4 (.int .u16 g1)) | exact (((X4.out.drew.set_ 6 (.int .u8 g5)).set_ 4 (.int .u16 g1)).set_ 2 (.int .u16 g0)))
    have e6 : Cells W6 w4.heap.size #[.int .u16 g0, .int .u16 g1, .int .u32 g2, .int .u32 g3, .int .u8 g4, .int .u8 g5, .int .u16 g6, .int .u16 g7, .int .u16 g8, .string g9] 160 := by rw [← hW6]; (repeat' (first | with_reducible exact E4.out | with_reducible refine Cells.drew ?_ | with_reducible refine Cells.other ?_ HGX.out _ _))
    have d6 : Cells W6 w.heap.size #[.int .u8 0, .int .u32 0, .int .u16 0, .int .u32 0, .int .u16 0, .int .i64 0, .int .u8 0, .bool false, .int .u8 0] 120 := by rw [← hW6]; (repeat' (first | with_reducible exact D4.out | with_reducible refine Cells.drew ?_ | with_reducible refine Cells.other ?_ HN.out _ _))
    have b6 : Below w.heap.size w W6 := by rw [← hW6]; (repeat' (first | with_reducible exact B5.out | with_reducible refine Below.setCell ?_ (by have := HL.out; dsimp only; omega) _ | with_reducible refine Below.drew ?_))
    clear hW6
    have HX6 := hide x6; have HD6 := hide d6; have HB6 := hide b6
    have xe6_5 : W6.cell? ⟨w4.heap.size, 5, none⟩ = some (.int .u8 g5) := e6.at_ 5
    obtain ⟨xx6_0, xx6_1, xx6_2, xx6_3, xx6_4, xx6_5, xx6_6, xx6_7, xx6_8⟩ := x6.x9
    obtain ⟨yx6_0, yx6_1, yx6_2, yx6_3, yx6_4, yx6_5, yx6_6, yx6_7, yx6_8⟩ := x6.y9
    obtain ⟨xd6_0, xd6_1, xd6_2, xd6_3, xd6_4, xd6_5, xd6_6, xd6_7, xd6_8⟩ := d6.x9
    obtain ⟨yd6_0, yd6_1, yd6_2, yd6_3, yd6_4, yd6_5, yd6_6, yd6_7, yd6_8⟩ := d6.y9
    clear x6 d6 b6 e6 HX6 E4 X4 D4 B5 fS x4 e4
    go_wp2_with fail
    have d7 := HD6.out; have b7 := HB6.out
    have r5 := (Cells.put9 d7 (.int .u8 6) (.int .u32 h5) (.int .u16 g0) (.int .u32 h6) (.int .u16 g1) (.int .i64 2) (.int .u8 g5) (.bool false) (.int .u8 h3))
    have b5 := (Below.put9 b7 (b := w.heap.size) (by first | exact Nat.le_refl _ | omega) (.int .u8 6) (.int .u32 h5) (.int .u16 g0) (.int .u32 h6) (.int .u16 g1) (.int .i64 2) (.int .u8 g5) (.bool false) (.int .u8 h3))
    have HR5 := hide r5; have HB5 := hide b5
    clear r5 b5 d7
    generalize (((((((((W6.setCell ⟨w.heap.size, 0, none⟩ (.int .u8 6)).setCell ⟨w.heap.size, 1, none⟩ (.int .u32 h5)).setCell ⟨w.heap.size, 2, none⟩ (.int .u16 g0)).setCell ⟨w.heap.size, 3, none⟩ (.int .u32 h6)).setCell ⟨w.heap.size, 4, none⟩ (.int .u16 g1)).setCell ⟨w.heap.size, 5, none⟩ (.int .i64 2)).setCell ⟨w.heap.size, 6, none⟩ (.int .u8 g5)).setCell ⟨w.heap.size, 7, none⟩ (.bool false)).setCell ⟨w.heap.size, 8, none⟩ (.int .u8 h3)) = W5 at *
    have r5 := HR5.out; have b5 := HB5.out
    clear HR5 HB5
    obtain ⟨xr5_0, xr5_1, xr5_2, xr5_3, xr5_4, xr5_5, xr5_6, xr5_7, xr5_8⟩ := r5.x9
    (try simp only [Exit.inBlock, Exit.then]); refine bodyPost_ret (by simp [results, Tryz.results57, go_sem, *]; try rfl) rfl ?_
    first | exact ⟨rfl, b5⟩ | exact ⟨rfl, b5.drew⟩
end Go.Proofs.YtjeaknipmdfkdaaGreatDoor
end

section
/- The document's answer for what is seen of a packet (porterref08.Of), second half, over this program. -/
set_option linter.unusedVariables false
set_option linter.unusedSimpArgs false
namespace Go.Proofs.YtjeaknipmdfkdaaGreatDoor
open Go.RowKit
attribute [local go_sem] Oper.semAt_some

set_option maxRecDepth 100000 in
set_option maxHeartbeats 4000000 in
theorem o_Of_udp_no (s l : ByteArray) (w : World) (h0 h1 h3 h5 h6 : Int) (h2 : Bool) (h7 : ByteArray) (r : ByteArray)
    (c1 : ∀ W, Calls Tryz.prog 58 #[.string s] W (Ret (.tuple #[.agg #[.int .u8 h0, .int .u16 h1, .bool h2, .int .u8 h3, .int .u8 17, .int .u32 h5, .int .u32 h6, .string h7], .string l, .int .i64 0]) W))
    (c2 : ∀ W, Calls Tryz.prog 107 #[.string l] W (Ret (.tuple #[.agg #[.int .u16 0, .int .u16 0, .int .u16 0, .int .u16 0], .string r, .bool false]) W)) :
    Calls Tryz.prog 57 #[.string s] w (Ret (.tuple #[.agg #[.int .u8 0, .int .u32 0, .int .u16 0, .int .u32 0, .int .u16 0, .int .i64 0, .int .u8 0, .bool false, .int .u8 0], .int .i64 7]) w) := by
  have C1 := hide c1; have C2 := hide c2
  clear c1 c2
  go_enter Tryz.func57, Tryz.ntmps57
  have d0 := Cells.new w #[.int .u8 0, .int .u32 0, .int .u16 0, .int .u32 0, .int .u16 0, .int .i64 0, .int .u8 0, .bool false, .int .u8 0] 120
  go_wp2_with fail
  (with_reducible refine (C1.out _).mono ?_)
  rintro e w1 ⟨rfl, b1⟩
  have d1 := Cells.below b1 d0
  have e1 := Cells.new w1 #[.int .u8 h0, .int .u16 h1, .bool h2, .int .u8 h3, .int .u8 17, .int .u32 h5, .int .u32 h6, .string h7] 50
  obtain ⟨xe1_0, xe1_1, xe1_2, xe1_3, xe1_4, xe1_5, xe1_6, xe1_7⟩ := e1.x8
  have d3 := Cells.alloc (Cells.alloc d1 (.cells #[.int .u8 h0, .int .u16 h1, .bool h2, .int .u8 h3, .int .u8 17, .int .u32 h5, .int .u32 h6, .string h7] 50)) (.cells #[.int .u8 17, .int .u32 h5, .int .u16 0, .int .u32 h6, .int .u16 0, .int .i64 2, .int .u8 0, .bool false, .int .u8 h3] 120)
  have e3 := Cells.alloc e1 (.cells #[.int .u8 17, .int .u32 h5, .int .u16 0, .int .u32 h6, .int .u16 0, .int .i64 2, .int .u8 0, .bool false, .int .u8 h3] 120)
  have xe3_4 : (((w1.alloc (.cells #[.int .u8 h0, .int .u16 h1, .bool h2, .int .u8 h3, .int .u8 17, .int .u32 h5, .int .u32 h6, .string h7] 50)).alloc (.cells #[.int .u8 17, .int .u32 h5, .int .u16 0, .int .u32 h6, .int .u16 0, .int .i64 2, .int .u8 0, .bool false, .int .u8 h3] 120))).cell? ⟨w1.heap.size, 4, none⟩ = some (.int .u8 17) := e3.at_ 4
  have x3 : Cells ((w1.alloc (.cells #[.int .u8 h0, .int .u16 h1, .bool h2, .int .u8 h3, .int .u8 17, .int .u32 h5, .int .u32 h6, .string h7] 50)).alloc (.cells #[.int .u8 17, .int .u32 h5, .int .u16 0, .int .u32 h6, .int .u16 0, .int .i64 2, .int .u8 0, .bool false, .int .u8 h3] 120)) (w1.heap.size + 1) #[.int .u8 17, .int .u32 h5, .int .u16 0, .int .u32 h6, .int .u16 0, .int .i64 2, .int .u8 0, .bool false, .int .u8 h3] 120 := by
    have := Cells.new (w1.alloc (.cells #[.int .u8 h0, .int .u16 h1, .bool h2, .int .u8 h3, .int .u8 17, .int .u32 h5, .int .u32 h6, .string h7] 50)) #[.int .u8 17, .int .u32 h5, .int .u16 0, .int .u32 h6, .int .u16 0, .int .i64 2, .int .u8 0, .bool false, .int .u8 h3] 120
    rw [show (w1.alloc (.cells #[.int .u8 h0, .int .u16 h1, .bool h2, .int .u8 h3, .int .u8 17, .int .u32 h5, .int .u32 h6, .string h7] 50)).heap.size = w1.heap.size + 1 from by simp] at this
    exact this
  have b3 : Below w.heap.size w ((w1.alloc (.cells #[.int .u8 h0, .int .u16 h1, .bool h2, .int .u8 h3, .int .u8 17, .int .u32 h5, .int .u32 h6, .string h7] 50)).alloc (.cells #[.int .u8 17, .int .u32 h5, .int .u16 0, .int .u32 h6, .int .u16 0, .int .i64 2, .int .u8 0, .bool false, .int .u8 h3] 120)) := bstep (bstep (bstep (fresh_below _ _) b1) (fresh_below _ _)) (fresh_below _ _)
  have hlt : w.heap.size ≠ w1.heap.size + 1 := by have := d1.lt; omega
  have hle : w.heap.size ≤ w1.heap.size + 1 := by have := d1.lt; omega
  have D3 := hide d3; have X3 := hide x3; have B3 := hide b3; have HN := hide hlt; have HL := hide hle
  clear d0 d1 e1 d3 e3 x3 b3 b1 hlt hle
  go_wp2_with fail
  (with_reducible refine (C2.out _).mono ?_)
  rintro e w4 ⟨rfl, b4⟩
  have d4 := Cells.alloc (Cells.below b4 D3.out) (.cells #[.int .u16 0, .int .u16 0, .int .u16 0, .int .u16 0] 164)
  have x4 := Cells.alloc (Cells.below b4 X3.out) (.cells #[.int .u16 0, .int .u16 0, .int .u16 0, .int .u16 0] 164)
  have e4 := Cells.new w4 #[.int .u16 0, .int .u16 0, .int .u16 0, .int .u16 0] 164
  have b5 : Below w.heap.size w (w4.alloc (.cells #[.int .u16 0, .int .u16 0, .int .u16 0, .int .u16 0] 164)) := bstep (bstep B3.out b4) (fresh_below _ _)
  have hgw : w4.heap.size ≠ w.heap.size := by have := (Cells.below b4 D3.out).lt; omega
  have hgx : w4.heap.size ≠ w1.heap.size + 1 := by have := (Cells.below b4 X3.out).lt; omega
  have HGW := hide hgw; have HGX := hide hgx
  clear D3 X3 B3 b4 C1 C2 hgw hgx
  obtain ⟨xd4_0, xd4_1, xd4_2, xd4_3, xd4_4, xd4_5, xd4_6, xd4_7, xd4_8⟩ := d4.x9
  obtain ⟨yd4_0, yd4_1, yd4_2, yd4_3, yd4_4, yd4_5, yd4_6, yd4_7, yd4_8⟩ := d4.y9
  go_wp2_with fail
  generalize (w4.alloc (.cells #[.int .u16 0, .int .u16 0, .int .u16 0, .int .u16 0] 164)) = W at *
  have r5 := (Cells.put9 d4 (.int .u8 0) (.int .u32 0) (.int .u16 0) (.int .u32 0) (.int .u16 0) (.int .i64 0) (.int .u8 0) (.bool false) (.int .u8 0))
  have b5 := (Below.put9 b5 (b := w.heap.size) (by first | exact Nat.le_refl _ | omega) (.int .u8 0) (.int .u32 0) (.int .u16 0) (.int .u32 0) (.int .u16 0) (.int .i64 0) (.int .u8 0) (.bool false) (.int .u8 0))
  have HR5 := hide r5; have HB5 := hide b5
  clear r5 b5 d4
  generalize (((((((((W.setCell ⟨w.heap.size, 0, none⟩ (.int .u8 0)).setCell ⟨w.heap.size, 1, none⟩ (.int .u32 0)).setCell ⟨w.heap.size, 2, none⟩ (.int .u16 0)).setCell ⟨w.heap.size, 3, none⟩ (.int .u32 0)).setCell ⟨w.heap.size, 4, none⟩ (.int .u16 0)).setCell ⟨w.heap.size, 5, none⟩ (.int .i64 0)).setCell ⟨w.heap.size, 6, none⟩ (.int .u8 0)).setCell ⟨w.heap.size, 7, none⟩ (.bool false)).setCell ⟨w.heap.size, 8, none⟩ (.int .u8 0)) = W5 at *
  have r5 := HR5.out; have b5 := HB5.out
  clear HR5 HB5
  obtain ⟨xr5_0, xr5_1, xr5_2, xr5_3, xr5_4, xr5_5, xr5_6, xr5_7, xr5_8⟩ := r5.x9
  (try simp only [Exit.inBlock, Exit.then]); refine bodyPost_ret (by simp [results, Tryz.results57, go_sem, *]; try rfl) rfl ?_
  first | exact ⟨rfl, b5⟩ | exact ⟨rfl, b5.drew⟩

set_option maxRecDepth 100000 in
set_option maxHeartbeats 4000000 in
theorem o_Of_udp_yes (s l : ByteArray) (w : World) (h0 h1 h3 h5 h6 : Int) (h2 : Bool) (h7 : ByteArray) (g0 g1 g2 g3 : Int) (r : ByteArray)
    (c1 : ∀ W, Calls Tryz.prog 58 #[.string s] W (Ret (.tuple #[.agg #[.int .u8 h0, .int .u16 h1, .bool h2, .int .u8 h3, .int .u8 17, .int .u32 h5, .int .u32 h6, .string h7], .string l, .int .i64 0]) W))
    (c2 : ∀ W, Calls Tryz.prog 107 #[.string l] W (Ret (.tuple #[.agg #[.int .u16 g0, .int .u16 g1, .int .u16 g2, .int .u16 g3], .string r, .bool true]) W)) :
    Calls Tryz.prog 57 #[.string s] w (Ret (.tuple #[.agg #[.int .u8 17, .int .u32 h5, .int .u16 g0, .int .u32 h6, .int .u16 g1, .int .i64 2, .int .u8 0, .bool false, .int .u8 h3], .int .i64 0]) w) := by
  have C1 := hide c1; have C2 := hide c2
  clear c1 c2
  go_enter Tryz.func57, Tryz.ntmps57
  have d0 := Cells.new w #[.int .u8 0, .int .u32 0, .int .u16 0, .int .u32 0, .int .u16 0, .int .i64 0, .int .u8 0, .bool false, .int .u8 0] 120
  go_wp2_with fail
  (with_reducible refine (C1.out _).mono ?_)
  rintro e w1 ⟨rfl, b1⟩
  have d1 := Cells.below b1 d0
  have e1 := Cells.new w1 #[.int .u8 h0, .int .u16 h1, .bool h2, .int .u8 h3, .int .u8 17, .int .u32 h5, .int .u32 h6, .string h7] 50
  obtain ⟨xe1_0, xe1_1, xe1_2, xe1_3, xe1_4, xe1_5, xe1_6, xe1_7⟩ := e1.x8
  have d3 := Cells.alloc (Cells.alloc d1 (.cells #[.int .u8 h0, .int .u16 h1, .bool h2, .int .u8 h3, .int .u8 17, .int .u32 h5, .int .u32 h6, .string h7] 50)) (.cells #[.int .u8 17, .int .u32 h5, .int .u16 0, .int .u32 h6, .int .u16 0, .int .i64 2, .int .u8 0, .bool false, .int .u8 h3] 120)
  have e3 := Cells.alloc e1 (.cells #[.int .u8 17, .int .u32 h5, .int .u16 0, .int .u32 h6, .int .u16 0, .int .i64 2, .int .u8 0, .bool false, .int .u8 h3] 120)
  have xe3_4 : (((w1.alloc (.cells #[.int .u8 h0, .int .u16 h1, .bool h2, .int .u8 h3, .int .u8 17, .int .u32 h5, .int .u32 h6, .string h7] 50)).alloc (.cells #[.int .u8 17, .int .u32 h5, .int .u16 0, .int .u32 h6, .int .u16 0, .int .i64 2, .int .u8 0, .bool false, .int .u8 h3] 120))).cell? ⟨w1.heap.size, 4, none⟩ = some (.int .u8 17) := e3.at_ 4
  have x3 : Cells ((w1.alloc (.cells #[.int .u8 h0, .int .u16 h1, .bool h2, .int .u8 h3, .int .u8 17, .int .u32 h5, .int .u32 h6, .string h7] 50)).alloc (.cells #[.int .u8 17, .int .u32 h5, .int .u16 0, .int .u32 h6, .int .u16 0, .int .i64 2, .int .u8 0, .bool false, .int .u8 h3] 120)) (w1.heap.size + 1) #[.int .u8 17, .int .u32 h5, .int .u16 0, .int .u32 h6, .int .u16 0, .int .i64 2, .int .u8 0, .bool false, .int .u8 h3] 120 := by
    have := Cells.new (w1.alloc (.cells #[.int .u8 h0, .int .u16 h1, .bool h2, .int .u8 h3, .int .u8 17, .int .u32 h5, .int .u32 h6, .string h7] 50)) #[.int .u8 17, .int .u32 h5, .int .u16 0, .int .u32 h6, .int .u16 0, .int .i64 2, .int .u8 0, .bool false, .int .u8 h3] 120
    rw [show (w1.alloc (.cells #[.int .u8 h0, .int .u16 h1, .bool h2, .int .u8 h3, .int .u8 17, .int .u32 h5, .int .u32 h6, .string h7] 50)).heap.size = w1.heap.size + 1 from by simp] at this
    exact this
  have b3 : Below w.heap.size w ((w1.alloc (.cells #[.int .u8 h0, .int .u16 h1, .bool h2, .int .u8 h3, .int .u8 17, .int .u32 h5, .int .u32 h6, .string h7] 50)).alloc (.cells #[.int .u8 17, .int .u32 h5, .int .u16 0, .int .u32 h6, .int .u16 0, .int .i64 2, .int .u8 0, .bool false, .int .u8 h3] 120)) := bstep (bstep (bstep (fresh_below _ _) b1) (fresh_below _ _)) (fresh_below _ _)
  have hlt : w.heap.size ≠ w1.heap.size + 1 := by have := d1.lt; omega
  have hle : w.heap.size ≤ w1.heap.size + 1 := by have := d1.lt; omega
  have D3 := hide d3; have X3 := hide x3; have B3 := hide b3; have HN := hide hlt; have HL := hide hle
  clear d0 d1 e1 d3 e3 x3 b3 b1 hlt hle
  go_wp2_with fail
  (with_reducible refine (C2.out _).mono ?_)
  rintro e w4 ⟨rfl, b4⟩
  have d4 := Cells.alloc (Cells.below b4 D3.out) (.cells #[.int .u16 g0, .int .u16 g1, .int .u16 g2, .int .u16 g3] 164)
  have x4 := Cells.alloc (Cells.below b4 X3.out) (.cells #[.int .u16 g0, .int .u16 g1, .int .u16 g2, .int .u16 g3] 164)
  have e4 := Cells.new w4 #[.int .u16 g0, .int .u16 g1, .int .u16 g2, .int .u16 g3] 164
  have b5 : Below w.heap.size w (w4.alloc (.cells #[.int .u16 g0, .int .u16 g1, .int .u16 g2, .int .u16 g3] 164)) := bstep (bstep B3.out b4) (fresh_below _ _)
  have hgw : w4.heap.size ≠ w.heap.size := by have := (Cells.below b4 D3.out).lt; omega
  have hgx : w4.heap.size ≠ w1.heap.size + 1 := by have := (Cells.below b4 X3.out).lt; omega
  have HGW := hide hgw; have HGX := hide hgx
  clear D3 X3 B3 b4 C1 C2 hgw hgx
  obtain ⟨xx4_0, xx4_1, xx4_2, xx4_3, xx4_4, xx4_5, xx4_6, xx4_7, xx4_8⟩ := x4.x9
  obtain ⟨yx4_0, yx4_1, yx4_2, yx4_3, yx4_4, yx4_5, yx4_6, yx4_7, yx4_8⟩ := x4.y9
  obtain ⟨xe4_0, xe4_1, xe4_2, xe4_3⟩ := e4.x4
  have fS := hide (fun (X : World) (hX : Cells X w4.heap.size #[.int .u16 g0, .int .u16 g1, .int .u16 g2, .int .u16 g3] 164) => (show World.cell? X ⟨w4.heap.size, 0, none⟩ = some (.int .u16 g0) ∧ World.cell? X ⟨w4.heap.size, 1, none⟩ = some (.int .u16 g1) from ⟨hX.at_ 0, hX.at_ 1⟩))
  have E4 := hide e4; have X4 := hide x4; have D4 := hide d4; have B5 := hide b5
  clear d4 b5
  go_wp2_with fail
  generalize (w4.alloc (.cells #[.int .u16 g0, .int .u16 g1, .int .u16 g2, .int .u16 g3] 164)) = w5 at *
  go_region_held3 (fun zW => World.cell? zW ⟨w4.heap.size, 0, none⟩ = some (.int .u16 g0) ∧ World.cell? zW ⟨w4.heap.size, 1, none⟩ = some (.int .u16 g1)) (((try dsimp only); with_reducible refine fS.out _ ?_; (repeat' (first | with_reducible exact E4.out | with_reducible refine Cells.drew ?_ | with_reducible refine Cells.other ?_ HGX.out _ _))))
    (fail)
  all_goals
    generalize hW6 : World.setCell _ _ _ = W6
    have x6 : Cells W6 (w1.heap.size + 1) #[.int .u8 17, .int .u32 h5, .int .u16 g0, .int .u32 h6, .int .u16 g1, .int .i64 2, .int .u8 0, .bool false, .int .u8 h3] 120 := by rw [← hW6]; (first | exact ((X4.out.drew.set_ 2 (.int .u16 g0)).set_ 4 (.int .u16 g1)) | exact ((X4.out.drew.set_ 4 (.int .u16 g1)).set_ 2 (.int .u16 g0)))
    have e6 : Cells W6 w4.heap.size #[.int .u16 g0, .int .u16 g1, .int .u16 g2, .int .u16 g3] 164 := by rw [← hW6]; (repeat' (first | with_reducible exact E4.out | with_reducible refine Cells.drew ?_ | with_reducible refine Cells.other ?_ HGX.out _ _))
    have d6 : Cells W6 w.heap.size #[.int .u8 0, .int .u32 0, .int .u16 0, .int .u32 0, .int .u16 0, .int .i64 0, .int .u8 0, .bool false, .int .u8 0] 120 := by rw [← hW6]; (repeat' (first | with_reducible exact D4.out | with_reducible refine Cells.drew ?_ | with_reducible refine Cells.other ?_ HN.out _ _))
    have b6 : Below w.heap.size w W6 := by rw [← hW6]; (repeat' (first | with_reducible exact B5.out | with_reducible refine Below.setCell ?_ (by have := HL.out; dsimp only; omega) _ | with_reducible refine Below.drew ?_))
    clear hW6
    have HX6 := hide x6; have HD6 := hide d6; have HB6 := hide b6
    obtain ⟨xx6_0, xx6_1, xx6_2, xx6_3, xx6_4, xx6_5, xx6_6, xx6_7, xx6_8⟩ := x6.x9
    obtain ⟨yx6_0, yx6_1, yx6_2, yx6_3, yx6_4, yx6_5, yx6_6, yx6_7, yx6_8⟩ := x6.y9
    obtain ⟨xd6_0, xd6_1, xd6_2, xd6_3, xd6_4, xd6_5, xd6_6, xd6_7, xd6_8⟩ := d6.x9
    obtain ⟨yd6_0, yd6_1, yd6_2, yd6_3, yd6_4, yd6_5, yd6_6, yd6_7, yd6_8⟩ := d6.y9
    clear x6 d6 b6 e6 HX6 E4 X4 D4 B5 fS x4 e4
    go_wp2_with fail
    have d7 := HD6.out; have b7 := HB6.out
    have r5 := (Cells.put9 d7 (.int .u8 17) (.int .u32 h5) (.int .u16 g0) (.int .u32 h6) (.int .u16 g1) (.int .i64 2) (.int .u8 0) (.bool false) (.int .u8 h3))
    have b5 := (Below.put9 b7 (b := w.heap.size) (by first | exact Nat.le_refl _ | omega) (.int .u8 17) (.int .u32 h5) (.int .u16 g0) (.int .u32 h6) (.int .u16 g1) (.int .i64 2) (.int .u8 0) (.bool false) (.int .u8 h3))
    have HR5 := hide r5; have HB5 := hide b5
    clear r5 b5 d7
    generalize (((((((((W6.setCell ⟨w.heap.size, 0, none⟩ (.int .u8 17)).setCell ⟨w.heap.size, 1, none⟩ (.int .u32 h5)).setCell ⟨w.heap.size, 2, none⟩ (.int .u16 g0)).setCell ⟨w.heap.size, 3, none⟩ (.int .u32 h6)).setCell ⟨w.heap.size, 4, none⟩ (.int .u16 g1)).setCell ⟨w.heap.size, 5, none⟩ (.int .i64 2)).setCell ⟨w.heap.size, 6, none⟩ (.int .u8 0)).setCell ⟨w.heap.size, 7, none⟩ (.bool false)).setCell ⟨w.heap.size, 8, none⟩ (.int .u8 h3)) = W5 at *
    have r5 := HR5.out; have b5 := HB5.out
    clear HR5 HB5
    obtain ⟨xr5_0, xr5_1, xr5_2, xr5_3, xr5_4, xr5_5, xr5_6, xr5_7, xr5_8⟩ := r5.x9
    (try simp only [Exit.inBlock, Exit.then]); refine bodyPost_ret (by simp [results, Tryz.results57, go_sem, *]; try rfl) rfl ?_
    first | exact ⟨rfl, b5⟩ | exact ⟨rfl, b5.drew⟩

set_option maxRecDepth 100000 in
set_option maxHeartbeats 4000000 in
theorem o_Of_msg_no (s l : ByteArray) (w : World) (h0 h1 h3 h5 h6 : Int) (h2 : Bool) (h7 : ByteArray)
    (c1 : ∀ W, Calls Tryz.prog 58 #[.string s] W (Ret (.tuple #[.agg #[.int .u8 h0, .int .u16 h1, .bool h2, .int .u8 h3, .int .u8 1, .int .u32 h5, .int .u32 h6, .string h7], .string l, .int .i64 0]) W))
    (c2 : ∀ W, Calls Tryz.prog 59 #[.string l] W (Ret (.tuple #[.agg #[.int .u8 0, .int .u8 0, .int .u16 0, .string { data := #[] }, .string { data := #[] }], .bool false]) W)) :
    Calls Tryz.prog 57 #[.string s] w (Ret (.tuple #[.agg #[.int .u8 0, .int .u32 0, .int .u16 0, .int .u32 0, .int .u16 0, .int .i64 0, .int .u8 0, .bool false, .int .u8 0], .int .i64 7]) w) := by
  have C1 := hide c1; have C2 := hide c2
  clear c1 c2
  go_enter Tryz.func57, Tryz.ntmps57
  have d0 := Cells.new w #[.int .u8 0, .int .u32 0, .int .u16 0, .int .u32 0, .int .u16 0, .int .i64 0, .int .u8 0, .bool false, .int .u8 0] 120
  go_wp2_with fail
  (with_reducible refine (C1.out _).mono ?_)
  rintro e w1 ⟨rfl, b1⟩
  have d1 := Cells.below b1 d0
  have e1 := Cells.new w1 #[.int .u8 h0, .int .u16 h1, .bool h2, .int .u8 h3, .int .u8 1, .int .u32 h5, .int .u32 h6, .string h7] 50
  obtain ⟨xe1_0, xe1_1, xe1_2, xe1_3, xe1_4, xe1_5, xe1_6, xe1_7⟩ := e1.x8
  have d3 := Cells.alloc (Cells.alloc d1 (.cells #[.int .u8 h0, .int .u16 h1, .bool h2, .int .u8 h3, .int .u8 1, .int .u32 h5, .int .u32 h6, .string h7] 50)) (.cells #[.int .u8 1, .int .u32 h5, .int .u16 0, .int .u32 h6, .int .u16 0, .int .i64 2, .int .u8 0, .bool false, .int .u8 h3] 120)
  have e3 := Cells.alloc e1 (.cells #[.int .u8 1, .int .u32 h5, .int .u16 0, .int .u32 h6, .int .u16 0, .int .i64 2, .int .u8 0, .bool false, .int .u8 h3] 120)
  have xe3_4 : (((w1.alloc (.cells #[.int .u8 h0, .int .u16 h1, .bool h2, .int .u8 h3, .int .u8 1, .int .u32 h5, .int .u32 h6, .string h7] 50)).alloc (.cells #[.int .u8 1, .int .u32 h5, .int .u16 0, .int .u32 h6, .int .u16 0, .int .i64 2, .int .u8 0, .bool false, .int .u8 h3] 120))).cell? ⟨w1.heap.size, 4, none⟩ = some (.int .u8 1) := e3.at_ 4
  have x3 : Cells ((w1.alloc (.cells #[.int .u8 h0, .int .u16 h1, .bool h2, .int .u8 h3, .int .u8 1, .int .u32 h5, .int .u32 h6, .string h7] 50)).alloc (.cells #[.int .u8 1, .int .u32 h5, .int .u16 0, .int .u32 h6, .int .u16 0, .int .i64 2, .int .u8 0, .bool false, .int .u8 h3] 120)) (w1.heap.size + 1) #[.int .u8 1, .int .u32 h5, .int .u16 0, .int .u32 h6, .int .u16 0, .int .i64 2, .int .u8 0, .bool false, .int .u8 h3] 120 := by
    have := Cells.new (w1.alloc (.cells #[.int .u8 h0, .int .u16 h1, .bool h2, .int .u8 h3, .int .u8 1, .int .u32 h5, .int .u32 h6, .string h7] 50)) #[.int .u8 1, .int .u32 h5, .int .u16 0, .int .u32 h6, .int .u16 0, .int .i64 2, .int .u8 0, .bool false, .int .u8 h3] 120
    rw [show (w1.alloc (.cells #[.int .u8 h0, .int .u16 h1, .bool h2, .int .u8 h3, .int .u8 1, .int .u32 h5, .int .u32 h6, .string h7] 50)).heap.size = w1.heap.size + 1 from by simp] at this
    exact this
  have b3 : Below w.heap.size w ((w1.alloc (.cells #[.int .u8 h0, .int .u16 h1, .bool h2, .int .u8 h3, .int .u8 1, .int .u32 h5, .int .u32 h6, .string h7] 50)).alloc (.cells #[.int .u8 1, .int .u32 h5, .int .u16 0, .int .u32 h6, .int .u16 0, .int .i64 2, .int .u8 0, .bool false, .int .u8 h3] 120)) := bstep (bstep (bstep (fresh_below _ _) b1) (fresh_below _ _)) (fresh_below _ _)
  have hlt : w.heap.size ≠ w1.heap.size + 1 := by have := d1.lt; omega
  have hle : w.heap.size ≤ w1.heap.size + 1 := by have := d1.lt; omega
  have D3 := hide d3; have X3 := hide x3; have B3 := hide b3; have HN := hide hlt; have HL := hide hle
  clear d0 d1 e1 d3 e3 x3 b3 b1 hlt hle
  go_wp2_with fail
  (with_reducible refine (C2.out _).mono ?_)
  rintro e w4 ⟨rfl, b4⟩
  have d4 := Cells.alloc (Cells.below b4 D3.out) (.cells #[.int .u8 0, .int .u8 0, .int .u16 0, .string { data := #[] }, .string { data := #[] }] 80)
  have x4 := Cells.alloc (Cells.below b4 X3.out) (.cells #[.int .u8 0, .int .u8 0, .int .u16 0, .string { data := #[] }, .string { data := #[] }] 80)
  have e4 := Cells.new w4 #[.int .u8 0, .int .u8 0, .int .u16 0, .string { data := #[] }, .string { data := #[] }] 80
  have b5 : Below w.heap.size w (w4.alloc (.cells #[.int .u8 0, .int .u8 0, .int .u16 0, .string { data := #[] }, .string { data := #[] }] 80)) := bstep (bstep B3.out b4) (fresh_below _ _)
  have hgw : w4.heap.size ≠ w.heap.size := by have := (Cells.below b4 D3.out).lt; omega
  have hgx : w4.heap.size ≠ w1.heap.size + 1 := by have := (Cells.below b4 X3.out).lt; omega
  have HGW := hide hgw; have HGX := hide hgx
  clear D3 X3 B3 b4 C1 C2 hgw hgx
  obtain ⟨xd4_0, xd4_1, xd4_2, xd4_3, xd4_4, xd4_5, xd4_6, xd4_7, xd4_8⟩ := d4.x9
  obtain ⟨yd4_0, yd4_1, yd4_2, yd4_3, yd4_4, yd4_5, yd4_6, yd4_7, yd4_8⟩ := d4.y9
  go_wp2_with fail
  generalize (w4.alloc (.cells #[.int .u8 0, .int .u8 0, .int .u16 0, .string { data := #[] }, .string { data := #[] }] 80)) = W at *
  have r5 := (Cells.put9 d4 (.int .u8 0) (.int .u32 0) (.int .u16 0) (.int .u32 0) (.int .u16 0) (.int .i64 0) (.int .u8 0) (.bool false) (.int .u8 0))
  have b5 := (Below.put9 b5 (b := w.heap.size) (by first | exact Nat.le_refl _ | omega) (.int .u8 0) (.int .u32 0) (.int .u16 0) (.int .u32 0) (.int .u16 0) (.int .i64 0) (.int .u8 0) (.bool false) (.int .u8 0))
  have HR5 := hide r5; have HB5 := hide b5
  clear r5 b5 d4
  generalize (((((((((W.setCell ⟨w.heap.size, 0, none⟩ (.int .u8 0)).setCell ⟨w.heap.size, 1, none⟩ (.int .u32 0)).setCell ⟨w.heap.size, 2, none⟩ (.int .u16 0)).setCell ⟨w.heap.size, 3, none⟩ (.int .u32 0)).setCell ⟨w.heap.size, 4, none⟩ (.int .u16 0)).setCell ⟨w.heap.size, 5, none⟩ (.int .i64 0)).setCell ⟨w.heap.size, 6, none⟩ (.int .u8 0)).setCell ⟨w.heap.size, 7, none⟩ (.bool false)).setCell ⟨w.heap.size, 8, none⟩ (.int .u8 0)) = W5 at *
  have r5 := HR5.out; have b5 := HB5.out
  clear HR5 HB5
  obtain ⟨xr5_0, xr5_1, xr5_2, xr5_3, xr5_4, xr5_5, xr5_6, xr5_7, xr5_8⟩ := r5.x9
  (try simp only [Exit.inBlock, Exit.then]); refine bodyPost_ret (by simp [results, Tryz.results57, go_sem, *]; try rfl) rfl ?_
  first | exact ⟨rfl, b5⟩ | exact ⟨rfl, b5.drew⟩

set_option maxRecDepth 100000 in
set_option maxHeartbeats 4000000 in
theorem o_Of_msg_none (s l : ByteArray) (w : World) (h0 h1 h3 h5 h6 : Int) (h2 : Bool) (h7 : ByteArray) (m0 m1 m2 id : Int) (m3 m4 : ByteArray)
    (c1 : ∀ W, Calls Tryz.prog 58 #[.string s] W (Ret (.tuple #[.agg #[.int .u8 h0, .int .u16 h1, .bool h2, .int .u8 h3, .int .u8 1, .int .u32 h5, .int .u32 h6, .string h7], .string l, .int .i64 0]) W))
    (c2 : ∀ W, Calls Tryz.prog 59 #[.string l] W (Ret (.tuple #[.agg #[.int .u8 m0, .int .u8 m1, .int .u16 m2, .string m3, .string m4], .bool true]) W))
    (c3 : ∀ W, Calls Tryz.prog 62 #[.agg #[.int .u8 m0, .int .u8 m1, .int .u16 m2, .string m3, .string m4]] W (Ret (.tuple #[.bool false, .bool false]) W))
    (c4 : ∀ W, Calls Tryz.prog 108 #[.agg #[.int .u8 m0, .int .u8 m1, .int .u16 m2, .string m3, .string m4]] W (Ret (.bool false) W))
    (c5 : ∀ W, Calls Tryz.prog 109 #[.agg #[.int .u8 m0, .int .u8 m1, .int .u16 m2, .string m3, .string m4]] W (Ret (.int .u16 id) W)) :
    Calls Tryz.prog 57 #[.string s] w (Ret (.tuple #[.agg #[.int .u8 0, .int .u32 0, .int .u16 0, .int .u32 0, .int .u16 0, .int .i64 0, .int .u8 0, .bool false, .int .u8 0], .int .i64 6]) w) := by
  have C1 := hide c1; have C2 := hide c2; have C3 := hide c3; have C4 := hide c4; have C5 := hide c5
  clear c1 c2 c3 c4 c5
  go_enter Tryz.func57, Tryz.ntmps57
  have d0 := Cells.new w #[.int .u8 0, .int .u32 0, .int .u16 0, .int .u32 0, .int .u16 0, .int .i64 0, .int .u8 0, .bool false, .int .u8 0] 120
  go_wp2_with fail
  (with_reducible refine (C1.out _).mono ?_)
  rintro e w1 ⟨rfl, b1⟩
  have d1 := Cells.below b1 d0
  have e1 := Cells.new w1 #[.int .u8 h0, .int .u16 h1, .bool h2, .int .u8 h3, .int .u8 1, .int .u32 h5, .int .u32 h6, .string h7] 50
  obtain ⟨xe1_0, xe1_1, xe1_2, xe1_3, xe1_4, xe1_5, xe1_6, xe1_7⟩ := e1.x8
  have d3 := Cells.alloc (Cells.alloc d1 (.cells #[.int .u8 h0, .int .u16 h1, .bool h2, .int .u8 h3, .int .u8 1, .int .u32 h5, .int .u32 h6, .string h7] 50)) (.cells #[.int .u8 1, .int .u32 h5, .int .u16 0, .int .u32 h6, .int .u16 0, .int .i64 2, .int .u8 0, .bool false, .int .u8 h3] 120)
  have e3 := Cells.alloc e1 (.cells #[.int .u8 1, .int .u32 h5, .int .u16 0, .int .u32 h6, .int .u16 0, .int .i64 2, .int .u8 0, .bool false, .int .u8 h3] 120)
  have xe3_4 : (((w1.alloc (.cells #[.int .u8 h0, .int .u16 h1, .bool h2, .int .u8 h3, .int .u8 1, .int .u32 h5, .int .u32 h6, .string h7] 50)).alloc (.cells #[.int .u8 1, .int .u32 h5, .int .u16 0, .int .u32 h6, .int .u16 0, .int .i64 2, .int .u8 0, .bool false, .int .u8 h3] 120))).cell? ⟨w1.heap.size, 4, none⟩ = some (.int .u8 1) := e3.at_ 4
  have x3 : Cells ((w1.alloc (.cells #[.int .u8 h0, .int .u16 h1, .bool h2, .int .u8 h3, .int .u8 1, .int .u32 h5, .int .u32 h6, .string h7] 50)).alloc (.cells #[.int .u8 1, .int .u32 h5, .int .u16 0, .int .u32 h6, .int .u16 0, .int .i64 2, .int .u8 0, .bool false, .int .u8 h3] 120)) (w1.heap.size + 1) #[.int .u8 1, .int .u32 h5, .int .u16 0, .int .u32 h6, .int .u16 0, .int .i64 2, .int .u8 0, .bool false, .int .u8 h3] 120 := by
    have := Cells.new (w1.alloc (.cells #[.int .u8 h0, .int .u16 h1, .bool h2, .int .u8 h3, .int .u8 1, .int .u32 h5, .int .u32 h6, .string h7] 50)) #[.int .u8 1, .int .u32 h5, .int .u16 0, .int .u32 h6, .int .u16 0, .int .i64 2, .int .u8 0, .bool false, .int .u8 h3] 120
    rw [show (w1.alloc (.cells #[.int .u8 h0, .int .u16 h1, .bool h2, .int .u8 h3, .int .u8 1, .int .u32 h5, .int .u32 h6, .string h7] 50)).heap.size = w1.heap.size + 1 from by simp] at this
    exact this
  have b3 : Below w.heap.size w ((w1.alloc (.cells #[.int .u8 h0, .int .u16 h1, .bool h2, .int .u8 h3, .int .u8 1, .int .u32 h5, .int .u32 h6, .string h7] 50)).alloc (.cells #[.int .u8 1, .int .u32 h5, .int .u16 0, .int .u32 h6, .int .u16 0, .int .i64 2, .int .u8 0, .bool false, .int .u8 h3] 120)) := bstep (bstep (bstep (fresh_below _ _) b1) (fresh_below _ _)) (fresh_below _ _)
  have hlt : w.heap.size ≠ w1.heap.size + 1 := by have := d1.lt; omega
  have hle : w.heap.size ≤ w1.heap.size + 1 := by have := d1.lt; omega
  have D3 := hide d3; have X3 := hide x3; have B3 := hide b3; have HN := hide hlt; have HL := hide hle
  clear d0 d1 e1 d3 e3 x3 b3 b1 hlt hle
  go_wp2_with fail
  (with_reducible refine (C2.out _).mono ?_)
  rintro e w4 ⟨rfl, b4⟩
  have d4 := Cells.alloc (Cells.below b4 D3.out) (.cells #[.int .u8 m0, .int .u8 m1, .int .u16 m2, .string m3, .string m4] 80)
  have x4 := Cells.alloc (Cells.below b4 X3.out) (.cells #[.int .u8 m0, .int .u8 m1, .int .u16 m2, .string m3, .string m4] 80)
  have e4 := Cells.new w4 #[.int .u8 m0, .int .u8 m1, .int .u16 m2, .string m3, .string m4] 80
  have b5 : Below w.heap.size w (w4.alloc (.cells #[.int .u8 m0, .int .u8 m1, .int .u16 m2, .string m3, .string m4] 80)) := bstep (bstep B3.out b4) (fresh_below _ _)
  have hgw : w4.heap.size ≠ w.heap.size := by have := (Cells.below b4 D3.out).lt; omega
  have hgx : w4.heap.size ≠ w1.heap.size + 1 := by have := (Cells.below b4 X3.out).lt; omega
  have HGW := hide hgw; have HGX := hide hgx
  clear D3 X3 B3 b4 C1 C2 hgw hgx
  obtain ⟨xe4_0, xe4_1, xe4_2, xe4_3, xe4_4⟩ := e4.x5
  have E4 := hide e4; have X4 := hide x4; have D4 := hide d4; have B5 := hide b5
  clear d4 b5 x4 e4
  go_wp2_with fail
  (with_reducible refine (C3.out _).mono ?_)
  rintro e w6 ⟨rfl, b6⟩
  have d6 := Cells.below b6 D4.out
  have x6 := Cells.below b6 X4.out
  have e6 := Cells.below b6 E4.out
  have bb6 : Below w.heap.size w w6 := bstep B5.out b6
  clear E4 X4 D4 B5 b6
  obtain ⟨xe6_0, xe6_1, xe6_2, xe6_3, xe6_4⟩ := e6.x5
  have E4 := hide e6; have X4 := hide x6; have D4 := hide d6; have B5 := hide bb6
  clear d6 x6 e6 bb6
  go_wp2_with fail
  (with_reducible refine (C4.out _).mono ?_)
  rintro e w7 ⟨rfl, b7⟩
  have d6 := Cells.below b7 D4.out
  have x6 := Cells.below b7 X4.out
  have e6 := Cells.below b7 E4.out
  have bb6 : Below w.heap.size w w7 := bstep B5.out b7
  clear E4 X4 D4 B5 b7
  obtain ⟨xd6_0, xd6_1, xd6_2, xd6_3, xd6_4, xd6_5, xd6_6, xd6_7, xd6_8⟩ := d6.x9
  obtain ⟨yd6_0, yd6_1, yd6_2, yd6_3, yd6_4, yd6_5, yd6_6, yd6_7, yd6_8⟩ := d6.y9
  go_wp2_with fail
  generalize w7 = W at *
  have r5 := (Cells.put9 d6 (.int .u8 0) (.int .u32 0) (.int .u16 0) (.int .u32 0) (.int .u16 0) (.int .i64 0) (.int .u8 0) (.bool false) (.int .u8 0))
  have b5 := (Below.put9 bb6 (b := w.heap.size) (by first | exact Nat.le_refl _ | omega) (.int .u8 0) (.int .u32 0) (.int .u16 0) (.int .u32 0) (.int .u16 0) (.int .i64 0) (.int .u8 0) (.bool false) (.int .u8 0))
  have HR5 := hide r5; have HB5 := hide b5
  clear r5 b5 d6
  generalize (((((((((W.setCell ⟨w.heap.size, 0, none⟩ (.int .u8 0)).setCell ⟨w.heap.size, 1, none⟩ (.int .u32 0)).setCell ⟨w.heap.size, 2, none⟩ (.int .u16 0)).setCell ⟨w.heap.size, 3, none⟩ (.int .u32 0)).setCell ⟨w.heap.size, 4, none⟩ (.int .u16 0)).setCell ⟨w.heap.size, 5, none⟩ (.int .i64 0)).setCell ⟨w.heap.size, 6, none⟩ (.int .u8 0)).setCell ⟨w.heap.size, 7, none⟩ (.bool false)).setCell ⟨w.heap.size, 8, none⟩ (.int .u8 0)) = W5 at *
  have r5 := HR5.out; have b5 := HB5.out
  clear HR5 HB5
  obtain ⟨xr5_0, xr5_1, xr5_2, xr5_3, xr5_4, xr5_5, xr5_6, xr5_7, xr5_8⟩ := r5.x9
  (try simp only [Exit.inBlock, Exit.then]); refine bodyPost_ret (by simp [results, Tryz.results57, go_sem, *]; try rfl) rfl ?_
  first | exact ⟨rfl, b5⟩ | exact ⟨rfl, b5.drew⟩

set_option maxRecDepth 100000 in
set_option maxHeartbeats 4000000 in
theorem o_Of_msg_err (s l : ByteArray) (w : World) (h0 h1 h3 h5 h6 : Int) (h2 : Bool) (h7 : ByteArray) (m0 m1 m2 id : Int) (m3 m4 : ByteArray)
    (c1 : ∀ W, Calls Tryz.prog 58 #[.string s] W (Ret (.tuple #[.agg #[.int .u8 h0, .int .u16 h1, .bool h2, .int .u8 h3, .int .u8 1, .int .u32 h5, .int .u32 h6, .string h7], .string l, .int .i64 0]) W))
    (c2 : ∀ W, Calls Tryz.prog 59 #[.string l] W (Ret (.tuple #[.agg #[.int .u8 m0, .int .u8 m1, .int .u16 m2, .string m3, .string m4], .bool true]) W))
    (c3 : ∀ W, Calls Tryz.prog 62 #[.agg #[.int .u8 m0, .int .u8 m1, .int .u16 m2, .string m3, .string m4]] W (Ret (.tuple #[.bool false, .bool false]) W))
    (c4 : ∀ W, Calls Tryz.prog 108 #[.agg #[.int .u8 m0, .int .u8 m1, .int .u16 m2, .string m3, .string m4]] W (Ret (.bool true) W))
    (c5 : ∀ W, Calls Tryz.prog 109 #[.agg #[.int .u8 m0, .int .u8 m1, .int .u16 m2, .string m3, .string m4]] W (Ret (.int .u16 id) W)) :
    Calls Tryz.prog 57 #[.string s] w (Ret (.tuple #[.agg #[.int .u8 1, .int .u32 h5, .int .u16 0, .int .u32 h6, .int .u16 0, .int .i64 3, .int .u8 0, .bool false, .int .u8 h3], .int .i64 0]) w) := by
  have C1 := hide c1; have C2 := hide c2; have C3 := hide c3; have C4 := hide c4; have C5 := hide c5
  clear c1 c2 c3 c4 c5
  go_enter Tryz.func57, Tryz.ntmps57
  have d0 := Cells.new w #[.int .u8 0, .int .u32 0, .int .u16 0, .int .u32 0, .int .u16 0, .int .i64 0, .int .u8 0, .bool false, .int .u8 0] 120
  go_wp2_with fail
  (with_reducible refine (C1.out _).mono ?_)
  rintro e w1 ⟨rfl, b1⟩
  have d1 := Cells.below b1 d0
  have e1 := Cells.new w1 #[.int .u8 h0, .int .u16 h1, .bool h2, .int .u8 h3, .int .u8 1, .int .u32 h5, .int .u32 h6, .string h7] 50
  obtain ⟨xe1_0, xe1_1, xe1_2, xe1_3, xe1_4, xe1_5, xe1_6, xe1_7⟩ := e1.x8
  have d3 := Cells.alloc (Cells.alloc d1 (.cells #[.int .u8 h0, .int .u16 h1, .bool h2, .int .u8 h3, .int .u8 1, .int .u32 h5, .int .u32 h6, .string h7] 50)) (.cells #[.int .u8 1, .int .u32 h5, .int .u16 0, .int .u32 h6, .int .u16 0, .int .i64 2, .int .u8 0, .bool false, .int .u8 h3] 120)
  have e3 := Cells.alloc e1 (.cells #[.int .u8 1, .int .u32 h5, .int .u16 0, .int .u32 h6, .int .u16 0, .int .i64 2, .int .u8 0, .bool false, .int .u8 h3] 120)
  have xe3_4 : (((w1.alloc (.cells #[.int .u8 h0, .int .u16 h1, .bool h2, .int .u8 h3, .int .u8 1, .int .u32 h5, .int .u32 h6, .string h7] 50)).alloc (.cells #[.int .u8 1, .int .u32 h5, .int .u16 0, .int .u32 h6, .int .u16 0, .int .i64 2, .int .u8 0, .bool false, .int .u8 h3] 120))).cell? ⟨w1.heap.size, 4, none⟩ = some (.int .u8 1) := e3.at_ 4
  have x3 : Cells ((w1.alloc (.cells #[.int .u8 h0, .int .u16 h1, .bool h2, .int .u8 h3, .int .u8 1, .int .u32 h5, .int .u32 h6, .string h7] 50)).alloc (.cells #[.int .u8 1, .int .u32 h5, .int .u16 0, .int .u32 h6, .int .u16 0, .int .i64 2, .int .u8 0, .bool false, .int .u8 h3] 120)) (w1.heap.size + 1) #[.int .u8 1, .int .u32 h5, .int .u16 0, .int .u32 h6, .int .u16 0, .int .i64 2, .int .u8 0, .bool false, .int .u8 h3] 120 := by
    have := Cells.new (w1.alloc (.cells #[.int .u8 h0, .int .u16 h1, .bool h2, .int .u8 h3, .int .u8 1, .int .u32 h5, .int .u32 h6, .string h7] 50)) #[.int .u8 1, .int .u32 h5, .int .u16 0, .int .u32 h6, .int .u16 0, .int .i64 2, .int .u8 0, .bool false, .int .u8 h3] 120
    rw [show (w1.alloc (.cells #[.int .u8 h0, .int .u16 h1, .bool h2, .int .u8 h3, .int .u8 1, .int .u32 h5, .int .u32 h6, .string h7] 50)).heap.size = w1.heap.size + 1 from by simp] at this
    exact this
  have b3 : Below w.heap.size w ((w1.alloc (.cells #[.int .u8 h0, .int .u16 h1, .bool h2, .int .u8 h3, .int .u8 1, .int .u32 h5, .int .u32 h6, .string h7] 50)).alloc (.cells #[.int .u8 1, .int .u32 h5, .int .u16 0, .int .u32 h6, .int .u16 0, .int .i64 2, .int .u8 0, .bool false, .int .u8 h3] 120)) := bstep (bstep (bstep (fresh_below _ _) b1) (fresh_below _ _)) (fresh_below _ _)
  have hlt : w.heap.size ≠ w1.heap.size + 1 := by have := d1.lt; omega
  have hle : w.heap.size ≤ w1.heap.size + 1 := by have := d1.lt; omega
  have D3 := hide d3; have X3 := hide x3; have B3 := hide b3; have HN := hide hlt; have HL := hide hle
  clear d0 d1 e1 d3 e3 x3 b3 b1 hlt hle
  go_wp2_with fail
  (with_reducible refine (C2.out _).mono ?_)
  rintro e w4 ⟨rfl, b4⟩
  have d4 := Cells.alloc (Cells.below b4 D3.out) (.cells #[.int .u8 m0, .int .u8 m1, .int .u16 m2, .string m3, .string m4] 80)
  have x4 := Cells.alloc (Cells.below b4 X3.out) (.cells #[.int .u8 m0, .int .u8 m1, .int .u16 m2, .string m3, .string m4] 80)
  have e4 := Cells.new w4 #[.int .u8 m0, .int .u8 m1, .int .u16 m2, .string m3, .string m4] 80
  have b5 : Below w.heap.size w (w4.alloc (.cells #[.int .u8 m0, .int .u8 m1, .int .u16 m2, .string m3, .string m4] 80)) := bstep (bstep B3.out b4) (fresh_below _ _)
  have hgw : w4.heap.size ≠ w.heap.size := by have := (Cells.below b4 D3.out).lt; omega
  have hgx : w4.heap.size ≠ w1.heap.size + 1 := by have := (Cells.below b4 X3.out).lt; omega
  have HGW := hide hgw; have HGX := hide hgx
  clear D3 X3 B3 b4 C1 C2 hgw hgx
  obtain ⟨xe4_0, xe4_1, xe4_2, xe4_3, xe4_4⟩ := e4.x5
  have E4 := hide e4; have X4 := hide x4; have D4 := hide d4; have B5 := hide b5
  clear d4 b5 x4 e4
  go_wp2_with fail
  (with_reducible refine (C3.out _).mono ?_)
  rintro e w6 ⟨rfl, b6⟩
  have d6 := Cells.below b6 D4.out
  have x6 := Cells.below b6 X4.out
  have e6 := Cells.below b6 E4.out
  have bb6 : Below w.heap.size w w6 := bstep B5.out b6
  clear E4 X4 D4 B5 b6
  obtain ⟨xe6_0, xe6_1, xe6_2, xe6_3, xe6_4⟩ := e6.x5
  have E4 := hide e6; have X4 := hide x6; have D4 := hide d6; have B5 := hide bb6
  clear d6 x6 e6 bb6
  go_wp2_with fail
  (with_reducible refine (C4.out _).mono ?_)
  rintro e w7 ⟨rfl, b7⟩
  have d6 := Cells.below b7 D4.out
  have x6 := Cells.below b7 X4.out
  have e6 := Cells.below b7 E4.out
  have bb6 : Below w.heap.size w w7 := bstep B5.out b7
  clear E4 X4 D4 B5 b7
  obtain ⟨xx6_0, xx6_1, xx6_2, xx6_3, xx6_4, xx6_5, xx6_6, xx6_7, xx6_8⟩ := x6.x9
  obtain ⟨yx6_0, yx6_1, yx6_2, yx6_3, yx6_4, yx6_5, yx6_6, yx6_7, yx6_8⟩ := x6.y9
  have x8 : Cells (w7.setCell ⟨w1.heap.size + 1, 7, none⟩ (.bool false)) (w1.heap.size + 1) #[.int .u8 1, .int .u32 h5, .int .u16 0, .int .u32 h6, .int .u16 0, .int .i64 2, .int .u8 0, .bool false, .int .u8 h3] 120 := x6.set_ 7 (.bool false)
  have d8 := d6.other HN.out 7 (.bool false)
  have e8 := e6.other HGX.out 7 (.bool false)
  have b8 : Below w.heap.size w (w7.setCell ⟨w1.heap.size + 1, 7, none⟩ (.bool false)) := Below.setCell bb6 (by have := HL.out; dsimp only; omega) _
  obtain ⟨xx8_0, xx8_1, xx8_2, xx8_3, xx8_4, xx8_5, xx8_6, xx8_7, xx8_8⟩ := x8.x9
  obtain ⟨yx8_0, yx8_1, yx8_2, yx8_3, yx8_4, yx8_5, yx8_6, yx8_7, yx8_8⟩ := x8.y9
  have x9 : Cells ((w7.setCell ⟨w1.heap.size + 1, 7, none⟩ (.bool false)).setCell ⟨w1.heap.size + 1, 5, none⟩ (.int .i64 3)) (w1.heap.size + 1) #[.int .u8 1, .int .u32 h5, .int .u16 0, .int .u32 h6, .int .u16 0, .int .i64 3, .int .u8 0, .bool false, .int .u8 h3] 120 := x8.set_ 5 (.int .i64 3)
  have d9 := d8.other HN.out 5 (.int .i64 3)
  have e9 := e8.other HGX.out 5 (.int .i64 3)
  have b9 : Below w.heap.size w ((w7.setCell ⟨w1.heap.size + 1, 7, none⟩ (.bool false)).setCell ⟨w1.heap.size + 1, 5, none⟩ (.int .i64 3)) := Below.setCell b8 (by have := HL.out; dsimp only; omega) _
  obtain ⟨xx9_0, xx9_1, xx9_2, xx9_3, xx9_4, xx9_5, xx9_6, xx9_7, xx9_8⟩ := x9.x9
  obtain ⟨xd9_0, xd9_1, xd9_2, xd9_3, xd9_4, xd9_5, xd9_6, xd9_7, xd9_8⟩ := d9.x9
  obtain ⟨yd9_0, yd9_1, yd9_2, yd9_3, yd9_4, yd9_5, yd9_6, yd9_7, yd9_8⟩ := d9.y9
  have D9 := hide d9; have B9 := hide b9
  clear d6 x6 e6 bb6 d8 x8 e8 b8 d9 x9 e9 b9
  go_wp2_with fail
  have d9 := D9.out; have b9 := B9.out; have hle := HL.out
  generalize ((w7.setCell ⟨w1.heap.size + 1, 7, none⟩ (.bool false)).setCell ⟨w1.heap.size + 1, 5, none⟩ (.int .i64 3)) = W9 at *
  have r5 := (Cells.put9 d9 (.int .u8 1) (.int .u32 h5) (.int .u16 0) (.int .u32 h6) (.int .u16 0) (.int .i64 3) (.int .u8 0) (.bool false) (.int .u8 h3))
  have b5 := (Below.put9 b9 (b := w.heap.size) (by first | exact Nat.le_refl _ | omega) (.int .u8 1) (.int .u32 h5) (.int .u16 0) (.int .u32 h6) (.int .u16 0) (.int .i64 3) (.int .u8 0) (.bool false) (.int .u8 h3))
  have HR5 := hide r5; have HB5 := hide b5
  clear r5 b5 d9
  generalize (((((((((W9.setCell ⟨w.heap.size, 0, none⟩ (.int .u8 1)).setCell ⟨w.heap.size, 1, none⟩ (.int .u32 h5)).setCell ⟨w.heap.size, 2, none⟩ (.int .u16 0)).setCell ⟨w.heap.size, 3, none⟩ (.int .u32 h6)).setCell ⟨w.heap.size, 4, none⟩ (.int .u16 0)).setCell ⟨w.heap.size, 5, none⟩ (.int .i64 3)).setCell ⟨w.heap.size, 6, none⟩ (.int .u8 0)).setCell ⟨w.heap.size, 7, none⟩ (.bool false)).setCell ⟨w.heap.size, 8, none⟩ (.int .u8 h3)) = W5 at *
  have r5 := HR5.out; have b5 := HB5.out
  clear HR5 HB5
  obtain ⟨xr5_0, xr5_1, xr5_2, xr5_3, xr5_4, xr5_5, xr5_6, xr5_7, xr5_8⟩ := r5.x9
  (try simp only [Exit.inBlock, Exit.then]); refine bodyPost_ret (by simp [results, Tryz.results57, go_sem, *]; try rfl) rfl ?_
  first | exact ⟨rfl, b5⟩ | exact ⟨rfl, b5.drew⟩

set_option maxRecDepth 100000 in
set_option maxHeartbeats 4000000 in
theorem o_Of_msg_ask (e : Bool) (s l : ByteArray) (w : World) (h0 h1 h3 h5 h6 : Int) (h2 : Bool) (h7 : ByteArray) (m0 m1 m2 id : Int) (m3 m4 : ByteArray)
    (c1 : ∀ W, Calls Tryz.prog 58 #[.string s] W (Ret (.tuple #[.agg #[.int .u8 h0, .int .u16 h1, .bool h2, .int .u8 h3, .int .u8 1, .int .u32 h5, .int .u32 h6, .string h7], .string l, .int .i64 0]) W))
    (c2 : ∀ W, Calls Tryz.prog 59 #[.string l] W (Ret (.tuple #[.agg #[.int .u8 m0, .int .u8 m1, .int .u16 m2, .string m3, .string m4], .bool true]) W))
    (c3 : ∀ W, Calls Tryz.prog 62 #[.agg #[.int .u8 m0, .int .u8 m1, .int .u16 m2, .string m3, .string m4]] W (Ret (.tuple #[.bool true, .bool true]) W))
    (c4 : ∀ W, Calls Tryz.prog 108 #[.agg #[.int .u8 m0, .int .u8 m1, .int .u16 m2, .string m3, .string m4]] W (Ret (.bool e) W))
    (c5 : ∀ W, Calls Tryz.prog 109 #[.agg #[.int .u8 m0, .int .u8 m1, .int .u16 m2, .string m3, .string m4]] W (Ret (.int .u16 id) W)) :
    Calls Tryz.prog 57 #[.string s] w (Ret (.tuple #[.agg #[.int .u8 1, .int .u32 h5, .int .u16 id, .int .u32 h6, .int .u16 0, .int .i64 2, .int .u8 0, .bool true, .int .u8 h3], .int .i64 0]) w) := by
  have C1 := hide c1; have C2 := hide c2; have C3 := hide c3; have C4 := hide c4; have C5 := hide c5
  clear c1 c2 c3 c4 c5
  go_enter Tryz.func57, Tryz.ntmps57
  have d0 := Cells.new w #[.int .u8 0, .int .u32 0, .int .u16 0, .int .u32 0, .int .u16 0, .int .i64 0, .int .u8 0, .bool false, .int .u8 0] 120
  go_wp2_with fail
  (with_reducible refine (C1.out _).mono ?_)
  rintro e w1 ⟨rfl, b1⟩
  have d1 := Cells.below b1 d0
  have e1 := Cells.new w1 #[.int .u8 h0, .int .u16 h1, .bool h2, .int .u8 h3, .int .u8 1, .int .u32 h5, .int .u32 h6, .string h7] 50
  obtain ⟨xe1_0, xe1_1, xe1_2, xe1_3, xe1_4, xe1_5, xe1_6, xe1_7⟩ := e1.x8
  have d3 := Cells.alloc (Cells.alloc d1 (.cells #[.int .u8 h0, .int .u16 h1, .bool h2, .int .u8 h3, .int .u8 1, .int .u32 h5, .int .u32 h6, .string h7] 50)) (.cells #[.int .u8 1, .int .u32 h5, .int .u16 0, .int .u32 h6, .int .u16 0, .int .i64 2, .int .u8 0, .bool false, .int .u8 h3] 120)
  have e3 := Cells.alloc e1 (.cells #[.int .u8 1, .int .u32 h5, .int .u16 0, .int .u32 h6, .int .u16 0, .int .i64 2, .int .u8 0, .bool false, .int .u8 h3] 120)
  have xe3_4 : (((w1.alloc (.cells #[.int .u8 h0, .int .u16 h1, .bool h2, .int .u8 h3, .int .u8 1, .int .u32 h5, .int .u32 h6, .string h7] 50)).alloc (.cells #[.int .u8 1, .int .u32 h5, .int .u16 0, .int .u32 h6, .int .u16 0, .int .i64 2, .int .u8 0, .bool false, .int .u8 h3] 120))).cell? ⟨w1.heap.size, 4, none⟩ = some (.int .u8 1) := e3.at_ 4
  have x3 : Cells ((w1.alloc (.cells #[.int .u8 h0, .int .u16 h1, .bool h2, .int .u8 h3, .int .u8 1, .int .u32 h5, .int .u32 h6, .string h7] 50)).alloc (.cells #[.int .u8 1, .int .u32 h5, .int .u16 0, .int .u32 h6, .int .u16 0, .int .i64 2, .int .u8 0, .bool false, .int .u8 h3] 120)) (w1.heap.size + 1) #[.int .u8 1, .int .u32 h5, .int .u16 0, .int .u32 h6, .int .u16 0, .int .i64 2, .int .u8 0, .bool false, .int .u8 h3] 120 := by
    have := Cells.new (w1.alloc (.cells #[.int .u8 h0, .int .u16 h1, .bool h2, .int .u8 h3, .int .u8 1, .int .u32 h5, .int .u32 h6, .string h7] 50)) #[.int .u8 1, .int .u32 h5, .int .u16 0, .int .u32 h6, .int .u16 0, .int .i64 2, .int .u8 0, .bool false, .int .u8 h3] 120
    rw [show (w1.alloc (.cells #[.int .u8 h0, .int .u16 h1, .bool h2, .int .u8 h3, .int .u8 1, .int .u32 h5, .int .u32 h6, .string h7] 50)).heap.size = w1.heap.size + 1 from by simp] at this
    exact this
  have b3 : Below w.heap.size w ((w1.alloc (.cells #[.int .u8 h0, .int .u16 h1, .bool h2, .int .u8 h3, .int .u8 1, .int .u32 h5, .int .u32 h6, .string h7] 50)).alloc (.cells #[.int .u8 1, .int .u32 h5, .int .u16 0, .int .u32 h6, .int .u16 0, .int .i64 2, .int .u8 0, .bool false, .int .u8 h3] 120)) := bstep (bstep (bstep (fresh_below _ _) b1) (fresh_below _ _)) (fresh_below _ _)
  have hlt : w.heap.size ≠ w1.heap.size + 1 := by have := d1.lt; omega
  have hle : w.heap.size ≤ w1.heap.size + 1 := by have := d1.lt; omega
  have D3 := hide d3; have X3 := hide x3; have B3 := hide b3; have HN := hide hlt; have HL := hide hle
  clear d0 d1 e1 d3 e3 x3 b3 b1 hlt hle
  go_wp2_with fail
  (with_reducible refine (C2.out _).mono ?_)
  rintro e w4 ⟨rfl, b4⟩
  have d4 := Cells.alloc (Cells.below b4 D3.out) (.cells #[.int .u8 m0, .int .u8 m1, .int .u16 m2, .string m3, .string m4] 80)
  have x4 := Cells.alloc (Cells.below b4 X3.out) (.cells #[.int .u8 m0, .int .u8 m1, .int .u16 m2, .string m3, .string m4] 80)
  have e4 := Cells.new w4 #[.int .u8 m0, .int .u8 m1, .int .u16 m2, .string m3, .string m4] 80
  have b5 : Below w.heap.size w (w4.alloc (.cells #[.int .u8 m0, .int .u8 m1, .int .u16 m2, .string m3, .string m4] 80)) := bstep (bstep B3.out b4) (fresh_below _ _)
  have hgw : w4.heap.size ≠ w.heap.size := by have := (Cells.below b4 D3.out).lt; omega
  have hgx : w4.heap.size ≠ w1.heap.size + 1 := by have := (Cells.below b4 X3.out).lt; omega
  have HGW := hide hgw; have HGX := hide hgx
  clear D3 X3 B3 b4 C1 C2 hgw hgx
  obtain ⟨xe4_0, xe4_1, xe4_2, xe4_3, xe4_4⟩ := e4.x5
  have E4 := hide e4; have X4 := hide x4; have D4 := hide d4; have B5 := hide b5
  clear d4 b5 x4 e4
  go_wp2_with fail
  (with_reducible refine (C3.out _).mono ?_)
  rintro e w6 ⟨rfl, b6⟩
  have d6 := Cells.below b6 D4.out
  have x6 := Cells.below b6 X4.out
  have e6 := Cells.below b6 E4.out
  have bb6 : Below w.heap.size w w6 := bstep B5.out b6
  clear E4 X4 D4 B5 b6
  obtain ⟨xx6_0, xx6_1, xx6_2, xx6_3, xx6_4, xx6_5, xx6_6, xx6_7, xx6_8⟩ := x6.x9
  obtain ⟨yx6_0, yx6_1, yx6_2, yx6_3, yx6_4, yx6_5, yx6_6, yx6_7, yx6_8⟩ := x6.y9
  have x8 : Cells (w6.setCell ⟨w1.heap.size + 1, 7, none⟩ (.bool true)) (w1.heap.size + 1) #[.int .u8 1, .int .u32 h5, .int .u16 0, .int .u32 h6, .int .u16 0, .int .i64 2, .int .u8 0, .bool true, .int .u8 h3] 120 := x6.set_ 7 (.bool true)
  have d8 := d6.other HN.out 7 (.bool true)
  have e8 := e6.other HGX.out 7 (.bool true)
  have b8 : Below w.heap.size w (w6.setCell ⟨w1.heap.size + 1, 7, none⟩ (.bool true)) := Below.setCell bb6 (by have := HL.out; dsimp only; omega) _
  obtain ⟨xe8_0, xe8_1, xe8_2, xe8_3, xe8_4⟩ := e8.x5
  have E8 := hide e8; have X8 := hide x8; have D8 := hide d8; have B8 := hide b8
  clear d6 x6 e6 bb6 d8 x8 e8 b8
  go_wp2_with fail
  (with_reducible refine (C5.out _).mono ?_)
  rintro e w9 ⟨rfl, b9⟩
  have d9 := Cells.below b9 D8.out
  have x9 := Cells.below b9 X8.out
  have e9 := Cells.below b9 E8.out
  have bb9 : Below w.heap.size w w9 := bstep B8.out b9
  clear E8 X8 D8 B8 b9
  obtain ⟨xx9_0, xx9_1, xx9_2, xx9_3, xx9_4, xx9_5, xx9_6, xx9_7, xx9_8⟩ := x9.x9
  obtain ⟨yx9_0, yx9_1, yx9_2, yx9_3, yx9_4, yx9_5, yx9_6, yx9_7, yx9_8⟩ := x9.y9
  have x10 : Cells (w9.setCell ⟨w1.heap.size + 1, 2, none⟩ (.int .u16 id)) (w1.heap.size + 1) #[.int .u8 1, .int .u32 h5, .int .u16 id, .int .u32 h6, .int .u16 0, .int .i64 2, .int .u8 0, .bool true, .int .u8 h3] 120 := x9.set_ 2 (.int .u16 id)
  have d10 := d9.other HN.out 2 (.int .u16 id)
  have e10 := e9.other HGX.out 2 (.int .u16 id)
  have b10 : Below w.heap.size w (w9.setCell ⟨w1.heap.size + 1, 2, none⟩ (.int .u16 id)) := Below.setCell bb9 (by have := HL.out; dsimp only; omega) _
  obtain ⟨xx10_0, xx10_1, xx10_2, xx10_3, xx10_4, xx10_5, xx10_6, xx10_7, xx10_8⟩ := x10.x9
  obtain ⟨xd10_0, xd10_1, xd10_2, xd10_3, xd10_4, xd10_5, xd10_6, xd10_7, xd10_8⟩ := d10.x9
  obtain ⟨yd10_0, yd10_1, yd10_2, yd10_3, yd10_4, yd10_5, yd10_6, yd10_7, yd10_8⟩ := d10.y9
  have D10 := hide d10; have B10 := hide b10
  clear d9 x9 e9 bb9 d10 x10 e10 b10
  go_wp2_with fail
  have d10 := D10.out; have b10 := B10.out; have hle := HL.out
  generalize (w9.setCell ⟨w1.heap.size + 1, 2, none⟩ (.int .u16 id)) = W10 at *
  have r5 := (Cells.put9 d10 (.int .u8 1) (.int .u32 h5) (.int .u16 id) (.int .u32 h6) (.int .u16 0) (.int .i64 2) (.int .u8 0) (.bool true) (.int .u8 h3))
  have b5 := (Below.put9 b10 (b := w.heap.size) (by first | exact Nat.le_refl _ | omega) (.int .u8 1) (.int .u32 h5) (.int .u16 id) (.int .u32 h6) (.int .u16 0) (.int .i64 2) (.int .u8 0) (.bool true) (.int .u8 h3))
  have HR5 := hide r5; have HB5 := hide b5
  clear r5 b5 d10
  generalize (((((((((W10.setCell ⟨w.heap.size, 0, none⟩ (.int .u8 1)).setCell ⟨w.heap.size, 1, none⟩ (.int .u32 h5)).setCell ⟨w.heap.size, 2, none⟩ (.int .u16 id)).setCell ⟨w.heap.size, 3, none⟩ (.int .u32 h6)).setCell ⟨w.heap.size, 4, none⟩ (.int .u16 0)).setCell ⟨w.heap.size, 5, none⟩ (.int .i64 2)).setCell ⟨w.heap.size, 6, none⟩ (.int .u8 0)).setCell ⟨w.heap.size, 7, none⟩ (.bool true)).setCell ⟨w.heap.size, 8, none⟩ (.int .u8 h3)) = W5 at *
  have r5 := HR5.out; have b5 := HB5.out
  clear HR5 HB5
  obtain ⟨xr5_0, xr5_1, xr5_2, xr5_3, xr5_4, xr5_5, xr5_6, xr5_7, xr5_8⟩ := r5.x9
  (try simp only [Exit.inBlock, Exit.then]); refine bodyPost_ret (by simp [results, Tryz.results57, go_sem, *]; try rfl) rfl ?_
  first | exact ⟨rfl, b5⟩ | exact ⟨rfl, b5.drew⟩

set_option maxRecDepth 100000 in
set_option maxHeartbeats 4000000 in
theorem o_Of_msg_told (e : Bool) (s l : ByteArray) (w : World) (h0 h1 h3 h5 h6 : Int) (h2 : Bool) (h7 : ByteArray) (m0 m1 m2 id : Int) (m3 m4 : ByteArray)
    (c1 : ∀ W, Calls Tryz.prog 58 #[.string s] W (Ret (.tuple #[.agg #[.int .u8 h0, .int .u16 h1, .bool h2, .int .u8 h3, .int .u8 1, .int .u32 h5, .int .u32 h6, .string h7], .string l, .int .i64 0]) W))
    (c2 : ∀ W, Calls Tryz.prog 59 #[.string l] W (Ret (.tuple #[.agg #[.int .u8 m0, .int .u8 m1, .int .u16 m2, .string m3, .string m4], .bool true]) W))
    (c3 : ∀ W, Calls Tryz.prog 62 #[.agg #[.int .u8 m0, .int .u8 m1, .int .u16 m2, .string m3, .string m4]] W (Ret (.tuple #[.bool false, .bool true]) W))
    (c4 : ∀ W, Calls Tryz.prog 108 #[.agg #[.int .u8 m0, .int .u8 m1, .int .u16 m2, .string m3, .string m4]] W (Ret (.bool e) W))
    (c5 : ∀ W, Calls Tryz.prog 109 #[.agg #[.int .u8 m0, .int .u8 m1, .int .u16 m2, .string m3, .string m4]] W (Ret (.int .u16 id) W)) :
    Calls Tryz.prog 57 #[.string s] w (Ret (.tuple #[.agg #[.int .u8 1, .int .u32 h5, .int .u16 0, .int .u32 h6, .int .u16 id, .int .i64 2, .int .u8 0, .bool false, .int .u8 h3], .int .i64 0]) w) := by
  have C1 := hide c1; have C2 := hide c2; have C3 := hide c3; have C4 := hide c4; have C5 := hide c5
  clear c1 c2 c3 c4 c5
  go_enter Tryz.func57, Tryz.ntmps57
  have d0 := Cells.new w #[.int .u8 0, .int .u32 0, .int .u16 0, .int .u32 0, .int .u16 0, .int .i64 0, .int .u8 0, .bool false, .int .u8 0] 120
  go_wp2_with fail
  (with_reducible refine (C1.out _).mono ?_)
  rintro e w1 ⟨rfl, b1⟩
  have d1 := Cells.below b1 d0
  have e1 := Cells.new w1 #[.int .u8 h0, .int .u16 h1, .bool h2, .int .u8 h3, .int .u8 1, .int .u32 h5, .int .u32 h6, .string h7] 50
  obtain ⟨xe1_0, xe1_1, xe1_2, xe1_3, xe1_4, xe1_5, xe1_6, xe1_7⟩ := e1.x8
  have d3 := Cells.alloc (Cells.alloc d1 (.cells #[.int .u8 h0, .int .u16 h1, .bool h2, .int .u8 h3, .int .u8 1, .int .u32 h5, .int .u32 h6, .string h7] 50)) (.cells #[.int .u8 1, .int .u32 h5, .int .u16 0, .int .u32 h6, .int .u16 0, .int .i64 2, .int .u8 0, .bool false, .int .u8 h3] 120)
  have e3 := Cells.alloc e1 (.cells #[.int .u8 1, .int .u32 h5, .int .u16 0, .int .u32 h6, .int .u16 0, .int .i64 2, .int .u8 0, .bool false, .int .u8 h3] 120)
  have xe3_4 : (((w1.alloc (.cells #[.int .u8 h0, .int .u16 h1, .bool h2, .int .u8 h3, .int .u8 1, .int .u32 h5, .int .u32 h6, .string h7] 50)).alloc (.cells #[.int .u8 1, .int .u32 h5, .int .u16 0, .int .u32 h6, .int .u16 0, .int .i64 2, .int .u8 0, .bool false, .int .u8 h3] 120))).cell? ⟨w1.heap.size, 4, none⟩ = some (.int .u8 1) := e3.at_ 4
  have x3 : Cells ((w1.alloc (.cells #[.int .u8 h0, .int .u16 h1, .bool h2, .int .u8 h3, .int .u8 1, .int .u32 h5, .int .u32 h6, .string h7] 50)).alloc (.cells #[.int .u8 1, .int .u32 h5, .int .u16 0, .int .u32 h6, .int .u16 0, .int .i64 2, .int .u8 0, .bool false, .int .u8 h3] 120)) (w1.heap.size + 1) #[.int .u8 1, .int .u32 h5, .int .u16 0, .int .u32 h6, .int .u16 0, .int .i64 2, .int .u8 0, .bool false, .int .u8 h3] 120 := by
    have := Cells.new (w1.alloc (.cells #[.int .u8 h0, .int .u16 h1, .bool h2, .int .u8 h3, .int .u8 1, .int .u32 h5, .int .u32 h6, .string h7] 50)) #[.int .u8 1, .int .u32 h5, .int .u16 0, .int .u32 h6, .int .u16 0, .int .i64 2, .int .u8 0, .bool false, .int .u8 h3] 120
    rw [show (w1.alloc (.cells #[.int .u8 h0, .int .u16 h1, .bool h2, .int .u8 h3, .int .u8 1, .int .u32 h5, .int .u32 h6, .string h7] 50)).heap.size = w1.heap.size + 1 from by simp] at this
    exact this
  have b3 : Below w.heap.size w ((w1.alloc (.cells #[.int .u8 h0, .int .u16 h1, .bool h2, .int .u8 h3, .int .u8 1, .int .u32 h5, .int .u32 h6, .string h7] 50)).alloc (.cells #[.int .u8 1, .int .u32 h5, .int .u16 0, .int .u32 h6, .int .u16 0, .int .i64 2, .int .u8 0, .bool false, .int .u8 h3] 120)) := bstep (bstep (bstep (fresh_below _ _) b1) (fresh_below _ _)) (fresh_below _ _)
  have hlt : w.heap.size ≠ w1.heap.size + 1 := by have := d1.lt; omega
  have hle : w.heap.size ≤ w1.heap.size + 1 := by have := d1.lt; omega
  have D3 := hide d3; have X3 := hide x3; have B3 := hide b3; have HN := hide hlt; have HL := hide hle
  clear d0 d1 e1 d3 e3 x3 b3 b1 hlt hle
  go_wp2_with fail
  (with_reducible refine (C2.out _).mono ?_)
  rintro e w4 ⟨rfl, b4⟩
  have d4 := Cells.alloc (Cells.below b4 D3.out) (.cells #[.int .u8 m0, .int .u8 m1, .int .u16 m2, .string m3, .string m4] 80)
  have x4 := Cells.alloc (Cells.below b4 X3.out) (.cells #[.int .u8 m0, .int .u8 m1, .int .u16 m2, .string m3, .string m4] 80)
  have e4 := Cells.new w4 #[.int .u8 m0, .int .u8 m1, .int .u16 m2, .string m3, .string m4] 80
  have b5 : Below w.heap.size w (w4.alloc (.cells #[.int .u8 m0, .int .u8 m1, .int .u16 m2, .string m3, .string m4] 80)) := bstep (bstep B3.out b4) (fresh_below _ _)
  have hgw : w4.heap.size ≠ w.heap.size := by have := (Cells.below b4 D3.out).lt; omega
  have hgx : w4.heap.size ≠ w1.heap.size + 1 := by have := (Cells.below b4 X3.out).lt; omega
  have HGW := hide hgw; have HGX := hide hgx
  clear D3 X3 B3 b4 C1 C2 hgw hgx
  obtain ⟨xe4_0, xe4_1, xe4_2, xe4_3, xe4_4⟩ := e4.x5
  have E4 := hide e4; have X4 := hide x4; have D4 := hide d4; have B5 := hide b5
  clear d4 b5 x4 e4
  go_wp2_with fail
  (with_reducible refine (C3.out _).mono ?_)
  rintro e w6 ⟨rfl, b6⟩
  have d6 := Cells.below b6 D4.out
  have x6 := Cells.below b6 X4.out
  have e6 := Cells.below b6 E4.out
  have bb6 : Below w.heap.size w w6 := bstep B5.out b6
  clear E4 X4 D4 B5 b6
  obtain ⟨xx6_0, xx6_1, xx6_2, xx6_3, xx6_4, xx6_5, xx6_6, xx6_7, xx6_8⟩ := x6.x9
  obtain ⟨yx6_0, yx6_1, yx6_2, yx6_3, yx6_4, yx6_5, yx6_6, yx6_7, yx6_8⟩ := x6.y9
  have x8 : Cells (w6.setCell ⟨w1.heap.size + 1, 7, none⟩ (.bool false)) (w1.heap.size + 1) #[.int .u8 1, .int .u32 h5, .int .u16 0, .int .u32 h6, .int .u16 0, .int .i64 2, .int .u8 0, .bool false, .int .u8 h3] 120 := x6.set_ 7 (.bool false)
  have d8 := d6.other HN.out 7 (.bool false)
  have e8 := e6.other HGX.out 7 (.bool false)
  have b8 : Below w.heap.size w (w6.setCell ⟨w1.heap.size + 1, 7, none⟩ (.bool false)) := Below.setCell bb6 (by have := HL.out; dsimp only; omega) _
  obtain ⟨xe8_0, xe8_1, xe8_2, xe8_3, xe8_4⟩ := e8.x5
  have E8 := hide e8; have X8 := hide x8; have D8 := hide d8; have B8 := hide b8
  clear d6 x6 e6 bb6 d8 x8 e8 b8
  go_wp2_with fail
  (with_reducible refine (C5.out _).mono ?_)
  rintro e w9 ⟨rfl, b9⟩
  have d9 := Cells.below b9 D8.out
  have x9 := Cells.below b9 X8.out
  have e9 := Cells.below b9 E8.out
  have bb9 : Below w.heap.size w w9 := bstep B8.out b9
  clear E8 X8 D8 B8 b9
  obtain ⟨xx9_0, xx9_1, xx9_2, xx9_3, xx9_4, xx9_5, xx9_6, xx9_7, xx9_8⟩ := x9.x9
  obtain ⟨yx9_0, yx9_1, yx9_2, yx9_3, yx9_4, yx9_5, yx9_6, yx9_7, yx9_8⟩ := x9.y9
  have x10 : Cells (w9.setCell ⟨w1.heap.size + 1, 4, none⟩ (.int .u16 id)) (w1.heap.size + 1) #[.int .u8 1, .int .u32 h5, .int .u16 0, .int .u32 h6, .int .u16 id, .int .i64 2, .int .u8 0, .bool false, .int .u8 h3] 120 := x9.set_ 4 (.int .u16 id)
  have d10 := d9.other HN.out 4 (.int .u16 id)
  have e10 := e9.other HGX.out 4 (.int .u16 id)
  have b10 : Below w.heap.size w (w9.setCell ⟨w1.heap.size + 1, 4, none⟩ (.int .u16 id)) := Below.setCell bb9 (by have := HL.out; dsimp only; omega) _
  obtain ⟨xx10_0, xx10_1, xx10_2, xx10_3, xx10_4, xx10_5, xx10_6, xx10_7, xx10_8⟩ := x10.x9
  obtain ⟨xd10_0, xd10_1, xd10_2, xd10_3, xd10_4, xd10_5, xd10_6, xd10_7, xd10_8⟩ := d10.x9
  obtain ⟨yd10_0, yd10_1, yd10_2, yd10_3, yd10_4, yd10_5, yd10_6, yd10_7, yd10_8⟩ := d10.y9
  have D10 := hide d10; have B10 := hide b10
  clear d9 x9 e9 bb9 d10 x10 e10 b10
  go_wp2_with fail
  have d10 := D10.out; have b10 := B10.out; have hle := HL.out
  generalize (w9.setCell ⟨w1.heap.size + 1, 4, none⟩ (.int .u16 id)) = W10 at *
  have r5 := (Cells.put9 d10 (.int .u8 1) (.int .u32 h5) (.int .u16 0) (.int .u32 h6) (.int .u16 id) (.int .i64 2) (.int .u8 0) (.bool false) (.int .u8 h3))
  have b5 := (Below.put9 b10 (b := w.heap.size) (by first | exact Nat.le_refl _ | omega) (.int .u8 1) (.int .u32 h5) (.int .u16 0) (.int .u32 h6) (.int .u16 id) (.int .i64 2) (.int .u8 0) (.bool false) (.int .u8 h3))
  have HR5 := hide r5; have HB5 := hide b5
  clear r5 b5 d10
  generalize (((((((((W10.setCell ⟨w.heap.size, 0, none⟩ (.int .u8 1)).setCell ⟨w.heap.size, 1, none⟩ (.int .u32 h5)).setCell ⟨w.heap.size, 2, none⟩ (.int .u16 0)).setCell ⟨w.heap.size, 3, none⟩ (.int .u32 h6)).setCell ⟨w.heap.size, 4, none⟩ (.int .u16 id)).setCell ⟨w.heap.size, 5, none⟩ (.int .i64 2)).setCell ⟨w.heap.size, 6, none⟩ (.int .u8 0)).setCell ⟨w.heap.size, 7, none⟩ (.bool false)).setCell ⟨w.heap.size, 8, none⟩ (.int .u8 h3)) = W5 at *
  have r5 := HR5.out; have b5 := HB5.out
  clear HR5 HB5
  obtain ⟨xr5_0, xr5_1, xr5_2, xr5_3, xr5_4, xr5_5, xr5_6, xr5_7, xr5_8⟩ := r5.x9
  (try simp only [Exit.inBlock, Exit.then]); refine bodyPost_ret (by simp [results, Tryz.results57, go_sem, *]; try rfl) rfl ?_
  first | exact ⟨rfl, b5⟩ | exact ⟨rfl, b5.drew⟩
end Go.Proofs.YtjeaknipmdfkdaaGreatDoor
end
