/- Several texts of this claim, one behind the other. -/
import Derived.Test.YtpidgmamollmgaaGreatDoorMRewriteTell32
import Derived.Test.YtpidgmamollmgaaGreatDoorMRewriteTell24
import Derived.Test.YtpidgmamollmgaaGreatDoorMRewriteTell14

section
/- The document's answer for rewrite (porterref09): Ports, over this program. -/
set_option linter.unusedVariables false
set_option linter.unusedSimpArgs false
namespace Go.Proofs.YtpidgmamollmgaaGreatDoor
open Go.RowKit
attribute [local go_sem] Oper.semAt_some

set_option maxRecDepth 100000 in
set_option maxHeartbeats 4000000 in
theorem rn_ports_t (a b c d : Int) (l ips : ByteArray) (v n0 nF : Int) (pr ip t1 pn out : ByteArray) (w : World) (hl : l.size ≤ 1000000) (h20 : 18 ≤ l.size) (hpr : pr.size = 4) (hip : ip.size = 8) (hips : ips.size = 8)
    (f1 : ∀ W (A : Option Addr), Row W W.heap.size A 2 (ints16 [b, d]) → Calls Tryz.prog 57 #[.slice A 2 2] W (Ret (.string pr) W))
    (f2 : ∀ W, Calls Tryz.prog 55 #[.string l, .int .i64 16] W (Ret (.int .u16 v) W))
    (f4 : ∀ W, Calls Tryz.prog 53 #[.agg #[.int .u32 a, .int .u16 b, .int .u32 c, .int .u16 d]] W (Ret (.string ip) W))
    (f6 : ∀ W, Calls Tryz.prog 54 #[.int .u16 v, .string (ips ++ l.extract 0 4), .string (ip ++ pr)] W (Ret (.int .u16 n0) W))
    (f7 : ∀ W, Calls Tryz.prog 52 #[.string l, .int .i64 0, .string pr] W (Ret (.string t1) W))
    (f8 : ∀ W, Calls Tryz.prog 56 #[.int .u16 nF] W (Ret (.string pn) W))
    (f9 : ∀ W, Calls Tryz.prog 52 #[.string t1, .int .i64 16, .string pn] W (Ret (.string out) W))
    (hF : nF = n0) :
    Calls Tryz.prog 20 #[.string l, .string ips, .agg #[.int .u32 a, .int .u16 b, .int .u32 c, .int .u16 d], .int .i64 16] w (Ret (.string out) w) := by
  subst hF
  have i1 : (4 : Int) ≤ (l.size : Int) := by omega
  have k1 : (ips ++ l.extract 0 4).size ≤ 1000 := by rw [ByteArray.size_append, ByteArray.size_extract]; omega
  have k2 : (ip ++ pr).size ≤ 1000 := by rw [ByteArray.size_append]; omega
  have F1 := hide f1; have F2 := hide f2; have F4 := hide f4; have F6 := hide f6; have F7 := hide f7; have F8 := hide f8; have F9 := hide f9
  clear f1 f2 f4 f6 f7 f8 f9
  go_enter Tryz.func20, Tryz.ntmps20
  have d0 := Cells.new w #[.int .u32 a, .int .u16 b, .int .u32 c, .int .u16 d] 33
  go_wp2_with fail
  (with_reducible refine Calls.mono (F1.out _ _ (Row.freshAt _ _ _ _ _ _ (by simp) rfl rfl)) ?_)
  rintro e w1 ⟨rfl, b1⟩
  have d1 := Cells.up d0 (fresh_below _ _) b1
  replace b1 : Below w.heap.size w w1 := bstep (bstep (fresh_below _ _) (fresh_below _ _)) b1
  clear d0
  go_wp2_with fail
  (with_reducible refine (F2.out _).mono ?_)
  rintro e w2 ⟨rfl, b2⟩
  have d2 := Cells.below b2 d1
  replace b2 : Below w.heap.size w w2 := bstep b1 b2
  clear d1 b1
  go_wp2_with fail
  have SK := hide (fun (zX zY : World) (zh : (Below w.heap.size w zX ∧ zX.cell? ⟨w.heap.size, 0, none⟩ = some (.int .u32 a) ∧ zX.cell? ⟨w.heap.size, 1, none⟩ = some (.int .u16 b) ∧ zX.cell? ⟨w.heap.size, 2, none⟩ = some (.int .u32 c) ∧ zX.cell? ⟨w.heap.size, 3, none⟩ = some (.int .u16 d) ∧ True)) (zb : Below zX.heap.size zX zY) => (show (Below w.heap.size w zY ∧ zY.cell? ⟨w.heap.size, 0, none⟩ = some (.int .u32 a) ∧ zY.cell? ⟨w.heap.size, 1, none⟩ = some (.int .u16 b) ∧ zY.cell? ⟨w.heap.size, 2, none⟩ = some (.int .u32 c) ∧ zY.cell? ⟨w.heap.size, 3, none⟩ = some (.int .u16 d) ∧ True) from ⟨bstep zh.1 zb, cellAt zb zh.2.1, cellAt zb zh.2.2.1, cellAt zb zh.2.2.2.1, cellAt zb zh.2.2.2.2.1, trivial⟩))
  have FS := hide (fun (zX : World) (zh : (Below w.heap.size w zX ∧ zX.cell? ⟨w.heap.size, 0, none⟩ = some (.int .u32 a) ∧ zX.cell? ⟨w.heap.size, 1, none⟩ = some (.int .u16 b) ∧ zX.cell? ⟨w.heap.size, 2, none⟩ = some (.int .u32 c) ∧ zX.cell? ⟨w.heap.size, 3, none⟩ = some (.int .u16 d) ∧ True)) => zh.1)
  have GS := hide (fun (zX : World) (zh : (Below w.heap.size w zX ∧ zX.cell? ⟨w.heap.size, 0, none⟩ = some (.int .u32 a) ∧ zX.cell? ⟨w.heap.size, 1, none⟩ = some (.int .u16 b) ∧ zX.cell? ⟨w.heap.size, 2, none⟩ = some (.int .u32 c) ∧ zX.cell? ⟨w.heap.size, 3, none⟩ = some (.int .u16 d) ∧ True)) => zh)
  have hS0 : (Below w.heap.size w w2 ∧ w2.cell? ⟨w.heap.size, 0, none⟩ = some (.int .u32 a) ∧ w2.cell? ⟨w.heap.size, 1, none⟩ = some (.int .u16 b) ∧ w2.cell? ⟨w.heap.size, 2, none⟩ = some (.int .u32 c) ∧ w2.cell? ⟨w.heap.size, 3, none⟩ = some (.int .u16 d) ∧ True) := ⟨(by (repeat' (first | with_reducible exact b2 | with_reducible exact Below.refl _ _ | with_reducible refine Below.setCell ?_ (by first | exact Nat.le_refl _ | (dsimp only; omega)) _ | with_reducible refine bstep ?_ (fresh_below _ _) | with_reducible refine Below.drew ?_))), d2.at_ 0, d2.at_ 1, d2.at_ 2, d2.at_ 3, trivial⟩
  go_region_held_law (fun w' => (Below w.heap.size w w' ∧ w'.cell? ⟨w.heap.size, 0, none⟩ = some (.int .u32 a) ∧ w'.cell? ⟨w.heap.size, 1, none⟩ = some (.int .u16 b) ∧ w'.cell? ⟨w.heap.size, 2, none⟩ = some (.int .u32 c) ∧ w'.cell? ⟨w.heap.size, 3, none⟩ = some (.int .u16 d) ∧ True)) (first | assumption | exact SK.out _ _ hS0 (Below.refl _ _).drew | exact SK.out _ _ hS0 (fresh_below _ _).drew | exact SK.out _ _ (by assumption) (fresh_below _ _) | (refine SK.out _ _ ?_ (by assumption); assumption))
    (first | (go_at_call 53; (with_reducible refine (F4.out _).mono ?_); rintro e wq ⟨rfl, bq⟩) | (go_at_call 54; (with_reducible refine (F6.out _).mono ?_); rintro e wq ⟨rfl, bq⟩))
  all_goals
    have gs := GS.out _ (by assumption)
    have gb : Below w.heap.size w wq := gs.1
    clear SK FS GS hS0 gs
    obtain ⟨w3, rfl⟩ : ∃ W : World, W = wq := ⟨_, rfl⟩
    have b3 := gb
    go_wp2_with fail
    (with_reducible refine (F7.out _).mono ?_)
    rintro e w4 ⟨rfl, b4⟩
    replace b4 : Below w.heap.size w w4 := bstep b3 b4
    go_wp2_with fail
    (with_reducible refine (F8.out _).mono ?_)
    rintro e w5 ⟨rfl, b5⟩
    replace b5 : Below w.heap.size w w5 := bstep b4 b5
    go_wp2_with fail
    (with_reducible refine (F9.out _).mono ?_)
    rintro e w6 ⟨rfl, b6⟩
    replace b6 : Below w.heap.size w w6 := bstep b5 b6
    go_wp2_with fail
    go_ret
    exact ⟨rfl, b6⟩

set_option maxRecDepth 100000 in
set_option maxHeartbeats 4000000 in
theorem rn_ports_u0 (a b c d : Int) (l ips : ByteArray) (v n0 nF : Int) (pr ip t1 pn out : ByteArray) (w : World) (hl : l.size ≤ 1000000) (h20 : 8 ≤ l.size) (hpr : pr.size = 4) (hip : ip.size = 8) (hips : ips.size = 8)
    (f1 : ∀ W (A : Option Addr), Row W W.heap.size A 2 (ints16 [b, d]) → Calls Tryz.prog 57 #[.slice A 2 2] W (Ret (.string pr) W))
    (f2 : ∀ W, Calls Tryz.prog 55 #[.string l, .int .i64 6] W (Ret (.int .u16 v) W))
    (f4 : ∀ W, Calls Tryz.prog 53 #[.agg #[.int .u32 a, .int .u16 b, .int .u32 c, .int .u16 d]] W (Ret (.string ip) W))
    (f6 : ∀ W, Calls Tryz.prog 54 #[.int .u16 v, .string (ips ++ l.extract 0 4), .string (ip ++ pr)] W (Ret (.int .u16 n0) W))
    (f7 : ∀ W, Calls Tryz.prog 52 #[.string l, .int .i64 0, .string pr] W (Ret (.string t1) W))
    (f8 : ∀ W, Calls Tryz.prog 56 #[.int .u16 nF] W (Ret (.string pn) W))
    (f9 : ∀ W, Calls Tryz.prog 52 #[.string t1, .int .i64 6, .string pn] W (Ret (.string out) W))
    (hv : v = 0) (hF : nF = 0) :
    Calls Tryz.prog 20 #[.string l, .string ips, .agg #[.int .u32 a, .int .u16 b, .int .u32 c, .int .u16 d], .int .i64 6] w (Ret (.string out) w) := by
  subst hF; subst hv
  have i1 : (4 : Int) ≤ (l.size : Int) := by omega
  have k1 : (ips ++ l.extract 0 4).size ≤ 1000 := by rw [ByteArray.size_append, ByteArray.size_extract]; omega
  have k2 : (ip ++ pr).size ≤ 1000 := by rw [ByteArray.size_append]; omega
  have F1 := hide f1; have F2 := hide f2; have F4 := hide f4; have F6 := hide f6; have F7 := hide f7; have F8 := hide f8; have F9 := hide f9
  clear f1 f2 f4 f6 f7 f8 f9
  go_enter Tryz.func20, Tryz.ntmps20
  have d0 := Cells.new w #[.int .u32 a, .int .u16 b, .int .u32 c, .int .u16 d] 33
  go_wp2_with fail
  (with_reducible refine Calls.mono (F1.out _ _ (Row.freshAt _ _ _ _ _ _ (by simp) rfl rfl)) ?_)
  rintro e w1 ⟨rfl, b1⟩
  have d1 := Cells.up d0 (fresh_below _ _) b1
  replace b1 : Below w.heap.size w w1 := bstep (bstep (fresh_below _ _) (fresh_below _ _)) b1
  clear d0
  go_wp2_with fail
  (with_reducible refine (F2.out _).mono ?_)
  rintro e w2 ⟨rfl, b2⟩
  have d2 := Cells.below b2 d1
  replace b2 : Below w.heap.size w w2 := bstep b1 b2
  clear d1 b1
  go_wp2_with fail
  have SK := hide (fun (zX zY : World) (zh : (Below w.heap.size w zX ∧ zX.cell? ⟨w.heap.size, 0, none⟩ = some (.int .u32 a) ∧ zX.cell? ⟨w.heap.size, 1, none⟩ = some (.int .u16 b) ∧ zX.cell? ⟨w.heap.size, 2, none⟩ = some (.int .u32 c) ∧ zX.cell? ⟨w.heap.size, 3, none⟩ = some (.int .u16 d) ∧ True)) (zb : Below zX.heap.size zX zY) => (show (Below w.heap.size w zY ∧ zY.cell? ⟨w.heap.size, 0, none⟩ = some (.int .u32 a) ∧ zY.cell? ⟨w.heap.size, 1, none⟩ = some (.int .u16 b) ∧ zY.cell? ⟨w.heap.size, 2, none⟩ = some (.int .u32 c) ∧ zY.cell? ⟨w.heap.size, 3, none⟩ = some (.int .u16 d) ∧ True) from ⟨bstep zh.1 zb, cellAt zb zh.2.1, cellAt zb zh.2.2.1, cellAt zb zh.2.2.2.1, cellAt zb zh.2.2.2.2.1, trivial⟩))
  have FS := hide (fun (zX : World) (zh : (Below w.heap.size w zX ∧ zX.cell? ⟨w.heap.size, 0, none⟩ = some (.int .u32 a) ∧ zX.cell? ⟨w.heap.size, 1, none⟩ = some (.int .u16 b) ∧ zX.cell? ⟨w.heap.size, 2, none⟩ = some (.int .u32 c) ∧ zX.cell? ⟨w.heap.size, 3, none⟩ = some (.int .u16 d) ∧ True)) => zh.1)
  have GS := hide (fun (zX : World) (zh : (Below w.heap.size w zX ∧ zX.cell? ⟨w.heap.size, 0, none⟩ = some (.int .u32 a) ∧ zX.cell? ⟨w.heap.size, 1, none⟩ = some (.int .u16 b) ∧ zX.cell? ⟨w.heap.size, 2, none⟩ = some (.int .u32 c) ∧ zX.cell? ⟨w.heap.size, 3, none⟩ = some (.int .u16 d) ∧ True)) => zh)
  have hS0 : (Below w.heap.size w w2 ∧ w2.cell? ⟨w.heap.size, 0, none⟩ = some (.int .u32 a) ∧ w2.cell? ⟨w.heap.size, 1, none⟩ = some (.int .u16 b) ∧ w2.cell? ⟨w.heap.size, 2, none⟩ = some (.int .u32 c) ∧ w2.cell? ⟨w.heap.size, 3, none⟩ = some (.int .u16 d) ∧ True) := ⟨(by (repeat' (first | with_reducible exact b2 | with_reducible exact Below.refl _ _ | with_reducible refine Below.setCell ?_ (by first | exact Nat.le_refl _ | (dsimp only; omega)) _ | with_reducible refine bstep ?_ (fresh_below _ _) | with_reducible refine Below.drew ?_))), d2.at_ 0, d2.at_ 1, d2.at_ 2, d2.at_ 3, trivial⟩
  go_region_held_law (fun w' => (Below w.heap.size w w' ∧ w'.cell? ⟨w.heap.size, 0, none⟩ = some (.int .u32 a) ∧ w'.cell? ⟨w.heap.size, 1, none⟩ = some (.int .u16 b) ∧ w'.cell? ⟨w.heap.size, 2, none⟩ = some (.int .u32 c) ∧ w'.cell? ⟨w.heap.size, 3, none⟩ = some (.int .u16 d) ∧ True)) (first | assumption | exact SK.out _ _ hS0 (Below.refl _ _).drew | exact SK.out _ _ hS0 (fresh_below _ _).drew | exact SK.out _ _ (by assumption) (fresh_below _ _) | (refine SK.out _ _ ?_ (by assumption); assumption))
    (first | (go_at_call 53; (with_reducible refine (F4.out _).mono ?_); rintro e wq ⟨rfl, bq⟩) | (go_at_call 54; (with_reducible refine (F6.out _).mono ?_); rintro e wq ⟨rfl, bq⟩))
  all_goals
    have gs := GS.out _ (by assumption)
    have gb : Below w.heap.size w wq := gs.1
    clear SK FS GS hS0 gs
    obtain ⟨w3, rfl⟩ : ∃ W : World, W = wq := ⟨_, rfl⟩
    have b3 := gb
    go_wp2_with fail
    (with_reducible refine (F7.out _).mono ?_)
    rintro e w4 ⟨rfl, b4⟩
    replace b4 : Below w.heap.size w w4 := bstep b3 b4
    go_wp2_with fail
    (with_reducible refine (F8.out _).mono ?_)
    rintro e w5 ⟨rfl, b5⟩
    replace b5 : Below w.heap.size w w5 := bstep b4 b5
    go_wp2_with fail
    (with_reducible refine (F9.out _).mono ?_)
    rintro e w6 ⟨rfl, b6⟩
    replace b6 : Below w.heap.size w w6 := bstep b5 b6
    go_wp2_with fail
    go_ret
    exact ⟨rfl, b6⟩

set_option maxRecDepth 100000 in
set_option maxHeartbeats 4000000 in
theorem rn_ports_u1 (a b c d : Int) (l ips : ByteArray) (v n0 nF : Int) (pr ip t1 pn out : ByteArray) (w : World) (hl : l.size ≤ 1000000) (h20 : 8 ≤ l.size) (hpr : pr.size = 4) (hip : ip.size = 8) (hips : ips.size = 8)
    (f1 : ∀ W (A : Option Addr), Row W W.heap.size A 2 (ints16 [b, d]) → Calls Tryz.prog 57 #[.slice A 2 2] W (Ret (.string pr) W))
    (f2 : ∀ W, Calls Tryz.prog 55 #[.string l, .int .i64 6] W (Ret (.int .u16 v) W))
    (f4 : ∀ W, Calls Tryz.prog 53 #[.agg #[.int .u32 a, .int .u16 b, .int .u32 c, .int .u16 d]] W (Ret (.string ip) W))
    (f6 : ∀ W, Calls Tryz.prog 54 #[.int .u16 v, .string (ips ++ l.extract 0 4), .string (ip ++ pr)] W (Ret (.int .u16 n0) W))
    (f7 : ∀ W, Calls Tryz.prog 52 #[.string l, .int .i64 0, .string pr] W (Ret (.string t1) W))
    (f8 : ∀ W, Calls Tryz.prog 56 #[.int .u16 nF] W (Ret (.string pn) W))
    (f9 : ∀ W, Calls Tryz.prog 52 #[.string t1, .int .i64 6, .string pn] W (Ret (.string out) W))
    (hv : v ≠ 0) (hn : n0 = 0) (hF : nF = 65535) :
    Calls Tryz.prog 20 #[.string l, .string ips, .agg #[.int .u32 a, .int .u16 b, .int .u32 c, .int .u16 d], .int .i64 6] w (Ret (.string out) w) := by
  have q1 : (v == 0) = false := by simpa using hv
  clear hv
  subst hF; subst hn
  have i1 : (4 : Int) ≤ (l.size : Int) := by omega
  have k1 : (ips ++ l.extract 0 4).size ≤ 1000 := by rw [ByteArray.size_append, ByteArray.size_extract]; omega
  have k2 : (ip ++ pr).size ≤ 1000 := by rw [ByteArray.size_append]; omega
  have F1 := hide f1; have F2 := hide f2; have F4 := hide f4; have F6 := hide f6; have F7 := hide f7; have F8 := hide f8; have F9 := hide f9
  clear f1 f2 f4 f6 f7 f8 f9
  go_enter Tryz.func20, Tryz.ntmps20
  have d0 := Cells.new w #[.int .u32 a, .int .u16 b, .int .u32 c, .int .u16 d] 33
  go_wp2_with fail
  (with_reducible refine Calls.mono (F1.out _ _ (Row.freshAt _ _ _ _ _ _ (by simp) rfl rfl)) ?_)
  rintro e w1 ⟨rfl, b1⟩
  have d1 := Cells.up d0 (fresh_below _ _) b1
  replace b1 : Below w.heap.size w w1 := bstep (bstep (fresh_below _ _) (fresh_below _ _)) b1
  clear d0
  go_wp2_with fail
  (with_reducible refine (F2.out _).mono ?_)
  rintro e w2 ⟨rfl, b2⟩
  have d2 := Cells.below b2 d1
  replace b2 : Below w.heap.size w w2 := bstep b1 b2
  clear d1 b1
  go_wp2_with fail
  have SK := hide (fun (zX zY : World) (zh : (Below w.heap.size w zX ∧ zX.cell? ⟨w.heap.size, 0, none⟩ = some (.int .u32 a) ∧ zX.cell? ⟨w.heap.size, 1, none⟩ = some (.int .u16 b) ∧ zX.cell? ⟨w.heap.size, 2, none⟩ = some (.int .u32 c) ∧ zX.cell? ⟨w.heap.size, 3, none⟩ = some (.int .u16 d) ∧ True)) (zb : Below zX.heap.size zX zY) => (show (Below w.heap.size w zY ∧ zY.cell? ⟨w.heap.size, 0, none⟩ = some (.int .u32 a) ∧ zY.cell? ⟨w.heap.size, 1, none⟩ = some (.int .u16 b) ∧ zY.cell? ⟨w.heap.size, 2, none⟩ = some (.int .u32 c) ∧ zY.cell? ⟨w.heap.size, 3, none⟩ = some (.int .u16 d) ∧ True) from ⟨bstep zh.1 zb, cellAt zb zh.2.1, cellAt zb zh.2.2.1, cellAt zb zh.2.2.2.1, cellAt zb zh.2.2.2.2.1, trivial⟩))
  have FS := hide (fun (zX : World) (zh : (Below w.heap.size w zX ∧ zX.cell? ⟨w.heap.size, 0, none⟩ = some (.int .u32 a) ∧ zX.cell? ⟨w.heap.size, 1, none⟩ = some (.int .u16 b) ∧ zX.cell? ⟨w.heap.size, 2, none⟩ = some (.int .u32 c) ∧ zX.cell? ⟨w.heap.size, 3, none⟩ = some (.int .u16 d) ∧ True)) => zh.1)
  have GS := hide (fun (zX : World) (zh : (Below w.heap.size w zX ∧ zX.cell? ⟨w.heap.size, 0, none⟩ = some (.int .u32 a) ∧ zX.cell? ⟨w.heap.size, 1, none⟩ = some (.int .u16 b) ∧ zX.cell? ⟨w.heap.size, 2, none⟩ = some (.int .u32 c) ∧ zX.cell? ⟨w.heap.size, 3, none⟩ = some (.int .u16 d) ∧ True)) => zh)
  have hS0 : (Below w.heap.size w w2 ∧ w2.cell? ⟨w.heap.size, 0, none⟩ = some (.int .u32 a) ∧ w2.cell? ⟨w.heap.size, 1, none⟩ = some (.int .u16 b) ∧ w2.cell? ⟨w.heap.size, 2, none⟩ = some (.int .u32 c) ∧ w2.cell? ⟨w.heap.size, 3, none⟩ = some (.int .u16 d) ∧ True) := ⟨(by (repeat' (first | with_reducible exact b2 | with_reducible exact Below.refl _ _ | with_reducible refine Below.setCell ?_ (by first | exact Nat.le_refl _ | (dsimp only; omega)) _ | with_reducible refine bstep ?_ (fresh_below _ _) | with_reducible refine Below.drew ?_))), d2.at_ 0, d2.at_ 1, d2.at_ 2, d2.at_ 3, trivial⟩
  go_region_held_law (fun w' => (Below w.heap.size w w' ∧ w'.cell? ⟨w.heap.size, 0, none⟩ = some (.int .u32 a) ∧ w'.cell? ⟨w.heap.size, 1, none⟩ = some (.int .u16 b) ∧ w'.cell? ⟨w.heap.size, 2, none⟩ = some (.int .u32 c) ∧ w'.cell? ⟨w.heap.size, 3, none⟩ = some (.int .u16 d) ∧ True)) (first | assumption | exact SK.out _ _ hS0 (Below.refl _ _).drew | exact SK.out _ _ hS0 (fresh_below _ _).drew | exact SK.out _ _ (by assumption) (fresh_below _ _) | (refine SK.out _ _ ?_ (by assumption); assumption))
    (first | (go_at_call 53; (with_reducible refine (F4.out _).mono ?_); rintro e wq ⟨rfl, bq⟩) | (go_at_call 54; (with_reducible refine (F6.out _).mono ?_); rintro e wq ⟨rfl, bq⟩))
  all_goals
    have gs := GS.out _ (by assumption)
    have gb : Below w.heap.size w wq := gs.1
    clear SK FS GS hS0 gs
    obtain ⟨w3, rfl⟩ : ∃ W : World, W = wq := ⟨_, rfl⟩
    have b3 := gb
    go_wp2_with fail
    (with_reducible refine (F7.out _).mono ?_)
    rintro e w4 ⟨rfl, b4⟩
    replace b4 : Below w.heap.size w w4 := bstep b3 b4
    go_wp2_with fail
    (with_reducible refine (F8.out _).mono ?_)
    rintro e w5 ⟨rfl, b5⟩
    replace b5 : Below w.heap.size w w5 := bstep b4 b5
    go_wp2_with fail
    (with_reducible refine (F9.out _).mono ?_)
    rintro e w6 ⟨rfl, b6⟩
    replace b6 : Below w.heap.size w w6 := bstep b5 b6
    go_wp2_with fail
    go_ret
    exact ⟨rfl, b6⟩

set_option maxRecDepth 100000 in
set_option maxHeartbeats 4000000 in
theorem rn_ports_u2 (a b c d : Int) (l ips : ByteArray) (v n0 nF : Int) (pr ip t1 pn out : ByteArray) (w : World) (hl : l.size ≤ 1000000) (h20 : 8 ≤ l.size) (hpr : pr.size = 4) (hip : ip.size = 8) (hips : ips.size = 8)
    (f1 : ∀ W (A : Option Addr), Row W W.heap.size A 2 (ints16 [b, d]) → Calls Tryz.prog 57 #[.slice A 2 2] W (Ret (.string pr) W))
    (f2 : ∀ W, Calls Tryz.prog 55 #[.string l, .int .i64 6] W (Ret (.int .u16 v) W))
    (f4 : ∀ W, Calls Tryz.prog 53 #[.agg #[.int .u32 a, .int .u16 b, .int .u32 c, .int .u16 d]] W (Ret (.string ip) W))
    (f6 : ∀ W, Calls Tryz.prog 54 #[.int .u16 v, .string (ips ++ l.extract 0 4), .string (ip ++ pr)] W (Ret (.int .u16 n0) W))
    (f7 : ∀ W, Calls Tryz.prog 52 #[.string l, .int .i64 0, .string pr] W (Ret (.string t1) W))
    (f8 : ∀ W, Calls Tryz.prog 56 #[.int .u16 nF] W (Ret (.string pn) W))
    (f9 : ∀ W, Calls Tryz.prog 52 #[.string t1, .int .i64 6, .string pn] W (Ret (.string out) W))
    (hv : v ≠ 0) (hn : n0 ≠ 0) (hF : nF = n0) :
    Calls Tryz.prog 20 #[.string l, .string ips, .agg #[.int .u32 a, .int .u16 b, .int .u32 c, .int .u16 d], .int .i64 6] w (Ret (.string out) w) := by
  have q1 : (v == 0) = false := by simpa using hv
  have q2 : (n0 == 0) = false := by simpa using hn
  clear hv hn
  subst hF
  have i1 : (4 : Int) ≤ (l.size : Int) := by omega
  have k1 : (ips ++ l.extract 0 4).size ≤ 1000 := by rw [ByteArray.size_append, ByteArray.size_extract]; omega
  have k2 : (ip ++ pr).size ≤ 1000 := by rw [ByteArray.size_append]; omega
  have F1 := hide f1; have F2 := hide f2; have F4 := hide f4; have F6 := hide f6; have F7 := hide f7; have F8 := hide f8; have F9 := hide f9
  clear f1 f2 f4 f6 f7 f8 f9
  go_enter Tryz.func20, Tryz.ntmps20
  have d0 := Cells.new w #[.int .u32 a, .int .u16 b, .int .u32 c, .int .u16 d] 33
  go_wp2_with fail
  (with_reducible refine Calls.mono (F1.out _ _ (Row.freshAt _ _ _ _ _ _ (by simp) rfl rfl)) ?_)
  rintro e w1 ⟨rfl, b1⟩
  have d1 := Cells.up d0 (fresh_below _ _) b1
  replace b1 : Below w.heap.size w w1 := bstep (bstep (fresh_below _ _) (fresh_below _ _)) b1
  clear d0
  go_wp2_with fail
  (with_reducible refine (F2.out _).mono ?_)
  rintro e w2 ⟨rfl, b2⟩
  have d2 := Cells.below b2 d1
  replace b2 : Below w.heap.size w w2 := bstep b1 b2
  clear d1 b1
  go_wp2_with fail
  have SK := hide (fun (zX zY : World) (zh : (Below w.heap.size w zX ∧ zX.cell? ⟨w.heap.size, 0, none⟩ = some (.int .u32 a) ∧ zX.cell? ⟨w.heap.size, 1, none⟩ = some (.int .u16 b) ∧ zX.cell? ⟨w.heap.size, 2, none⟩ = some (.int .u32 c) ∧ zX.cell? ⟨w.heap.size, 3, none⟩ = some (.int .u16 d) ∧ True)) (zb : Below zX.heap.size zX zY) => (show (Below w.heap.size w zY ∧ zY.cell? ⟨w.heap.size, 0, none⟩ = some (.int .u32 a) ∧ zY.cell? ⟨w.heap.size, 1, none⟩ = some (.int .u16 b) ∧ zY.cell? ⟨w.heap.size, 2, none⟩ = some (.int .u32 c) ∧ zY.cell? ⟨w.heap.size, 3, none⟩ = some (.int .u16 d) ∧ True) from ⟨bstep zh.1 zb, cellAt zb zh.2.1, cellAt zb zh.2.2.1, cellAt zb zh.2.2.2.1, cellAt zb zh.2.2.2.2.1, trivial⟩))
  have FS := hide (fun (zX : World) (zh : (Below w.heap.size w zX ∧ zX.cell? ⟨w.heap.size, 0, none⟩ = some (.int .u32 a) ∧ zX.cell? ⟨w.heap.size, 1, none⟩ = some (.int .u16 b) ∧ zX.cell? ⟨w.heap.size, 2, none⟩ = some (.int .u32 c) ∧ zX.cell? ⟨w.heap.size, 3, none⟩ = some (.int .u16 d) ∧ True)) => zh.1)
  have GS := hide (fun (zX : World) (zh : (Below w.heap.size w zX ∧ zX.cell? ⟨w.heap.size, 0, none⟩ = some (.int .u32 a) ∧ zX.cell? ⟨w.heap.size, 1, none⟩ = some (.int .u16 b) ∧ zX.cell? ⟨w.heap.size, 2, none⟩ = some (.int .u32 c) ∧ zX.cell? ⟨w.heap.size, 3, none⟩ = some (.int .u16 d) ∧ True)) => zh)
  have hS0 : (Below w.heap.size w w2 ∧ w2.cell? ⟨w.heap.size, 0, none⟩ = some (.int .u32 a) ∧ w2.cell? ⟨w.heap.size, 1, none⟩ = some (.int .u16 b) ∧ w2.cell? ⟨w.heap.size, 2, none⟩ = some (.int .u32 c) ∧ w2.cell? ⟨w.heap.size, 3, none⟩ = some (.int .u16 d) ∧ True) := ⟨(by (repeat' (first | with_reducible exact b2 | with_reducible exact Below.refl _ _ | with_reducible refine Below.setCell ?_ (by first | exact Nat.le_refl _ | (dsimp only; omega)) _ | with_reducible refine bstep ?_ (fresh_below _ _) | with_reducible refine Below.drew ?_))), d2.at_ 0, d2.at_ 1, d2.at_ 2, d2.at_ 3, trivial⟩
  go_region_held_law (fun w' => (Below w.heap.size w w' ∧ w'.cell? ⟨w.heap.size, 0, none⟩ = some (.int .u32 a) ∧ w'.cell? ⟨w.heap.size, 1, none⟩ = some (.int .u16 b) ∧ w'.cell? ⟨w.heap.size, 2, none⟩ = some (.int .u32 c) ∧ w'.cell? ⟨w.heap.size, 3, none⟩ = some (.int .u16 d) ∧ True)) (first | assumption | exact SK.out _ _ hS0 (Below.refl _ _).drew | exact SK.out _ _ hS0 (fresh_below _ _).drew | exact SK.out _ _ (by assumption) (fresh_below _ _) | (refine SK.out _ _ ?_ (by assumption); assumption))
    (first | (go_at_call 53; (with_reducible refine (F4.out _).mono ?_); rintro e wq ⟨rfl, bq⟩) | (go_at_call 54; (with_reducible refine (F6.out _).mono ?_); rintro e wq ⟨rfl, bq⟩))
  all_goals
    have gs := GS.out _ (by assumption)
    have gb : Below w.heap.size w wq := gs.1
    clear SK FS GS hS0 gs
    obtain ⟨w3, rfl⟩ : ∃ W : World, W = wq := ⟨_, rfl⟩
    have b3 := gb
    go_wp2_with fail
    (with_reducible refine (F7.out _).mono ?_)
    rintro e w4 ⟨rfl, b4⟩
    replace b4 : Below w.heap.size w w4 := bstep b3 b4
    go_wp2_with fail
    (with_reducible refine (F8.out _).mono ?_)
    rintro e w5 ⟨rfl, b5⟩
    replace b5 : Below w.heap.size w w5 := bstep b4 b5
    go_wp2_with fail
    (with_reducible refine (F9.out _).mono ?_)
    rintro e w6 ⟨rfl, b6⟩
    replace b6 : Below w.heap.size w w6 := bstep b5 b6
    go_wp2_with fail
    go_ret
    exact ⟨rfl, b6⟩

theorem rn_Ports (a b c d : Int) (l ips : ByteArray) (k : Nat) (kk : Int) (w : World) (hk : (k = 16 ∧ kk = 16) ∨ (k = 6 ∧ kk = 6)) (ha : 0 ≤ a ∧ a ≤ 4294967295) (hb : 0 ≤ b ∧ b ≤ 65535) (hc : 0 ≤ c ∧ c ≤ 4294967295) (hd : 0 ≤ d ∧ d ≤ 65535) (hl : l.size ≤ 1000000) (h20 : k + 2 ≤ l.size) (hi : ips.size = 8) :
    Calls Tryz.prog 20 #[.string l, .string ips, .agg #[.int .u32 a, .int .u16 b, .int .u32 c, .int .u16 d], .int .i64 kk] w (Ret (.string (S (flowNew (L l) (L ips) a b c d k))) w) := by
  have hbd : ∀ x ∈ [b, d], 0 ≤ x ∧ x ≤ 65535 := by
    intro x hx
    simp only [List.mem_cons, List.not_mem_nil, or_false] at hx
    rcases hx with rfl | rfl <;> assumption
  have hL : k + 2 ≤ (L l).length := by rw [L_length]; exact h20
  have hk4 : 6 ≤ k := by omega
  have hns := flowSum_bd (L l) (L ips) a b c d k
  have hnf := flowFix_bd (k := k) (was := be16 (L l) k) hns
  have hz : (putW [b, d] ++ (L l).drop 4).length = l.size := by rw [List.length_append, List.length_drop, L_length]; show 4 + _ = _; omega
  have z0 : (S (putW [b, d])).size = 4 := rfl
  have z8 : (S (ipsOf a c)).size = 8 := rfl
  have f1 := fun W A (hR : Row W W.heap.size A 2 (ints16 [b, d])) => r_Word A 2 2 [b, d] W hR hbd (by omega)
  have f2 := fun W => rn_Word l k W (by omega) h20
  have f4 := fun W => rn_Pair a b c d W ha hc
  have f6 := fun W => r_Updates (be16 (L l) k) (ips ++ l.extract 0 4) (S (ipsOf a c) ++ S (putW [b, d])) W (be16_bd _ _) (by rw [ByteArray.size_append, ByteArray.size_extract]; omega) (by rw [ByteArray.size_append, z0, z8]; omega)
  rw [L_append, L_append, L_extract, L_S, L_S, show ((L l).drop 0).take 4 = (L l).take 4 from rfl] at f6
  have f7 := fun W => rn_With l 0 (S (putW [b, d])) W (by omega) (by rw [z0]; omega)
  rw [show (L l).take 0 ++ (L (S (putW [b, d])) ++ (L l).drop (0 + (S (putW [b, d])).size)) = putW [b, d] ++ (L l).drop 4 from by rw [L_S]; rfl, show ((0 : Nat) : Int) = 0 from rfl] at f7
  have f8 := fun W => r_Put16 (flowFix k (be16 (L l) k) (flowSum (L l) (L ips) a b c d k)) W hnf.1 hnf.2
  have f9 := fun W => rn_With (S (putW [b, d] ++ (L l).drop 4)) k (S (put16 (flowFix k (be16 (L l) k) (flowSum (L l) (L ips) a b c d k)))) W (by rw [S_size, hz]; omega) (by rw [S_size, S_size, hz, put16_length]; omega)
  have e9 : (L (S (putW [b, d] ++ (L l).drop 4))).take k ++ (L (S (put16 (flowFix k (be16 (L l) k) (flowSum (L l) (L ips) a b c d k)))) ++ (L (S (putW [b, d] ++ (L l).drop 4))).drop (k + (S (put16 (flowFix k (be16 (L l) k) (flowSum (L l) (L ips) a b c d k)))).size)) = flowNew (L l) (L ips) a b c d k := by
    rw [L_S, L_S, ← List.append_assoc]; rfl
  rw [e9] at f9
  rcases hk with ⟨rfl, rfl⟩ | ⟨rfl, rfl⟩
  · rw [show ((16 : Nat) : Int) = 16 from rfl] at f2 f9
    exact rn_ports_t a b c d l ips _ _ _ _ _ _ _ _ w (by omega) (by omega) z0 z8 hi f1 f2 f4 f6 f7 f8 f9 (by unfold flowFix; rw [if_neg (by decide)]; rfl)
  · rw [show ((6 : Nat) : Int) = 6 from rfl] at f2 f9
    by_cases hv : be16 (L l) 6 = 0
    · exact rn_ports_u0 a b c d l ips _ _ _ _ _ _ _ _ w (by omega) (by omega) z0 z8 hi f1 f2 f4 f6 f7 f8 f9 hv (by unfold flowFix; rw [if_pos rfl, if_pos hv])
    by_cases hn : flowSum (L l) (L ips) a b c d 6 = 0
    · exact rn_ports_u1 a b c d l ips _ _ _ _ _ _ _ _ w (by omega) (by omega) z0 z8 hi f1 f2 f4 f6 f7 f8 f9 hv hn (by unfold flowFix; rw [if_pos rfl, if_neg hv, if_pos hn])
    · exact rn_ports_u2 a b c d l ips _ _ _ _ _ _ _ _ w (by omega) (by omega) z0 z8 hi f1 f2 f4 f6 f7 f8 f9 hv hn (by unfold flowFix; rw [if_pos rfl, if_neg hv, if_neg hn]; rfl)
end Go.Proofs.YtpidgmamollmgaaGreatDoor
end

section
/- The document's answer for what is seen of a packet (porterref08.Of), first half, over this program. -/
set_option linter.unusedVariables false
set_option linter.unusedSimpArgs false
namespace Go.Proofs.YtpidgmamollmgaaGreatDoor
open Go.RowKit
attribute [local go_sem] Oper.semAt_some

set_option maxRecDepth 100000 in
set_option maxHeartbeats 4000000 in
theorem o_Of_bad (s l : ByteArray) (w : World) (h0 h1 h3 h4 h5 h6 : Int) (h2 : Bool) (h7 : ByteArray) (r : Int) (hr : r ≠ 0)
    (c1 : ∀ W, Calls Tryz.prog 18 #[.string s] W (Ret (.tuple #[.agg #[.int .u8 h0, .int .u16 h1, .bool h2, .int .u8 h3, .int .u8 h4, .int .u32 h5, .int .u32 h6, .string h7], .string l, .int .i64 r]) W)) :
    Calls Tryz.prog 17 #[.string s] w (Ret (.tuple #[.agg #[.int .u8 0, .int .u32 0, .int .u16 0, .int .u32 0, .int .u16 0, .int .i64 0, .int .u8 0, .bool false, .int .u8 0], .int .i64 r]) w) := by
  have q1 : (r != 0) = true := by simpa using hr
  have q2 : (r == 0) = false := by simpa using hr
  have C1 := hide c1
  clear c1 hr
  go_enter Tryz.func17, Tryz.ntmps17
  have d0 := Cells.new w #[.int .u8 0, .int .u32 0, .int .u16 0, .int .u32 0, .int .u16 0, .int .i64 0, .int .u8 0, .bool false, .int .u8 0] 54
  go_wp2_with fail
  (with_reducible refine (C1.out _).mono ?_)
  rintro e w1 ⟨rfl, b1⟩
  have d1 := Cells.alloc (Cells.below b1 d0) (.cells #[.int .u8 h0, .int .u16 h1, .bool h2, .int .u8 h3, .int .u8 h4, .int .u32 h5, .int .u32 h6, .string h7] 57)
  replace b1 : Below w.heap.size w (w1.alloc (.cells #[.int .u8 h0, .int .u16 h1, .bool h2, .int .u8 h3, .int .u8 h4, .int .u32 h5, .int .u32 h6, .string h7] 57)) := bstep (bstep (fresh_below _ _) b1) (fresh_below _ _)
  have xd1_0 : ((w1.alloc (.cells #[.int .u8 h0, .int .u16 h1, .bool h2, .int .u8 h3, .int .u8 h4, .int .u32 h5, .int .u32 h6, .string h7] 57))).cell? ⟨w.heap.size, 0, none⟩ = some (.int .u8 0) := d1.at_ 0
  have xd1_1 : ((w1.alloc (.cells #[.int .u8 h0, .int .u16 h1, .bool h2, .int .u8 h3, .int .u8 h4, .int .u32 h5, .int .u32 h6, .string h7] 57))).cell? ⟨w.heap.size, 1, none⟩ = some (.int .u32 0) := d1.at_ 1
  have xd1_2 : ((w1.alloc (.cells #[.int .u8 h0, .int .u16 h1, .bool h2, .int .u8 h3, .int .u8 h4, .int .u32 h5, .int .u32 h6, .string h7] 57))).cell? ⟨w.heap.size, 2, none⟩ = some (.int .u16 0) := d1.at_ 2
  have xd1_3 : ((w1.alloc (.cells #[.int .u8 h0, .int .u16 h1, .bool h2, .int .u8 h3, .int .u8 h4, .int .u32 h5, .int .u32 h6, .string h7] 57))).cell? ⟨w.heap.size, 3, none⟩ = some (.int .u32 0) := d1.at_ 3
  have xd1_4 : ((w1.alloc (.cells #[.int .u8 h0, .int .u16 h1, .bool h2, .int .u8 h3, .int .u8 h4, .int .u32 h5, .int .u32 h6, .string h7] 57))).cell? ⟨w.heap.size, 4, none⟩ = some (.int .u16 0) := d1.at_ 4
  have xd1_5 : ((w1.alloc (.cells #[.int .u8 h0, .int .u16 h1, .bool h2, .int .u8 h3, .int .u8 h4, .int .u32 h5, .int .u32 h6, .string h7] 57))).cell? ⟨w.heap.size, 5, none⟩ = some (.int .i64 0) := d1.at_ 5
  have xd1_6 : ((w1.alloc (.cells #[.int .u8 h0, .int .u16 h1, .bool h2, .int .u8 h3, .int .u8 h4, .int .u32 h5, .int .u32 h6, .string h7] 57))).cell? ⟨w.heap.size, 6, none⟩ = some (.int .u8 0) := d1.at_ 6
  have xd1_7 : ((w1.alloc (.cells #[.int .u8 h0, .int .u16 h1, .bool h2, .int .u8 h3, .int .u8 h4, .int .u32 h5, .int .u32 h6, .string h7] 57))).cell? ⟨w.heap.size, 7, none⟩ = some (.bool false) := d1.at_ 7
  have xd1_8 : ((w1.alloc (.cells #[.int .u8 h0, .int .u16 h1, .bool h2, .int .u8 h3, .int .u8 h4, .int .u32 h5, .int .u32 h6, .string h7] 57))).cell? ⟨w.heap.size, 8, none⟩ = some (.int .u8 0) := d1.at_ 8
  have yd1_0 : ((w1.alloc (.cells #[.int .u8 h0, .int .u16 h1, .bool h2, .int .u8 h3, .int .u8 h4, .int .u32 h5, .int .u32 h6, .string h7] 57))).frozen? ⟨w.heap.size, 0, none⟩ = false := d1.free 0
  have yd1_1 : ((w1.alloc (.cells #[.int .u8 h0, .int .u16 h1, .bool h2, .int .u8 h3, .int .u8 h4, .int .u32 h5, .int .u32 h6, .string h7] 57))).frozen? ⟨w.heap.size, 1, none⟩ = false := d1.free 1
  have yd1_2 : ((w1.alloc (.cells #[.int .u8 h0, .int .u16 h1, .bool h2, .int .u8 h3, .int .u8 h4, .int .u32 h5, .int .u32 h6, .string h7] 57))).frozen? ⟨w.heap.size, 2, none⟩ = false := d1.free 2
  have yd1_3 : ((w1.alloc (.cells #[.int .u8 h0, .int .u16 h1, .bool h2, .int .u8 h3, .int .u8 h4, .int .u32 h5, .int .u32 h6, .string h7] 57))).frozen? ⟨w.heap.size, 3, none⟩ = false := d1.free 3
  have yd1_4 : ((w1.alloc (.cells #[.int .u8 h0, .int .u16 h1, .bool h2, .int .u8 h3, .int .u8 h4, .int .u32 h5, .int .u32 h6, .string h7] 57))).frozen? ⟨w.heap.size, 4, none⟩ = false := d1.free 4
  have yd1_5 : ((w1.alloc (.cells #[.int .u8 h0, .int .u16 h1, .bool h2, .int .u8 h3, .int .u8 h4, .int .u32 h5, .int .u32 h6, .string h7] 57))).frozen? ⟨w.heap.size, 5, none⟩ = false := d1.free 5
  have yd1_6 : ((w1.alloc (.cells #[.int .u8 h0, .int .u16 h1, .bool h2, .int .u8 h3, .int .u8 h4, .int .u32 h5, .int .u32 h6, .string h7] 57))).frozen? ⟨w.heap.size, 6, none⟩ = false := d1.free 6
  have yd1_7 : ((w1.alloc (.cells #[.int .u8 h0, .int .u16 h1, .bool h2, .int .u8 h3, .int .u8 h4, .int .u32 h5, .int .u32 h6, .string h7] 57))).frozen? ⟨w.heap.size, 7, none⟩ = false := d1.free 7
  have yd1_8 : ((w1.alloc (.cells #[.int .u8 h0, .int .u16 h1, .bool h2, .int .u8 h3, .int .u8 h4, .int .u32 h5, .int .u32 h6, .string h7] 57))).frozen? ⟨w.heap.size, 8, none⟩ = false := d1.free 8
  clear d0
  go_wp2_with fail
  generalize w1.alloc (.cells #[.int .u8 h0, .int .u16 h1, .bool h2, .int .u8 h3, .int .u8 h4, .int .u32 h5, .int .u32 h6, .string h7] 57) = W at *
  have r5 := (Cells.put9 d1 (.int .u8 0) (.int .u32 0) (.int .u16 0) (.int .u32 0) (.int .u16 0) (.int .i64 0) (.int .u8 0) (.bool false) (.int .u8 0))
  have b5 := (Below.put9 b1 (b := w.heap.size) (by first | exact Nat.le_refl _ | omega) (.int .u8 0) (.int .u32 0) (.int .u16 0) (.int .u32 0) (.int .u16 0) (.int .i64 0) (.int .u8 0) (.bool false) (.int .u8 0))
  have HR5 := hide r5; have HB5 := hide b5
  clear r5 b5 d1
  generalize (((((((((W.setCell ⟨w.heap.size, 0, none⟩ (.int .u8 0)).setCell ⟨w.heap.size, 1, none⟩ (.int .u32 0)).setCell ⟨w.heap.size, 2, none⟩ (.int .u16 0)).setCell ⟨w.heap.size, 3, none⟩ (.int .u32 0)).setCell ⟨w.heap.size, 4, none⟩ (.int .u16 0)).setCell ⟨w.heap.size, 5, none⟩ (.int .i64 0)).setCell ⟨w.heap.size, 6, none⟩ (.int .u8 0)).setCell ⟨w.heap.size, 7, none⟩ (.bool false)).setCell ⟨w.heap.size, 8, none⟩ (.int .u8 0)) = W5 at *
  have r5 := HR5.out; have b5 := HB5.out
  clear HR5 HB5
  have xr5_0 : W5.cell? ⟨w.heap.size, 0, none⟩ = some (.int .u8 0) := r5.at_ 0
  have xr5_1 : W5.cell? ⟨w.heap.size, 1, none⟩ = some (.int .u32 0) := r5.at_ 1
  have xr5_2 : W5.cell? ⟨w.heap.size, 2, none⟩ = some (.int .u16 0) := r5.at_ 2
  have xr5_3 : W5.cell? ⟨w.heap.size, 3, none⟩ = some (.int .u32 0) := r5.at_ 3
  have xr5_4 : W5.cell? ⟨w.heap.size, 4, none⟩ = some (.int .u16 0) := r5.at_ 4
  have xr5_5 : W5.cell? ⟨w.heap.size, 5, none⟩ = some (.int .i64 0) := r5.at_ 5
  have xr5_6 : W5.cell? ⟨w.heap.size, 6, none⟩ = some (.int .u8 0) := r5.at_ 6
  have xr5_7 : W5.cell? ⟨w.heap.size, 7, none⟩ = some (.bool false) := r5.at_ 7
  have xr5_8 : W5.cell? ⟨w.heap.size, 8, none⟩ = some (.int .u8 0) := r5.at_ 8
  (try simp only [Exit.inBlock, Exit.then]); refine bodyPost_ret (by simp [results, Tryz.results17, go_sem, *]; try rfl) rfl ?_
  first | exact ⟨rfl, b5⟩ | exact ⟨rfl, b5.drew⟩

set_option maxRecDepth 100000 in
set_option maxHeartbeats 4000000 in
theorem o_Of_other (s l : ByteArray) (w : World) (h0 h1 h3 h4 h5 h6 : Int) (h2 : Bool) (h7 : ByteArray)
    (c1 : ∀ W, Calls Tryz.prog 18 #[.string s] W (Ret (.tuple #[.agg #[.int .u8 h0, .int .u16 h1, .bool h2, .int .u8 h3, .int .u8 h4, .int .u32 h5, .int .u32 h6, .string h7], .string l, .int .i64 0]) W))
    (hp : h4 ≠ 6 ∧ h4 ≠ 17 ∧ h4 ≠ 1) :
    Calls Tryz.prog 17 #[.string s] w (Ret (.tuple #[.agg #[.int .u8 0, .int .u32 0, .int .u16 0, .int .u32 0, .int .u16 0, .int .i64 0, .int .u8 0, .bool false, .int .u8 0], .int .i64 6]) w) := by
  have q1 : (h4 == 6) = false := by simpa using hp.1
  have q2 : (h4 == 17) = false := by simpa using hp.2.1
  have q3 : (h4 == 1) = false := by simpa using hp.2.2
  have C1 := hide c1
  clear c1 hp
  go_enter Tryz.func17, Tryz.ntmps17
  have d0 := Cells.new w #[.int .u8 0, .int .u32 0, .int .u16 0, .int .u32 0, .int .u16 0, .int .i64 0, .int .u8 0, .bool false, .int .u8 0] 54
  go_wp2_with fail
  (with_reducible refine (C1.out _).mono ?_)
  rintro e w1 ⟨rfl, b1⟩
  have d1 := Cells.below b1 d0
  have e1 := Cells.new w1 #[.int .u8 h0, .int .u16 h1, .bool h2, .int .u8 h3, .int .u8 h4, .int .u32 h5, .int .u32 h6, .string h7] 57
  have xe1_0 : (w1.alloc (.cells #[.int .u8 h0, .int .u16 h1, .bool h2, .int .u8 h3, .int .u8 h4, .int .u32 h5, .int .u32 h6, .string h7] 57)).cell? ⟨w1.heap.size, 0, none⟩ = some (.int .u8 h0) := e1.at_ 0
  have xe1_1 : (w1.alloc (.cells #[.int .u8 h0, .int .u16 h1, .bool h2, .int .u8 h3, .int .u8 h4, .int .u32 h5, .int .u32 h6, .string h7] 57)).cell? ⟨w1.heap.size, 1, none⟩ = some (.int .u16 h1) := e1.at_ 1
  have xe1_2 : (w1.alloc (.cells #[.int .u8 h0, .int .u16 h1, .bool h2, .int .u8 h3, .int .u8 h4, .int .u32 h5, .int .u32 h6, .string h7] 57)).cell? ⟨w1.heap.size, 2, none⟩ = some (.bool h2) := e1.at_ 2
  have xe1_3 : (w1.alloc (.cells #[.int .u8 h0, .int .u16 h1, .bool h2, .int .u8 h3, .int .u8 h4, .int .u32 h5, .int .u32 h6, .string h7] 57)).cell? ⟨w1.heap.size, 3, none⟩ = some (.int .u8 h3) := e1.at_ 3
  have xe1_4 : (w1.alloc (.cells #[.int .u8 h0, .int .u16 h1, .bool h2, .int .u8 h3, .int .u8 h4, .int .u32 h5, .int .u32 h6, .string h7] 57)).cell? ⟨w1.heap.size, 4, none⟩ = some (.int .u8 h4) := e1.at_ 4
  have xe1_5 : (w1.alloc (.cells #[.int .u8 h0, .int .u16 h1, .bool h2, .int .u8 h3, .int .u8 h4, .int .u32 h5, .int .u32 h6, .string h7] 57)).cell? ⟨w1.heap.size, 5, none⟩ = some (.int .u32 h5) := e1.at_ 5
  have xe1_6 : (w1.alloc (.cells #[.int .u8 h0, .int .u16 h1, .bool h2, .int .u8 h3, .int .u8 h4, .int .u32 h5, .int .u32 h6, .string h7] 57)).cell? ⟨w1.heap.size, 6, none⟩ = some (.int .u32 h6) := e1.at_ 6
  have xe1_7 : (w1.alloc (.cells #[.int .u8 h0, .int .u16 h1, .bool h2, .int .u8 h3, .int .u8 h4, .int .u32 h5, .int .u32 h6, .string h7] 57)).cell? ⟨w1.heap.size, 7, none⟩ = some (.string h7) := e1.at_ 7
  have d3 := Cells.alloc (Cells.alloc d1 (.cells #[.int .u8 h0, .int .u16 h1, .bool h2, .int .u8 h3, .int .u8 h4, .int .u32 h5, .int .u32 h6, .string h7] 57)) (.cells #[.int .u8 h4, .int .u32 h5, .int .u16 0, .int .u32 h6, .int .u16 0, .int .i64 2, .int .u8 0, .bool false, .int .u8 h3] 54)
  have e3 := Cells.alloc e1 (.cells #[.int .u8 h4, .int .u32 h5, .int .u16 0, .int .u32 h6, .int .u16 0, .int .i64 2, .int .u8 0, .bool false, .int .u8 h3] 54)
  have xe3_4 : (((w1.alloc (.cells #[.int .u8 h0, .int .u16 h1, .bool h2, .int .u8 h3, .int .u8 h4, .int .u32 h5, .int .u32 h6, .string h7] 57)).alloc (.cells #[.int .u8 h4, .int .u32 h5, .int .u16 0, .int .u32 h6, .int .u16 0, .int .i64 2, .int .u8 0, .bool false, .int .u8 h3] 54))).cell? ⟨w1.heap.size, 4, none⟩ = some (.int .u8 h4) := e3.at_ 4
  have x3 : Cells ((w1.alloc (.cells #[.int .u8 h0, .int .u16 h1, .bool h2, .int .u8 h3, .int .u8 h4, .int .u32 h5, .int .u32 h6, .string h7] 57)).alloc (.cells #[.int .u8 h4, .int .u32 h5, .int .u16 0, .int .u32 h6, .int .u16 0, .int .i64 2, .int .u8 0, .bool false, .int .u8 h3] 54)) (w1.heap.size + 1) #[.int .u8 h4, .int .u32 h5, .int .u16 0, .int .u32 h6, .int .u16 0, .int .i64 2, .int .u8 0, .bool false, .int .u8 h3] 54 := by
    have := Cells.new (w1.alloc (.cells #[.int .u8 h0, .int .u16 h1, .bool h2, .int .u8 h3, .int .u8 h4, .int .u32 h5, .int .u32 h6, .string h7] 57)) #[.int .u8 h4, .int .u32 h5, .int .u16 0, .int .u32 h6, .int .u16 0, .int .i64 2, .int .u8 0, .bool false, .int .u8 h3] 54
    rw [show (w1.alloc (.cells #[.int .u8 h0, .int .u16 h1, .bool h2, .int .u8 h3, .int .u8 h4, .int .u32 h5, .int .u32 h6, .string h7] 57)).heap.size = w1.heap.size + 1 from by simp] at this
    exact this
  have b3 : Below w.heap.size w ((w1.alloc (.cells #[.int .u8 h0, .int .u16 h1, .bool h2, .int .u8 h3, .int .u8 h4, .int .u32 h5, .int .u32 h6, .string h7] 57)).alloc (.cells #[.int .u8 h4, .int .u32 h5, .int .u16 0, .int .u32 h6, .int .u16 0, .int .i64 2, .int .u8 0, .bool false, .int .u8 h3] 54)) := bstep (bstep (bstep (fresh_below _ _) b1) (fresh_below _ _)) (fresh_below _ _)
  have hlt : w.heap.size ≠ w1.heap.size + 1 := by have := d1.lt; omega
  have hle : w.heap.size ≤ w1.heap.size + 1 := by have := d1.lt; omega
  have D3 := hide d3; have X3 := hide x3; have B3 := hide b3; have HN := hide hlt; have HL := hide hle
  clear d0 d1 e1 d3 e3 x3 b3 b1 hlt hle
  have d3 := D3.out; have b3 := B3.out
  have xd3_0 : (((w1.alloc (.cells #[.int .u8 h0, .int .u16 h1, .bool h2, .int .u8 h3, .int .u8 h4, .int .u32 h5, .int .u32 h6, .string h7] 57)).alloc (.cells #[.int .u8 h4, .int .u32 h5, .int .u16 0, .int .u32 h6, .int .u16 0, .int .i64 2, .int .u8 0, .bool false, .int .u8 h3] 54))).cell? ⟨w.heap.size, 0, none⟩ = some (.int .u8 0) := d3.at_ 0
  have xd3_1 : (((w1.alloc (.cells #[.int .u8 h0, .int .u16 h1, .bool h2, .int .u8 h3, .int .u8 h4, .int .u32 h5, .int .u32 h6, .string h7] 57)).alloc (.cells #[.int .u8 h4, .int .u32 h5, .int .u16 0, .int .u32 h6, .int .u16 0, .int .i64 2, .int .u8 0, .bool false, .int .u8 h3] 54))).cell? ⟨w.heap.size, 1, none⟩ = some (.int .u32 0) := d3.at_ 1
  have xd3_2 : (((w1.alloc (.cells #[.int .u8 h0, .int .u16 h1, .bool h2, .int .u8 h3, .int .u8 h4, .int .u32 h5, .int .u32 h6, .string h7] 57)).alloc (.cells #[.int .u8 h4, .int .u32 h5, .int .u16 0, .int .u32 h6, .int .u16 0, .int .i64 2, .int .u8 0, .bool false, .int .u8 h3] 54))).cell? ⟨w.heap.size, 2, none⟩ = some (.int .u16 0) := d3.at_ 2
  have xd3_3 : (((w1.alloc (.cells #[.int .u8 h0, .int .u16 h1, .bool h2, .int .u8 h3, .int .u8 h4, .int .u32 h5, .int .u32 h6, .string h7] 57)).alloc (.cells #[.int .u8 h4, .int .u32 h5, .int .u16 0, .int .u32 h6, .int .u16 0, .int .i64 2, .int .u8 0, .bool false, .int .u8 h3] 54))).cell? ⟨w.heap.size, 3, none⟩ = some (.int .u32 0) := d3.at_ 3
  have xd3_4 : (((w1.alloc (.cells #[.int .u8 h0, .int .u16 h1, .bool h2, .int .u8 h3, .int .u8 h4, .int .u32 h5, .int .u32 h6, .string h7] 57)).alloc (.cells #[.int .u8 h4, .int .u32 h5, .int .u16 0, .int .u32 h6, .int .u16 0, .int .i64 2, .int .u8 0, .bool false, .int .u8 h3] 54))).cell? ⟨w.heap.size, 4, none⟩ = some (.int .u16 0) := d3.at_ 4
  have xd3_5 : (((w1.alloc (.cells #[.int .u8 h0, .int .u16 h1, .bool h2, .int .u8 h3, .int .u8 h4, .int .u32 h5, .int .u32 h6, .string h7] 57)).alloc (.cells #[.int .u8 h4, .int .u32 h5, .int .u16 0, .int .u32 h6, .int .u16 0, .int .i64 2, .int .u8 0, .bool false, .int .u8 h3] 54))).cell? ⟨w.heap.size, 5, none⟩ = some (.int .i64 0) := d3.at_ 5
  have xd3_6 : (((w1.alloc (.cells #[.int .u8 h0, .int .u16 h1, .bool h2, .int .u8 h3, .int .u8 h4, .int .u32 h5, .int .u32 h6, .string h7] 57)).alloc (.cells #[.int .u8 h4, .int .u32 h5, .int .u16 0, .int .u32 h6, .int .u16 0, .int .i64 2, .int .u8 0, .bool false, .int .u8 h3] 54))).cell? ⟨w.heap.size, 6, none⟩ = some (.int .u8 0) := d3.at_ 6
  have xd3_7 : (((w1.alloc (.cells #[.int .u8 h0, .int .u16 h1, .bool h2, .int .u8 h3, .int .u8 h4, .int .u32 h5, .int .u32 h6, .string h7] 57)).alloc (.cells #[.int .u8 h4, .int .u32 h5, .int .u16 0, .int .u32 h6, .int .u16 0, .int .i64 2, .int .u8 0, .bool false, .int .u8 h3] 54))).cell? ⟨w.heap.size, 7, none⟩ = some (.bool false) := d3.at_ 7
  have xd3_8 : (((w1.alloc (.cells #[.int .u8 h0, .int .u16 h1, .bool h2, .int .u8 h3, .int .u8 h4, .int .u32 h5, .int .u32 h6, .string h7] 57)).alloc (.cells #[.int .u8 h4, .int .u32 h5, .int .u16 0, .int .u32 h6, .int .u16 0, .int .i64 2, .int .u8 0, .bool false, .int .u8 h3] 54))).cell? ⟨w.heap.size, 8, none⟩ = some (.int .u8 0) := d3.at_ 8
  have yd3_0 : (((w1.alloc (.cells #[.int .u8 h0, .int .u16 h1, .bool h2, .int .u8 h3, .int .u8 h4, .int .u32 h5, .int .u32 h6, .string h7] 57)).alloc (.cells #[.int .u8 h4, .int .u32 h5, .int .u16 0, .int .u32 h6, .int .u16 0, .int .i64 2, .int .u8 0, .bool false, .int .u8 h3] 54))).frozen? ⟨w.heap.size, 0, none⟩ = false := d3.free 0
  have yd3_1 : (((w1.alloc (.cells #[.int .u8 h0, .int .u16 h1, .bool h2, .int .u8 h3, .int .u8 h4, .int .u32 h5, .int .u32 h6, .string h7] 57)).alloc (.cells #[.int .u8 h4, .int .u32 h5, .int .u16 0, .int .u32 h6, .int .u16 0, .int .i64 2, .int .u8 0, .bool false, .int .u8 h3] 54))).frozen? ⟨w.heap.size, 1, none⟩ = false := d3.free 1
  have yd3_2 : (((w1.alloc (.cells #[.int .u8 h0, .int .u16 h1, .bool h2, .int .u8 h3, .int .u8 h4, .int .u32 h5, .int .u32 h6, .string h7] 57)).alloc (.cells #[.int .u8 h4, .int .u32 h5, .int .u16 0, .int .u32 h6, .int .u16 0, .int .i64 2, .int .u8 0, .bool false, .int .u8 h3] 54))).frozen? ⟨w.heap.size, 2, none⟩ = false := d3.free 2
  have yd3_3 : (((w1.alloc (.cells #[.int .u8 h0, .int .u16 h1, .bool h2, .int .u8 h3, .int .u8 h4, .int .u32 h5, .int .u32 h6, .string h7] 57)).alloc (.cells #[.int .u8 h4, .int .u32 h5, .int .u16 0, .int .u32 h6, .int .u16 0, .int .i64 2, .int .u8 0, .bool false, .int .u8 h3] 54))).frozen? ⟨w.heap.size, 3, none⟩ = false := d3.free 3
  have yd3_4 : (((w1.alloc (.cells #[.int .u8 h0, .int .u16 h1, .bool h2, .int .u8 h3, .int .u8 h4, .int .u32 h5, .int .u32 h6, .string h7] 57)).alloc (.cells #[.int .u8 h4, .int .u32 h5, .int .u16 0, .int .u32 h6, .int .u16 0, .int .i64 2, .int .u8 0, .bool false, .int .u8 h3] 54))).frozen? ⟨w.heap.size, 4, none⟩ = false := d3.free 4
  have yd3_5 : (((w1.alloc (.cells #[.int .u8 h0, .int .u16 h1, .bool h2, .int .u8 h3, .int .u8 h4, .int .u32 h5, .int .u32 h6, .string h7] 57)).alloc (.cells #[.int .u8 h4, .int .u32 h5, .int .u16 0, .int .u32 h6, .int .u16 0, .int .i64 2, .int .u8 0, .bool false, .int .u8 h3] 54))).frozen? ⟨w.heap.size, 5, none⟩ = false := d3.free 5
  have yd3_6 : (((w1.alloc (.cells #[.int .u8 h0, .int .u16 h1, .bool h2, .int .u8 h3, .int .u8 h4, .int .u32 h5, .int .u32 h6, .string h7] 57)).alloc (.cells #[.int .u8 h4, .int .u32 h5, .int .u16 0, .int .u32 h6, .int .u16 0, .int .i64 2, .int .u8 0, .bool false, .int .u8 h3] 54))).frozen? ⟨w.heap.size, 6, none⟩ = false := d3.free 6
  have yd3_7 : (((w1.alloc (.cells #[.int .u8 h0, .int .u16 h1, .bool h2, .int .u8 h3, .int .u8 h4, .int .u32 h5, .int .u32 h6, .string h7] 57)).alloc (.cells #[.int .u8 h4, .int .u32 h5, .int .u16 0, .int .u32 h6, .int .u16 0, .int .i64 2, .int .u8 0, .bool false, .int .u8 h3] 54))).frozen? ⟨w.heap.size, 7, none⟩ = false := d3.free 7
  have yd3_8 : (((w1.alloc (.cells #[.int .u8 h0, .int .u16 h1, .bool h2, .int .u8 h3, .int .u8 h4, .int .u32 h5, .int .u32 h6, .string h7] 57)).alloc (.cells #[.int .u8 h4, .int .u32 h5, .int .u16 0, .int .u32 h6, .int .u16 0, .int .i64 2, .int .u8 0, .bool false, .int .u8 h3] 54))).frozen? ⟨w.heap.size, 8, none⟩ = false := d3.free 8
  go_wp2_with fail
  generalize ((w1.alloc (.cells #[.int .u8 h0, .int .u16 h1, .bool h2, .int .u8 h3, .int .u8 h4, .int .u32 h5, .int .u32 h6, .string h7] 57)).alloc (.cells #[.int .u8 h4, .int .u32 h5, .int .u16 0, .int .u32 h6, .int .u16 0, .int .i64 2, .int .u8 0, .bool false, .int .u8 h3] 54)) = W at *
  have r5 := (Cells.put9 d3 (.int .u8 0) (.int .u32 0) (.int .u16 0) (.int .u32 0) (.int .u16 0) (.int .i64 0) (.int .u8 0) (.bool false) (.int .u8 0))
  have b5 := (Below.put9 b3 (b := w.heap.size) (by first | exact Nat.le_refl _ | omega) (.int .u8 0) (.int .u32 0) (.int .u16 0) (.int .u32 0) (.int .u16 0) (.int .i64 0) (.int .u8 0) (.bool false) (.int .u8 0))
  have HR5 := hide r5; have HB5 := hide b5
  clear r5 b5 d3
  generalize (((((((((W.setCell ⟨w.heap.size, 0, none⟩ (.int .u8 0)).setCell ⟨w.heap.size, 1, none⟩ (.int .u32 0)).setCell ⟨w.heap.size, 2, none⟩ (.int .u16 0)).setCell ⟨w.heap.size, 3, none⟩ (.int .u32 0)).setCell ⟨w.heap.size, 4, none⟩ (.int .u16 0)).setCell ⟨w.heap.size, 5, none⟩ (.int .i64 0)).setCell ⟨w.heap.size, 6, none⟩ (.int .u8 0)).setCell ⟨w.heap.size, 7, none⟩ (.bool false)).setCell ⟨w.heap.size, 8, none⟩ (.int .u8 0)) = W5 at *
  have r5 := HR5.out; have b5 := HB5.out
  clear HR5 HB5
  have xr5_0 : W5.cell? ⟨w.heap.size, 0, none⟩ = some (.int .u8 0) := r5.at_ 0
  have xr5_1 : W5.cell? ⟨w.heap.size, 1, none⟩ = some (.int .u32 0) := r5.at_ 1
  have xr5_2 : W5.cell? ⟨w.heap.size, 2, none⟩ = some (.int .u16 0) := r5.at_ 2
  have xr5_3 : W5.cell? ⟨w.heap.size, 3, none⟩ = some (.int .u32 0) := r5.at_ 3
  have xr5_4 : W5.cell? ⟨w.heap.size, 4, none⟩ = some (.int .u16 0) := r5.at_ 4
  have xr5_5 : W5.cell? ⟨w.heap.size, 5, none⟩ = some (.int .i64 0) := r5.at_ 5
  have xr5_6 : W5.cell? ⟨w.heap.size, 6, none⟩ = some (.int .u8 0) := r5.at_ 6
  have xr5_7 : W5.cell? ⟨w.heap.size, 7, none⟩ = some (.bool false) := r5.at_ 7
  have xr5_8 : W5.cell? ⟨w.heap.size, 8, none⟩ = some (.int .u8 0) := r5.at_ 8
  (try simp only [Exit.inBlock, Exit.then]); refine bodyPost_ret (by simp [results, Tryz.results17, go_sem, *]; try rfl) rfl ?_
  first | exact ⟨rfl, b5⟩ | exact ⟨rfl, b5.drew⟩

set_option maxRecDepth 100000 in
set_option maxHeartbeats 4000000 in
theorem o_Of_tcp_no (s l : ByteArray) (w : World) (h0 h1 h3 h5 h6 : Int) (h2 : Bool) (h7 : ByteArray) (r : ByteArray)
    (c1 : ∀ W, Calls Tryz.prog 18 #[.string s] W (Ret (.tuple #[.agg #[.int .u8 h0, .int .u16 h1, .bool h2, .int .u8 h3, .int .u8 6, .int .u32 h5, .int .u32 h6, .string h7], .string l, .int .i64 0]) W))
    (c2 : ∀ W, Calls Tryz.prog 43 #[.string l] W (Ret (.tuple #[.agg #[.int .u16 0, .int .u16 0, .int .u32 0, .int .u32 0, .int .u8 0, .int .u8 0, .int .u16 0, .int .u16 0, .int .u16 0, .string { data := #[] }], .string r, .bool false]) W)) :
    Calls Tryz.prog 17 #[.string s] w (Ret (.tuple #[.agg #[.int .u8 0, .int .u32 0, .int .u16 0, .int .u32 0, .int .u16 0, .int .i64 0, .int .u8 0, .bool false, .int .u8 0], .int .i64 7]) w) := by
  have C1 := hide c1; have C2 := hide c2
  clear c1 c2
  go_enter Tryz.func17, Tryz.ntmps17
  have d0 := Cells.new w #[.int .u8 0, .int .u32 0, .int .u16 0, .int .u32 0, .int .u16 0, .int .i64 0, .int .u8 0, .bool false, .int .u8 0] 54
  go_wp2_with fail
  (with_reducible refine (C1.out _).mono ?_)
  rintro e w1 ⟨rfl, b1⟩
  have d1 := Cells.below b1 d0
  have e1 := Cells.new w1 #[.int .u8 h0, .int .u16 h1, .bool h2, .int .u8 h3, .int .u8 6, .int .u32 h5, .int .u32 h6, .string h7] 57
  have xe1_0 : (w1.alloc (.cells #[.int .u8 h0, .int .u16 h1, .bool h2, .int .u8 h3, .int .u8 6, .int .u32 h5, .int .u32 h6, .string h7] 57)).cell? ⟨w1.heap.size, 0, none⟩ = some (.int .u8 h0) := e1.at_ 0
  have xe1_1 : (w1.alloc (.cells #[.int .u8 h0, .int .u16 h1, .bool h2, .int .u8 h3, .int .u8 6, .int .u32 h5, .int .u32 h6, .string h7] 57)).cell? ⟨w1.heap.size, 1, none⟩ = some (.int .u16 h1) := e1.at_ 1
  have xe1_2 : (w1.alloc (.cells #[.int .u8 h0, .int .u16 h1, .bool h2, .int .u8 h3, .int .u8 6, .int .u32 h5, .int .u32 h6, .string h7] 57)).cell? ⟨w1.heap.size, 2, none⟩ = some (.bool h2) := e1.at_ 2
  have xe1_3 : (w1.alloc (.cells #[.int .u8 h0, .int .u16 h1, .bool h2, .int .u8 h3, .int .u8 6, .int .u32 h5, .int .u32 h6, .string h7] 57)).cell? ⟨w1.heap.size, 3, none⟩ = some (.int .u8 h3) := e1.at_ 3
  have xe1_4 : (w1.alloc (.cells #[.int .u8 h0, .int .u16 h1, .bool h2, .int .u8 h3, .int .u8 6, .int .u32 h5, .int .u32 h6, .string h7] 57)).cell? ⟨w1.heap.size, 4, none⟩ = some (.int .u8 6) := e1.at_ 4
  have xe1_5 : (w1.alloc (.cells #[.int .u8 h0, .int .u16 h1, .bool h2, .int .u8 h3, .int .u8 6, .int .u32 h5, .int .u32 h6, .string h7] 57)).cell? ⟨w1.heap.size, 5, none⟩ = some (.int .u32 h5) := e1.at_ 5
  have xe1_6 : (w1.alloc (.cells #[.int .u8 h0, .int .u16 h1, .bool h2, .int .u8 h3, .int .u8 6, .int .u32 h5, .int .u32 h6, .string h7] 57)).cell? ⟨w1.heap.size, 6, none⟩ = some (.int .u32 h6) := e1.at_ 6
  have xe1_7 : (w1.alloc (.cells #[.int .u8 h0, .int .u16 h1, .bool h2, .int .u8 h3, .int .u8 6, .int .u32 h5, .int .u32 h6, .string h7] 57)).cell? ⟨w1.heap.size, 7, none⟩ = some (.string h7) := e1.at_ 7
  have d3 := Cells.alloc (Cells.alloc d1 (.cells #[.int .u8 h0, .int .u16 h1, .bool h2, .int .u8 h3, .int .u8 6, .int .u32 h5, .int .u32 h6, .string h7] 57)) (.cells #[.int .u8 6, .int .u32 h5, .int .u16 0, .int .u32 h6, .int .u16 0, .int .i64 2, .int .u8 0, .bool false, .int .u8 h3] 54)
  have e3 := Cells.alloc e1 (.cells #[.int .u8 6, .int .u32 h5, .int .u16 0, .int .u32 h6, .int .u16 0, .int .i64 2, .int .u8 0, .bool false, .int .u8 h3] 54)
  have xe3_4 : (((w1.alloc (.cells #[.int .u8 h0, .int .u16 h1, .bool h2, .int .u8 h3, .int .u8 6, .int .u32 h5, .int .u32 h6, .string h7] 57)).alloc (.cells #[.int .u8 6, .int .u32 h5, .int .u16 0, .int .u32 h6, .int .u16 0, .int .i64 2, .int .u8 0, .bool false, .int .u8 h3] 54))).cell? ⟨w1.heap.size, 4, none⟩ = some (.int .u8 6) := e3.at_ 4
  have x3 : Cells ((w1.alloc (.cells #[.int .u8 h0, .int .u16 h1, .bool h2, .int .u8 h3, .int .u8 6, .int .u32 h5, .int .u32 h6, .string h7] 57)).alloc (.cells #[.int .u8 6, .int .u32 h5, .int .u16 0, .int .u32 h6, .int .u16 0, .int .i64 2, .int .u8 0, .bool false, .int .u8 h3] 54)) (w1.heap.size + 1) #[.int .u8 6, .int .u32 h5, .int .u16 0, .int .u32 h6, .int .u16 0, .int .i64 2, .int .u8 0, .bool false, .int .u8 h3] 54 := by
    have := Cells.new (w1.alloc (.cells #[.int .u8 h0, .int .u16 h1, .bool h2, .int .u8 h3, .int .u8 6, .int .u32 h5, .int .u32 h6, .string h7] 57)) #[.int .u8 6, .int .u32 h5, .int .u16 0, .int .u32 h6, .int .u16 0, .int .i64 2, .int .u8 0, .bool false, .int .u8 h3] 54
    rw [show (w1.alloc (.cells #[.int .u8 h0, .int .u16 h1, .bool h2, .int .u8 h3, .int .u8 6, .int .u32 h5, .int .u32 h6, .string h7] 57)).heap.size = w1.heap.size + 1 from by simp] at this
    exact this
  have b3 : Below w.heap.size w ((w1.alloc (.cells #[.int .u8 h0, .int .u16 h1, .bool h2, .int .u8 h3, .int .u8 6, .int .u32 h5, .int .u32 h6, .string h7] 57)).alloc (.cells #[.int .u8 6, .int .u32 h5, .int .u16 0, .int .u32 h6, .int .u16 0, .int .i64 2, .int .u8 0, .bool false, .int .u8 h3] 54)) := bstep (bstep (bstep (fresh_below _ _) b1) (fresh_below _ _)) (fresh_below _ _)
  have hlt : w.heap.size ≠ w1.heap.size + 1 := by have := d1.lt; omega
  have hle : w.heap.size ≤ w1.heap.size + 1 := by have := d1.lt; omega
  have D3 := hide d3; have X3 := hide x3; have B3 := hide b3; have HN := hide hlt; have HL := hide hle
  clear d0 d1 e1 d3 e3 x3 b3 b1 hlt hle
  go_wp2_with fail
  (with_reducible refine (C2.out _).mono ?_)
  rintro e w4 ⟨rfl, b4⟩
  have d4 := Cells.alloc (Cells.below b4 D3.out) (.cells #[.int .u16 0, .int .u16 0, .int .u32 0, .int .u32 0, .int .u8 0, .int .u8 0, .int .u16 0, .int .u16 0, .int .u16 0, .string { data := #[] }] 92)
  have x4 := Cells.alloc (Cells.below b4 X3.out) (.cells #[.int .u16 0, .int .u16 0, .int .u32 0, .int .u32 0, .int .u8 0, .int .u8 0, .int .u16 0, .int .u16 0, .int .u16 0, .string { data := #[] }] 92)
  have e4 := Cells.new w4 #[.int .u16 0, .int .u16 0, .int .u32 0, .int .u32 0, .int .u8 0, .int .u8 0, .int .u16 0, .int .u16 0, .int .u16 0, .string { data := #[] }] 92
  have b5 : Below w.heap.size w (w4.alloc (.cells #[.int .u16 0, .int .u16 0, .int .u32 0, .int .u32 0, .int .u8 0, .int .u8 0, .int .u16 0, .int .u16 0, .int .u16 0, .string { data := #[] }] 92)) := bstep (bstep B3.out b4) (fresh_below _ _)
  have hgw : w4.heap.size ≠ w.heap.size := by have := (Cells.below b4 D3.out).lt; omega
  have hgx : w4.heap.size ≠ w1.heap.size + 1 := by have := (Cells.below b4 X3.out).lt; omega
  have HGW := hide hgw; have HGX := hide hgx
  clear D3 X3 B3 b4 C1 C2 hgw hgx
  have xd4_0 : ((w4.alloc (.cells #[.int .u16 0, .int .u16 0, .int .u32 0, .int .u32 0, .int .u8 0, .int .u8 0, .int .u16 0, .int .u16 0, .int .u16 0, .string { data := #[] }] 92))).cell? ⟨w.heap.size, 0, none⟩ = some (.int .u8 0) := d4.at_ 0
  have xd4_1 : ((w4.alloc (.cells #[.int .u16 0, .int .u16 0, .int .u32 0, .int .u32 0, .int .u8 0, .int .u8 0, .int .u16 0, .int .u16 0, .int .u16 0, .string { data := #[] }] 92))).cell? ⟨w.heap.size, 1, none⟩ = some (.int .u32 0) := d4.at_ 1
  have xd4_2 : ((w4.alloc (.cells #[.int .u16 0, .int .u16 0, .int .u32 0, .int .u32 0, .int .u8 0, .int .u8 0, .int .u16 0, .int .u16 0, .int .u16 0, .string { data := #[] }] 92))).cell? ⟨w.heap.size, 2, none⟩ = some (.int .u16 0) := d4.at_ 2
  have xd4_3 : ((w4.alloc (.cells #[.int .u16 0, .int .u16 0, .int .u32 0, .int .u32 0, .int .u8 0, .int .u8 0, .int .u16 0, .int .u16 0, .int .u16 0, .string { data := #[] }] 92))).cell? ⟨w.heap.size, 3, none⟩ = some (.int .u32 0) := d4.at_ 3
  have xd4_4 : ((w4.alloc (.cells #[.int .u16 0, .int .u16 0, .int .u32 0, .int .u32 0, .int .u8 0, .int .u8 0, .int .u16 0, .int .u16 0, .int .u16 0, .string { data := #[] }] 92))).cell? ⟨w.heap.size, 4, none⟩ = some (.int .u16 0) := d4.at_ 4
  have xd4_5 : ((w4.alloc (.cells #[.int .u16 0, .int .u16 0, .int .u32 0, .int .u32 0, .int .u8 0, .int .u8 0, .int .u16 0, .int .u16 0, .int .u16 0, .string { data := #[] }] 92))).cell? ⟨w.heap.size, 5, none⟩ = some (.int .i64 0) := d4.at_ 5
  have xd4_6 : ((w4.alloc (.cells #[.int .u16 0, .int .u16 0, .int .u32 0, .int .u32 0, .int .u8 0, .int .u8 0, .int .u16 0, .int .u16 0, .int .u16 0, .string { data := #[] }] 92))).cell? ⟨w.heap.size, 6, none⟩ = some (.int .u8 0) := d4.at_ 6
  have xd4_7 : ((w4.alloc (.cells #[.int .u16 0, .int .u16 0, .int .u32 0, .int .u32 0, .int .u8 0, .int .u8 0, .int .u16 0, .int .u16 0, .int .u16 0, .string { data := #[] }] 92))).cell? ⟨w.heap.size, 7, none⟩ = some (.bool false) := d4.at_ 7
  have xd4_8 : ((w4.alloc (.cells #[.int .u16 0, .int .u16 0, .int .u32 0, .int .u32 0, .int .u8 0, .int .u8 0, .int .u16 0, .int .u16 0, .int .u16 0, .string { data := #[] }] 92))).cell? ⟨w.heap.size, 8, none⟩ = some (.int .u8 0) := d4.at_ 8
  have yd4_0 : ((w4.alloc (.cells #[.int .u16 0, .int .u16 0, .int .u32 0, .int .u32 0, .int .u8 0, .int .u8 0, .int .u16 0, .int .u16 0, .int .u16 0, .string { data := #[] }] 92))).frozen? ⟨w.heap.size, 0, none⟩ = false := d4.free 0
  have yd4_1 : ((w4.alloc (.cells #[.int .u16 0, .int .u16 0, .int .u32 0, .int .u32 0, .int .u8 0, .int .u8 0, .int .u16 0, .int .u16 0, .int .u16 0, .string { data := #[] }] 92))).frozen? ⟨w.heap.size, 1, none⟩ = false := d4.free 1
  have yd4_2 : ((w4.alloc (.cells #[.int .u16 0, .int .u16 0, .int .u32 0, .int .u32 0, .int .u8 0, .int .u8 0, .int .u16 0, .int .u16 0, .int .u16 0, .string { data := #[] }] 92))).frozen? ⟨w.heap.size, 2, none⟩ = false := d4.free 2
  have yd4_3 : ((w4.alloc (.cells #[.int .u16 0, .int .u16 0, .int .u32 0, .int .u32 0, .int .u8 0, .int .u8 0, .int .u16 0, .int .u16 0, .int .u16 0, .string { data := #[] }] 92))).frozen? ⟨w.heap.size, 3, none⟩ = false := d4.free 3
  have yd4_4 : ((w4.alloc (.cells #[.int .u16 0, .int .u16 0, .int .u32 0, .int .u32 0, .int .u8 0, .int .u8 0, .int .u16 0, .int .u16 0, .int .u16 0, .string { data := #[] }] 92))).frozen? ⟨w.heap.size, 4, none⟩ = false := d4.free 4
  have yd4_5 : ((w4.alloc (.cells #[.int .u16 0, .int .u16 0, .int .u32 0, .int .u32 0, .int .u8 0, .int .u8 0, .int .u16 0, .int .u16 0, .int .u16 0, .string { data := #[] }] 92))).frozen? ⟨w.heap.size, 5, none⟩ = false := d4.free 5
  have yd4_6 : ((w4.alloc (.cells #[.int .u16 0, .int .u16 0, .int .u32 0, .int .u32 0, .int .u8 0, .int .u8 0, .int .u16 0, .int .u16 0, .int .u16 0, .string { data := #[] }] 92))).frozen? ⟨w.heap.size, 6, none⟩ = false := d4.free 6
  have yd4_7 : ((w4.alloc (.cells #[.int .u16 0, .int .u16 0, .int .u32 0, .int .u32 0, .int .u8 0, .int .u8 0, .int .u16 0, .int .u16 0, .int .u16 0, .string { data := #[] }] 92))).frozen? ⟨w.heap.size, 7, none⟩ = false := d4.free 7
  have yd4_8 : ((w4.alloc (.cells #[.int .u16 0, .int .u16 0, .int .u32 0, .int .u32 0, .int .u8 0, .int .u8 0, .int .u16 0, .int .u16 0, .int .u16 0, .string { data := #[] }] 92))).frozen? ⟨w.heap.size, 8, none⟩ = false := d4.free 8
  go_wp2_with fail
  generalize (w4.alloc (.cells #[.int .u16 0, .int .u16 0, .int .u32 0, .int .u32 0, .int .u8 0, .int .u8 0, .int .u16 0, .int .u16 0, .int .u16 0, .string { data := #[] }] 92)) = W at *
  have r5 := (Cells.put9 d4 (.int .u8 0) (.int .u32 0) (.int .u16 0) (.int .u32 0) (.int .u16 0) (.int .i64 0) (.int .u8 0) (.bool false) (.int .u8 0))
  have b5 := (Below.put9 b5 (b := w.heap.size) (by first | exact Nat.le_refl _ | omega) (.int .u8 0) (.int .u32 0) (.int .u16 0) (.int .u32 0) (.int .u16 0) (.int .i64 0) (.int .u8 0) (.bool false) (.int .u8 0))
  have HR5 := hide r5; have HB5 := hide b5
  clear r5 b5 d4
  generalize (((((((((W.setCell ⟨w.heap.size, 0, none⟩ (.int .u8 0)).setCell ⟨w.heap.size, 1, none⟩ (.int .u32 0)).setCell ⟨w.heap.size, 2, none⟩ (.int .u16 0)).setCell ⟨w.heap.size, 3, none⟩ (.int .u32 0)).setCell ⟨w.heap.size, 4, none⟩ (.int .u16 0)).setCell ⟨w.heap.size, 5, none⟩ (.int .i64 0)).setCell ⟨w.heap.size, 6, none⟩ (.int .u8 0)).setCell ⟨w.heap.size, 7, none⟩ (.bool false)).setCell ⟨w.heap.size, 8, none⟩ (.int .u8 0)) = W5 at *
  have r5 := HR5.out; have b5 := HB5.out
  clear HR5 HB5
  have xr5_0 : W5.cell? ⟨w.heap.size, 0, none⟩ = some (.int .u8 0) := r5.at_ 0
  have xr5_1 : W5.cell? ⟨w.heap.size, 1, none⟩ = some (.int .u32 0) := r5.at_ 1
  have xr5_2 : W5.cell? ⟨w.heap.size, 2, none⟩ = some (.int .u16 0) := r5.at_ 2
  have xr5_3 : W5.cell? ⟨w.heap.size, 3, none⟩ = some (.int .u32 0) := r5.at_ 3
  have xr5_4 : W5.cell? ⟨w.heap.size, 4, none⟩ = some (.int .u16 0) := r5.at_ 4
  have xr5_5 : W5.cell? ⟨w.heap.size, 5, none⟩ = some (.int .i64 0) := r5.at_ 5
  have xr5_6 : W5.cell? ⟨w.heap.size, 6, none⟩ = some (.int .u8 0) := r5.at_ 6
  have xr5_7 : W5.cell? ⟨w.heap.size, 7, none⟩ = some (.bool false) := r5.at_ 7
  have xr5_8 : W5.cell? ⟨w.heap.size, 8, none⟩ = some (.int .u8 0) := r5.at_ 8
  (try simp only [Exit.inBlock, Exit.then]); refine bodyPost_ret (by simp [results, Tryz.results17, go_sem, *]; try rfl) rfl ?_
  first | exact ⟨rfl, b5⟩ | exact ⟨rfl, b5.drew⟩

set_option maxRecDepth 100000 in
set_option maxHeartbeats 4000000 in
theorem o_Of_tcp_first (s l : ByteArray) (w : World) (h0 h1 h3 h5 h6 : Int) (h2 : Bool) (h7 : ByteArray) (g0 g1 g2 g3 g4 g5 g6 g7 g8 : Int) (g9 r : ByteArray) (hk : bits .and .u8 g5 23 = 2)
    (c1 : ∀ W, Calls Tryz.prog 18 #[.string s] W (Ret (.tuple #[.agg #[.int .u8 h0, .int .u16 h1, .bool h2, .int .u8 h3, .int .u8 6, .int .u32 h5, .int .u32 h6, .string h7], .string l, .int .i64 0]) W))
    (c2 : ∀ W, Calls Tryz.prog 43 #[.string l] W (Ret (.tuple #[.agg #[.int .u16 g0, .int .u16 g1, .int .u32 g2, .int .u32 g3, .int .u8 g4, .int .u8 g5, .int .u16 g6, .int .u16 g7, .int .u16 g8, .string g9], .string r, .bool true]) W)) :
    Calls Tryz.prog 17 #[.string s] w (Ret (.tuple #[.agg #[.int .u8 6, .int .u32 h5, .int .u16 g0, .int .u32 h6, .int .u16 g1, .int .i64 1, .int .u8 g5, .bool false, .int .u8 h3], .int .i64 0]) w) := by
  have q1 : (bits .and .u8 g5 23 == 2) = true := by simpa using hk
  clear hk
  have C1 := hide c1; have C2 := hide c2
  clear c1 c2
  go_enter Tryz.func17, Tryz.ntmps17
  have d0 := Cells.new w #[.int .u8 0, .int .u32 0, .int .u16 0, .int .u32 0, .int .u16 0, .int .i64 0, .int .u8 0, .bool false, .int .u8 0] 54
  go_wp2_with fail
  (with_reducible refine (C1.out _).mono ?_)
  rintro e w1 ⟨rfl, b1⟩
  have d1 := Cells.below b1 d0
  have e1 := Cells.new w1 #[.int .u8 h0, .int .u16 h1, .bool h2, .int .u8 h3, .int .u8 6, .int .u32 h5, .int .u32 h6, .string h7] 57
  have xe1_0 : (w1.alloc (.cells #[.int .u8 h0, .int .u16 h1, .bool h2, .int .u8 h3, .int .u8 6, .int .u32 h5, .int .u32 h6, .string h7] 57)).cell? ⟨w1.heap.size, 0, none⟩ = some (.int .u8 h0) := e1.at_ 0
  have xe1_1 : (w1.alloc (.cells #[.int .u8 h0, .int .u16 h1, .bool h2, .int .u8 h3, .int .u8 6, .int .u32 h5, .int .u32 h6, .string h7] 57)).cell? ⟨w1.heap.size, 1, none⟩ = some (.int .u16 h1) := e1.at_ 1
  have xe1_2 : (w1.alloc (.cells #[.int .u8 h0, .int .u16 h1, .bool h2, .int .u8 h3, .int .u8 6, .int .u32 h5, .int .u32 h6, .string h7] 57)).cell? ⟨w1.heap.size, 2, none⟩ = some (.bool h2) := e1.at_ 2
  have xe1_3 : (w1.alloc (.cells #[.int .u8 h0, .int .u16 h1, .bool h2, .int .u8 h3, .int .u8 6, .int .u32 h5, .int .u32 h6, .string h7] 57)).cell? ⟨w1.heap.size, 3, none⟩ = some (.int .u8 h3) := e1.at_ 3
  have xe1_4 : (w1.alloc (.cells #[.int .u8 h0, .int .u16 h1, .bool h2, .int .u8 h3, .int .u8 6, .int .u32 h5, .int .u32 h6, .string h7] 57)).cell? ⟨w1.heap.size, 4, none⟩ = some (.int .u8 6) := e1.at_ 4
  have xe1_5 : (w1.alloc (.cells #[.int .u8 h0, .int .u16 h1, .bool h2, .int .u8 h3, .int .u8 6, .int .u32 h5, .int .u32 h6, .string h7] 57)).cell? ⟨w1.heap.size, 5, none⟩ = some (.int .u32 h5) := e1.at_ 5
  have xe1_6 : (w1.alloc (.cells #[.int .u8 h0, .int .u16 h1, .bool h2, .int .u8 h3, .int .u8 6, .int .u32 h5, .int .u32 h6, .string h7] 57)).cell? ⟨w1.heap.size, 6, none⟩ = some (.int .u32 h6) := e1.at_ 6
  have xe1_7 : (w1.alloc (.cells #[.int .u8 h0, .int .u16 h1, .bool h2, .int .u8 h3, .int .u8 6, .int .u32 h5, .int .u32 h6, .string h7] 57)).cell? ⟨w1.heap.size, 7, none⟩ = some (.string h7) := e1.at_ 7
  have d3 := Cells.alloc (Cells.alloc d1 (.cells #[.int .u8 h0, .int .u16 h1, .bool h2, .int .u8 h3, .int .u8 6, .int .u32 h5, .int .u32 h6, .string h7] 57)) (.cells #[.int .u8 6, .int .u32 h5, .int .u16 0, .int .u32 h6, .int .u16 0, .int .i64 2, .int .u8 0, .bool false, .int .u8 h3] 54)
  have e3 := Cells.alloc e1 (.cells #[.int .u8 6, .int .u32 h5, .int .u16 0, .int .u32 h6, .int .u16 0, .int .i64 2, .int .u8 0, .bool false, .int .u8 h3] 54)
  have xe3_4 : (((w1.alloc (.cells #[.int .u8 h0, .int .u16 h1, .bool h2, .int .u8 h3, .int .u8 6, .int .u32 h5, .int .u32 h6, .string h7] 57)).alloc (.cells #[.int .u8 6, .int .u32 h5, .int .u16 0, .int .u32 h6, .int .u16 0, .int .i64 2, .int .u8 0, .bool false, .int .u8 h3] 54))).cell? ⟨w1.heap.size, 4, none⟩ = some (.int .u8 6) := e3.at_ 4
  have x3 : Cells ((w1.alloc (.cells #[.int .u8 h0, .int .u16 h1, .bool h2, .int .u8 h3, .int .u8 6, .int .u32 h5, .int .u32 h6, .string h7] 57)).alloc (.cells #[.int .u8 6, .int .u32 h5, .int .u16 0, .int .u32 h6, .int .u16 0, .int .i64 2, .int .u8 0, .bool false, .int .u8 h3] 54)) (w1.heap.size + 1) #[.int .u8 6, .int .u32 h5, .int .u16 0, .int .u32 h6, .int .u16 0, .int .i64 2, .int .u8 0, .bool false, .int .u8 h3] 54 := by
    have := Cells.new (w1.alloc (.cells #[.int .u8 h0, .int .u16 h1, .bool h2, .int .u8 h3, .int .u8 6, .int .u32 h5, .int .u32 h6, .string h7] 57)) #[.int .u8 6, .int .u32 h5, .int .u16 0, .int .u32 h6, .int .u16 0, .int .i64 2, .int .u8 0, .bool false, .int .u8 h3] 54
    rw [show (w1.alloc (.cells #[.int .u8 h0, .int .u16 h1, .bool h2, .int .u8 h3, .int .u8 6, .int .u32 h5, .int .u32 h6, .string h7] 57)).heap.size = w1.heap.size + 1 from by simp] at this
    exact this
  have b3 : Below w.heap.size w ((w1.alloc (.cells #[.int .u8 h0, .int .u16 h1, .bool h2, .int .u8 h3, .int .u8 6, .int .u32 h5, .int .u32 h6, .string h7] 57)).alloc (.cells #[.int .u8 6, .int .u32 h5, .int .u16 0, .int .u32 h6, .int .u16 0, .int .i64 2, .int .u8 0, .bool false, .int .u8 h3] 54)) := bstep (bstep (bstep (fresh_below _ _) b1) (fresh_below _ _)) (fresh_below _ _)
  have hlt : w.heap.size ≠ w1.heap.size + 1 := by have := d1.lt; omega
  have hle : w.heap.size ≤ w1.heap.size + 1 := by have := d1.lt; omega
  have D3 := hide d3; have X3 := hide x3; have B3 := hide b3; have HN := hide hlt; have HL := hide hle
  clear d0 d1 e1 d3 e3 x3 b3 b1 hlt hle
  go_wp2_with fail
  (with_reducible refine (C2.out _).mono ?_)
  rintro e w4 ⟨rfl, b4⟩
  have d4 := Cells.alloc (Cells.below b4 D3.out) (.cells #[.int .u16 g0, .int .u16 g1, .int .u32 g2, .int .u32 g3, .int .u8 g4, .int .u8 g5, .int .u16 g6, .int .u16 g7, .int .u16 g8, .string g9] 92)
  have x4 := Cells.alloc (Cells.below b4 X3.out) (.cells #[.int .u16 g0, .int .u16 g1, .int .u32 g2, .int .u32 g3, .int .u8 g4, .int .u8 g5, .int .u16 g6, .int .u16 g7, .int .u16 g8, .string g9] 92)
  have e4 := Cells.new w4 #[.int .u16 g0, .int .u16 g1, .int .u32 g2, .int .u32 g3, .int .u8 g4, .int .u8 g5, .int .u16 g6, .int .u16 g7, .int .u16 g8, .string g9] 92
  have b5 : Below w.heap.size w (w4.alloc (.cells #[.int .u16 g0, .int .u16 g1, .int .u32 g2, .int .u32 g3, .int .u8 g4, .int .u8 g5, .int .u16 g6, .int .u16 g7, .int .u16 g8, .string g9] 92)) := bstep (bstep B3.out b4) (fresh_below _ _)
  have hgw : w4.heap.size ≠ w.heap.size := by have := (Cells.below b4 D3.out).lt; omega
  have hgx : w4.heap.size ≠ w1.heap.size + 1 := by have := (Cells.below b4 X3.out).lt; omega
  have HGW := hide hgw; have HGX := hide hgx
  clear D3 X3 B3 b4 C1 C2 hgw hgx
  have xx4_0 : ((w4.alloc (.cells #[.int .u16 g0, .int .u16 g1, .int .u32 g2, .int .u32 g3, .int .u8 g4, .int .u8 g5, .int .u16 g6, .int .u16 g7, .int .u16 g8, .string g9] 92))).cell? ⟨(w1.heap.size + 1), 0, none⟩ = some (.int .u8 6) := x4.at_ 0
  have xx4_1 : ((w4.alloc (.cells #[.int .u16 g0, .int .u16 g1, .int .u32 g2, .int .u32 g3, .int .u8 g4, .int .u8 g5, .int .u16 g6, .int .u16 g7, .int .u16 g8, .string g9] 92))).cell? ⟨(w1.heap.size + 1), 1, none⟩ = some (.int .u32 h5) := x4.at_ 1
  have xx4_2 : ((w4.alloc (.cells #[.int .u16 g0, .int .u16 g1, .int .u32 g2, .int .u32 g3, .int .u8 g4, .int .u8 g5, .int .u16 g6, .int .u16 g7, .int .u16 g8, .string g9] 92))).cell? ⟨(w1.heap.size + 1), 2, none⟩ = some (.int .u16 0) := x4.at_ 2
  have xx4_3 : ((w4.alloc (.cells #[.int .u16 g0, .int .u16 g1, .int .u32 g2, .int .u32 g3, .int .u8 g4, .int .u8 g5, .int .u16 g6, .int .u16 g7, .int .u16 g8, .string g9] 92))).cell? ⟨(w1.heap.size + 1), 3, none⟩ = some (.int .u32 h6) := x4.at_ 3
  have xx4_4 : ((w4.alloc (.cells #[.int .u16 g0, .int .u16 g1, .int .u32 g2, .int .u32 g3, .int .u8 g4, .int .u8 g5, .int .u16 g6, .int .u16 g7, .int .u16 g8, .string g9] 92))).cell? ⟨(w1.heap.size + 1), 4, none⟩ = some (.int .u16 0) := x4.at_ 4
  have xx4_5 : ((w4.alloc (.cells #[.int .u16 g0, .int .u16 g1, .int .u32 g2, .int .u32 g3, .int .u8 g4, .int .u8 g5, .int .u16 g6, .int .u16 g7, .int .u16 g8, .string g9] 92))).cell? ⟨(w1.heap.size + 1), 5, none⟩ = some (.int .i64 2) := x4.at_ 5
  have xx4_6 : ((w4.alloc (.cells #[.int .u16 g0, .int .u16 g1, .int .u32 g2, .int .u32 g3, .int .u8 g4, .int .u8 g5, .int .u16 g6, .int .u16 g7, .int .u16 g8, .string g9] 92))).cell? ⟨(w1.heap.size + 1), 6, none⟩ = some (.int .u8 0) := x4.at_ 6
  have xx4_7 : ((w4.alloc (.cells #[.int .u16 g0, .int .u16 g1, .int .u32 g2, .int .u32 g3, .int .u8 g4, .int .u8 g5, .int .u16 g6, .int .u16 g7, .int .u16 g8, .string g9] 92))).cell? ⟨(w1.heap.size + 1), 7, none⟩ = some (.bool false) := x4.at_ 7
  have xx4_8 : ((w4.alloc (.cells #[.int .u16 g0, .int .u16 g1, .int .u32 g2, .int .u32 g3, .int .u8 g4, .int .u8 g5, .int .u16 g6, .int .u16 g7, .int .u16 g8, .string g9] 92))).cell? ⟨(w1.heap.size + 1), 8, none⟩ = some (.int .u8 h3) := x4.at_ 8
  have yx4_0 : ((w4.alloc (.cells #[.int .u16 g0, .int .u16 g1, .int .u32 g2, .int .u32 g3, .int .u8 g4, .int .u8 g5, .int .u16 g6, .int .u16 g7, .int .u16 g8, .string g9] 92))).frozen? ⟨(w1.heap.size + 1), 0, none⟩ = false := x4.free 0
  have yx4_1 : ((w4.alloc (.cells #[.int .u16 g0, .int .u16 g1, .int .u32 g2, .int .u32 g3, .int .u8 g4, .int .u8 g5, .int .u16 g6, .int .u16 g7, .int .u16 g8, .string g9] 92))).frozen? ⟨(w1.heap.size + 1), 1, none⟩ = false := x4.free 1
  have yx4_2 : ((w4.alloc (.cells #[.int .u16 g0, .int .u16 g1, .int .u32 g2, .int .u32 g3, .int .u8 g4, .int .u8 g5, .int .u16 g6, .int .u16 g7, .int .u16 g8, .string g9] 92))).frozen? ⟨(w1.heap.size + 1), 2, none⟩ = false := x4.free 2
  have yx4_3 : ((w4.alloc (.cells #[.int .u16 g0, .int .u16 g1, .int .u32 g2, .int .u32 g3, .int .u8 g4, .int .u8 g5, .int .u16 g6, .int .u16 g7, .int .u16 g8, .string g9] 92))).frozen? ⟨(w1.heap.size + 1), 3, none⟩ = false := x4.free 3
  have yx4_4 : ((w4.alloc (.cells #[.int .u16 g0, .int .u16 g1, .int .u32 g2, .int .u32 g3, .int .u8 g4, .int .u8 g5, .int .u16 g6, .int .u16 g7, .int .u16 g8, .string g9] 92))).frozen? ⟨(w1.heap.size + 1), 4, none⟩ = false := x4.free 4
  have yx4_5 : ((w4.alloc (.cells #[.int .u16 g0, .int .u16 g1, .int .u32 g2, .int .u32 g3, .int .u8 g4, .int .u8 g5, .int .u16 g6, .int .u16 g7, .int .u16 g8, .string g9] 92))).frozen? ⟨(w1.heap.size + 1), 5, none⟩ = false := x4.free 5
  have yx4_6 : ((w4.alloc (.cells #[.int .u16 g0, .int .u16 g1, .int .u32 g2, .int .u32 g3, .int .u8 g4, .int .u8 g5, .int .u16 g6, .int .u16 g7, .int .u16 g8, .string g9] 92))).frozen? ⟨(w1.heap.size + 1), 6, none⟩ = false := x4.free 6
  have yx4_7 : ((w4.alloc (.cells #[.int .u16 g0, .int .u16 g1, .int .u32 g2, .int .u32 g3, .int .u8 g4, .int .u8 g5, .int .u16 g6, .int .u16 g7, .int .u16 g8, .string g9] 92))).frozen? ⟨(w1.heap.size + 1), 7, none⟩ = false := x4.free 7
  have yx4_8 : ((w4.alloc (.cells #[.int .u16 g0, .int .u16 g1, .int .u32 g2, .int .u32 g3, .int .u8 g4, .int .u8 g5, .int .u16 g6, .int .u16 g7, .int .u16 g8, .string g9] 92))).frozen? ⟨(w1.heap.size + 1), 8, none⟩ = false := x4.free 8
  have xe4_0 : ((w4.alloc (.cells #[.int .u16 g0, .int .u16 g1, .int .u32 g2, .int .u32 g3, .int .u8 g4, .int .u8 g5, .int .u16 g6, .int .u16 g7, .int .u16 g8, .string g9] 92))).cell? ⟨w4.heap.size, 0, none⟩ = some (.int .u16 g0) := e4.at_ 0
  have xe4_1 : ((w4.alloc (.cells #[.int .u16 g0, .int .u16 g1, .int .u32 g2, .int .u32 g3, .int .u8 g4, .int .u8 g5, .int .u16 g6, .int .u16 g7, .int .u16 g8, .string g9] 92))).cell? ⟨w4.heap.size, 1, none⟩ = some (.int .u16 g1) := e4.at_ 1
  have xe4_2 : ((w4.alloc (.cells #[.int .u16 g0, .int .u16 g1, .int .u32 g2, .int .u32 g3, .int .u8 g4, .int .u8 g5, .int .u16 g6, .int .u16 g7, .int .u16 g8, .string g9] 92))).cell? ⟨w4.heap.size, 2, none⟩ = some (.int .u32 g2) := e4.at_ 2
  have xe4_3 : ((w4.alloc (.cells #[.int .u16 g0, .int .u16 g1, .int .u32 g2, .int .u32 g3, .int .u8 g4, .int .u8 g5, .int .u16 g6, .int .u16 g7, .int .u16 g8, .string g9] 92))).cell? ⟨w4.heap.size, 3, none⟩ = some (.int .u32 g3) := e4.at_ 3
  have xe4_4 : ((w4.alloc (.cells #[.int .u16 g0, .int .u16 g1, .int .u32 g2, .int .u32 g3, .int .u8 g4, .int .u8 g5, .int .u16 g6, .int .u16 g7, .int .u16 g8, .string g9] 92))).cell? ⟨w4.heap.size, 4, none⟩ = some (.int .u8 g4) := e4.at_ 4
  have xe4_5 : ((w4.alloc (.cells #[.int .u16 g0, .int .u16 g1, .int .u32 g2, .int .u32 g3, .int .u8 g4, .int .u8 g5, .int .u16 g6, .int .u16 g7, .int .u16 g8, .string g9] 92))).cell? ⟨w4.heap.size, 5, none⟩ = some (.int .u8 g5) := e4.at_ 5
  have xe4_6 : ((w4.alloc (.cells #[.int .u16 g0, .int .u16 g1, .int .u32 g2, .int .u32 g3, .int .u8 g4, .int .u8 g5, .int .u16 g6, .int .u16 g7, .int .u16 g8, .string g9] 92))).cell? ⟨w4.heap.size, 6, none⟩ = some (.int .u16 g6) := e4.at_ 6
  have xe4_7 : ((w4.alloc (.cells #[.int .u16 g0, .int .u16 g1, .int .u32 g2, .int .u32 g3, .int .u8 g4, .int .u8 g5, .int .u16 g6, .int .u16 g7, .int .u16 g8, .string g9] 92))).cell? ⟨w4.heap.size, 7, none⟩ = some (.int .u16 g7) := e4.at_ 7
  have xe4_8 : ((w4.alloc (.cells #[.int .u16 g0, .int .u16 g1, .int .u32 g2, .int .u32 g3, .int .u8 g4, .int .u8 g5, .int .u16 g6, .int .u16 g7, .int .u16 g8, .string g9] 92))).cell? ⟨w4.heap.size, 8, none⟩ = some (.int .u16 g8) := e4.at_ 8
  have xe4_9 : ((w4.alloc (.cells #[.int .u16 g0, .int .u16 g1, .int .u32 g2, .int .u32 g3, .int .u8 g4, .int .u8 g5, .int .u16 g6, .int .u16 g7, .int .u16 g8, .string g9] 92))).cell? ⟨w4.heap.size, 9, none⟩ = some (.string g9) := e4.at_ 9
  have fS := hide (fun (X : World) (hX : Cells X w4.heap.size #[.int .u16 g0, .int .u16 g1, .int .u32 g2, .int .u32 g3, .int .u8 g4, .int .u8 g5, .int .u16 g6, .int .u16 g7, .int .u16 g8, .string g9] 92) => (show World.cell? X ⟨w4.heap.size, 0, none⟩ = some (.int .u16 g0) ∧ World.cell? X ⟨w4.heap.size, 1, none⟩ = some (.int .u16 g1) ∧ World.cell? X ⟨w4.heap.size, 5, none⟩ = some (.int .u8 g5) from ⟨hX.at_ 0, hX.at_ 1, hX.at_ 5⟩))
  have E4 := hide e4; have X4 := hide x4; have D4 := hide d4; have B5 := hide b5
  clear d4 b5
  go_wp2_with fail
  generalize (w4.alloc (.cells #[.int .u16 g0, .int .u16 g1, .int .u32 g2, .int .u32 g3, .int .u8 g4, .int .u8 g5, .int .u16 g6, .int .u16 g7, .int .u16 g8, .string g9] 92)) = w5 at *
  go_region_held3 (fun zW => World.cell? zW ⟨w4.heap.size, 0, none⟩ = some (.int .u16 g0) ∧ World.cell? zW ⟨w4.heap.size, 1, none⟩ = some (.int .u16 g1) ∧ World.cell? zW ⟨w4.heap.size, 5, none⟩ = some (.int .u8 g5)) (((try dsimp only); with_reducible refine fS.out _ ?_; (repeat' (first | with_reducible exact E4.out | with_reducible refine Cells.drew ?_ | with_reducible refine Cells.other ?_ HGX.out _ _))))
    (fail)
  all_goals
    generalize hW6 : World.setCell _ _ _ = W6
    have x6 : Cells W6 (w1.heap.size + 1) #[.int .u8 6, .int .u32 h5, .int .u16 g0, .int .u32 h6, .int .u16 g1, .int .i64 2, .int .u8 g5, .bool false, .int .u8 h3] 54 := by rw [← hW6]; (first | exact (((X4.out.drew.set_ 2 (.int .u16 g0)).set_ 4 (.int .u16 g1)).set_ 6 (.int .u8 g5)) | exact (((X4.out.drew.set_ 2 (.int .u16 g0)).set_ 6 (.int .u8 g5)).set_ 4 (.int .u16 g1)) | exact (((X4.out.drew.set_ 4 (.int .u16 g1)).set_ 2 (.int .u16 g0)).set_ 6 (.int .u8 g5)) | exact (((X4.out.drew.set_ 4 (.int .u16 g1)).set_ 6 (.int .u8 g5)).set_ 2 (.int .u16 g0)) | exact (((X4.out.drew.set_ 6 (.int .u8 g5)).set_ 2 (.int .u16 g0)).set_ 4 (.int .u16 g1)) | exact (((X4.out.drew.set_ 6 (.int .u8 g5)).set_ 4 (.int .u16 g1)).set_ 2 (.int .u16 g0)))
    have e6 : Cells W6 w4.heap.size #[.int .u16 g0, .int .u16 g1, .int .u32 g2, .int .u32 g3, .int .u8 g4, .int .u8 g5, .int .u16 g6, .int .u16 g7, .int .u16 g8, .string g9] 92 := by rw [← hW6]; (repeat' (first | with_reducible exact E4.out | with_reducible refine Cells.drew ?_ | with_reducible refine Cells.other ?_ HGX.out _ _))
    have d6 : Cells W6 w.heap.size #[.int .u8 0, .int .u32 0, .int .u16 0, .int .u32 0, .int .u16 0, .int .i64 0, .int .u8 0, .bool false, .int .u8 0] 54 := by rw [← hW6]; (repeat' (first | with_reducible exact D4.out | with_reducible refine Cells.drew ?_ | with_reducible refine Cells.other ?_ HN.out _ _))
    have b6 : Below w.heap.size w W6 := by rw [← hW6]; (repeat' (first | with_reducible exact B5.out | with_reducible refine Below.setCell ?_ (by have := HL.out; dsimp only; omega) _ | with_reducible refine Below.drew ?_))
    clear hW6
    have HX6 := hide x6; have HD6 := hide d6; have HB6 := hide b6
    have xe6_5 : W6.cell? ⟨w4.heap.size, 5, none⟩ = some (.int .u8 g5) := e6.at_ 5
    have xx6_0 : W6.cell? ⟨(w1.heap.size + 1), 0, none⟩ = some (.int .u8 6) := x6.at_ 0
    have xx6_1 : W6.cell? ⟨(w1.heap.size + 1), 1, none⟩ = some (.int .u32 h5) := x6.at_ 1
    have xx6_2 : W6.cell? ⟨(w1.heap.size + 1), 2, none⟩ = some (.int .u16 g0) := x6.at_ 2
    have xx6_3 : W6.cell? ⟨(w1.heap.size + 1), 3, none⟩ = some (.int .u32 h6) := x6.at_ 3
    have xx6_4 : W6.cell? ⟨(w1.heap.size + 1), 4, none⟩ = some (.int .u16 g1) := x6.at_ 4
    have xx6_5 : W6.cell? ⟨(w1.heap.size + 1), 5, none⟩ = some (.int .i64 2) := x6.at_ 5
    have xx6_6 : W6.cell? ⟨(w1.heap.size + 1), 6, none⟩ = some (.int .u8 g5) := x6.at_ 6
    have xx6_7 : W6.cell? ⟨(w1.heap.size + 1), 7, none⟩ = some (.bool false) := x6.at_ 7
    have xx6_8 : W6.cell? ⟨(w1.heap.size + 1), 8, none⟩ = some (.int .u8 h3) := x6.at_ 8
    have yx6_0 : W6.frozen? ⟨(w1.heap.size + 1), 0, none⟩ = false := x6.free 0
    have yx6_1 : W6.frozen? ⟨(w1.heap.size + 1), 1, none⟩ = false := x6.free 1
    have yx6_2 : W6.frozen? ⟨(w1.heap.size + 1), 2, none⟩ = false := x6.free 2
    have yx6_3 : W6.frozen? ⟨(w1.heap.size + 1), 3, none⟩ = false := x6.free 3
    have yx6_4 : W6.frozen? ⟨(w1.heap.size + 1), 4, none⟩ = false := x6.free 4
    have yx6_5 : W6.frozen? ⟨(w1.heap.size + 1), 5, none⟩ = false := x6.free 5
    have yx6_6 : W6.frozen? ⟨(w1.heap.size + 1), 6, none⟩ = false := x6.free 6
    have yx6_7 : W6.frozen? ⟨(w1.heap.size + 1), 7, none⟩ = false := x6.free 7
    have yx6_8 : W6.frozen? ⟨(w1.heap.size + 1), 8, none⟩ = false := x6.free 8
    have x7 : Cells (W6.setCell ⟨w1.heap.size + 1, 5, none⟩ (.int .i64 1)) (w1.heap.size + 1) #[.int .u8 6, .int .u32 h5, .int .u16 g0, .int .u32 h6, .int .u16 g1, .int .i64 1, .int .u8 g5, .bool false, .int .u8 h3] 54 := x6.set_ 5 (.int .i64 1)
    have d7 := d6.other HN.out 5 (.int .i64 1)
    have b7 : Below w.heap.size w (W6.setCell ⟨w1.heap.size + 1, 5, none⟩ (.int .i64 1)) := Below.setCell b6 (by have := HL.out; dsimp only; omega) _
    have xd7_0 : ((W6.setCell ⟨w1.heap.size + 1, 5, none⟩ (.int .i64 1))).cell? ⟨w.heap.size, 0, none⟩ = some (.int .u8 0) := d7.at_ 0
    have xd7_1 : ((W6.setCell ⟨w1.heap.size + 1, 5, none⟩ (.int .i64 1))).cell? ⟨w.heap.size, 1, none⟩ = some (.int .u32 0) := d7.at_ 1
    have xd7_2 : ((W6.setCell ⟨w1.heap.size + 1, 5, none⟩ (.int .i64 1))).cell? ⟨w.heap.size, 2, none⟩ = some (.int .u16 0) := d7.at_ 2
    have xd7_3 : ((W6.setCell ⟨w1.heap.size + 1, 5, none⟩ (.int .i64 1))).cell? ⟨w.heap.size, 3, none⟩ = some (.int .u32 0) := d7.at_ 3
    have xd7_4 : ((W6.setCell ⟨w1.heap.size + 1, 5, none⟩ (.int .i64 1))).cell? ⟨w.heap.size, 4, none⟩ = some (.int .u16 0) := d7.at_ 4
    have xd7_5 : ((W6.setCell ⟨w1.heap.size + 1, 5, none⟩ (.int .i64 1))).cell? ⟨w.heap.size, 5, none⟩ = some (.int .i64 0) := d7.at_ 5
    have xd7_6 : ((W6.setCell ⟨w1.heap.size + 1, 5, none⟩ (.int .i64 1))).cell? ⟨w.heap.size, 6, none⟩ = some (.int .u8 0) := d7.at_ 6
    have xd7_7 : ((W6.setCell ⟨w1.heap.size + 1, 5, none⟩ (.int .i64 1))).cell? ⟨w.heap.size, 7, none⟩ = some (.bool false) := d7.at_ 7
    have xd7_8 : ((W6.setCell ⟨w1.heap.size + 1, 5, none⟩ (.int .i64 1))).cell? ⟨w.heap.size, 8, none⟩ = some (.int .u8 0) := d7.at_ 8
    have yd7_0 : ((W6.setCell ⟨w1.heap.size + 1, 5, none⟩ (.int .i64 1))).frozen? ⟨w.heap.size, 0, none⟩ = false := d7.free 0
    have yd7_1 : ((W6.setCell ⟨w1.heap.size + 1, 5, none⟩ (.int .i64 1))).frozen? ⟨w.heap.size, 1, none⟩ = false := d7.free 1
    have yd7_2 : ((W6.setCell ⟨w1.heap.size + 1, 5, none⟩ (.int .i64 1))).frozen? ⟨w.heap.size, 2, none⟩ = false := d7.free 2
    have yd7_3 : ((W6.setCell ⟨w1.heap.size + 1, 5, none⟩ (.int .i64 1))).frozen? ⟨w.heap.size, 3, none⟩ = false := d7.free 3
    have yd7_4 : ((W6.setCell ⟨w1.heap.size + 1, 5, none⟩ (.int .i64 1))).frozen? ⟨w.heap.size, 4, none⟩ = false := d7.free 4
    have yd7_5 : ((W6.setCell ⟨w1.heap.size + 1, 5, none⟩ (.int .i64 1))).frozen? ⟨w.heap.size, 5, none⟩ = false := d7.free 5
    have yd7_6 : ((W6.setCell ⟨w1.heap.size + 1, 5, none⟩ (.int .i64 1))).frozen? ⟨w.heap.size, 6, none⟩ = false := d7.free 6
    have yd7_7 : ((W6.setCell ⟨w1.heap.size + 1, 5, none⟩ (.int .i64 1))).frozen? ⟨w.heap.size, 7, none⟩ = false := d7.free 7
    have yd7_8 : ((W6.setCell ⟨w1.heap.size + 1, 5, none⟩ (.int .i64 1))).frozen? ⟨w.heap.size, 8, none⟩ = false := d7.free 8
    have xx7_0 : ((W6.setCell ⟨w1.heap.size + 1, 5, none⟩ (.int .i64 1))).cell? ⟨(w1.heap.size + 1), 0, none⟩ = some (.int .u8 6) := x7.at_ 0
    have xx7_1 : ((W6.setCell ⟨w1.heap.size + 1, 5, none⟩ (.int .i64 1))).cell? ⟨(w1.heap.size + 1), 1, none⟩ = some (.int .u32 h5) := x7.at_ 1
    have xx7_2 : ((W6.setCell ⟨w1.heap.size + 1, 5, none⟩ (.int .i64 1))).cell? ⟨(w1.heap.size + 1), 2, none⟩ = some (.int .u16 g0) := x7.at_ 2
    have xx7_3 : ((W6.setCell ⟨w1.heap.size + 1, 5, none⟩ (.int .i64 1))).cell? ⟨(w1.heap.size + 1), 3, none⟩ = some (.int .u32 h6) := x7.at_ 3
    have xx7_4 : ((W6.setCell ⟨w1.heap.size + 1, 5, none⟩ (.int .i64 1))).cell? ⟨(w1.heap.size + 1), 4, none⟩ = some (.int .u16 g1) := x7.at_ 4
    have xx7_5 : ((W6.setCell ⟨w1.heap.size + 1, 5, none⟩ (.int .i64 1))).cell? ⟨(w1.heap.size + 1), 5, none⟩ = some (.int .i64 1) := x7.at_ 5
    have xx7_6 : ((W6.setCell ⟨w1.heap.size + 1, 5, none⟩ (.int .i64 1))).cell? ⟨(w1.heap.size + 1), 6, none⟩ = some (.int .u8 g5) := x7.at_ 6
    have xx7_7 : ((W6.setCell ⟨w1.heap.size + 1, 5, none⟩ (.int .i64 1))).cell? ⟨(w1.heap.size + 1), 7, none⟩ = some (.bool false) := x7.at_ 7
    have xx7_8 : ((W6.setCell ⟨w1.heap.size + 1, 5, none⟩ (.int .i64 1))).cell? ⟨(w1.heap.size + 1), 8, none⟩ = some (.int .u8 h3) := x7.at_ 8
    clear x6 d6 b6 e6 HX6 HD6 HB6 E4 X4 D4 B5 fS x4 e4
    have HD7 := hide d7; have HB7 := hide b7; have HX7 := hide x7
    clear d7 b7 x7
    go_wp2_with fail
    have d7 := HD7.out; have b7 := HB7.out
    have hle := HL.out
    generalize (W6.setCell ⟨w1.heap.size + 1, 5, none⟩ (.int .i64 1)) = W7 at *
    have r5 := (Cells.put9 d7 (.int .u8 6) (.int .u32 h5) (.int .u16 g0) (.int .u32 h6) (.int .u16 g1) (.int .i64 1) (.int .u8 g5) (.bool false) (.int .u8 h3))
    have b5 := (Below.put9 b7 (b := w.heap.size) (by first | exact Nat.le_refl _ | omega) (.int .u8 6) (.int .u32 h5) (.int .u16 g0) (.int .u32 h6) (.int .u16 g1) (.int .i64 1) (.int .u8 g5) (.bool false) (.int .u8 h3))
    have HR5 := hide r5; have HB5 := hide b5
    clear r5 b5 d7
    generalize (((((((((W7.setCell ⟨w.heap.size, 0, none⟩ (.int .u8 6)).setCell ⟨w.heap.size, 1, none⟩ (.int .u32 h5)).setCell ⟨w.heap.size, 2, none⟩ (.int .u16 g0)).setCell ⟨w.heap.size, 3, none⟩ (.int .u32 h6)).setCell ⟨w.heap.size, 4, none⟩ (.int .u16 g1)).setCell ⟨w.heap.size, 5, none⟩ (.int .i64 1)).setCell ⟨w.heap.size, 6, none⟩ (.int .u8 g5)).setCell ⟨w.heap.size, 7, none⟩ (.bool false)).setCell ⟨w.heap.size, 8, none⟩ (.int .u8 h3)) = W5 at *
    have r5 := HR5.out; have b5 := HB5.out
    clear HR5 HB5
    have xr5_0 : W5.cell? ⟨w.heap.size, 0, none⟩ = some (.int .u8 6) := r5.at_ 0
    have xr5_1 : W5.cell? ⟨w.heap.size, 1, none⟩ = some (.int .u32 h5) := r5.at_ 1
    have xr5_2 : W5.cell? ⟨w.heap.size, 2, none⟩ = some (.int .u16 g0) := r5.at_ 2
    have xr5_3 : W5.cell? ⟨w.heap.size, 3, none⟩ = some (.int .u32 h6) := r5.at_ 3
    have xr5_4 : W5.cell? ⟨w.heap.size, 4, none⟩ = some (.int .u16 g1) := r5.at_ 4
    have xr5_5 : W5.cell? ⟨w.heap.size, 5, none⟩ = some (.int .i64 1) := r5.at_ 5
    have xr5_6 : W5.cell? ⟨w.heap.size, 6, none⟩ = some (.int .u8 g5) := r5.at_ 6
    have xr5_7 : W5.cell? ⟨w.heap.size, 7, none⟩ = some (.bool false) := r5.at_ 7
    have xr5_8 : W5.cell? ⟨w.heap.size, 8, none⟩ = some (.int .u8 h3) := r5.at_ 8
    (try simp only [Exit.inBlock, Exit.then]); refine bodyPost_ret (by simp [results, Tryz.results17, go_sem, *]; try rfl) rfl ?_
    first | exact ⟨rfl, b5⟩ | exact ⟨rfl, b5.drew⟩

set_option maxRecDepth 100000 in
set_option maxHeartbeats 4000000 in
theorem o_Of_tcp_flow (s l : ByteArray) (w : World) (h0 h1 h3 h5 h6 : Int) (h2 : Bool) (h7 : ByteArray) (g0 g1 g2 g3 g4 g5 g6 g7 g8 : Int) (g9 r : ByteArray) (hk : bits .and .u8 g5 23 ≠ 2)
    (c1 : ∀ W, Calls Tryz.prog 18 #[.string s] W (Ret (.tuple #[.agg #[.int .u8 h0, .int .u16 h1, .bool h2, .int .u8 h3, .int .u8 6, .int .u32 h5, .int .u32 h6, .string h7], .string l, .int .i64 0]) W))
    (c2 : ∀ W, Calls Tryz.prog 43 #[.string l] W (Ret (.tuple #[.agg #[.int .u16 g0, .int .u16 g1, .int .u32 g2, .int .u32 g3, .int .u8 g4, .int .u8 g5, .int .u16 g6, .int .u16 g7, .int .u16 g8, .string g9], .string r, .bool true]) W)) :
    Calls Tryz.prog 17 #[.string s] w (Ret (.tuple #[.agg #[.int .u8 6, .int .u32 h5, .int .u16 g0, .int .u32 h6, .int .u16 g1, .int .i64 2, .int .u8 g5, .bool false, .int .u8 h3], .int .i64 0]) w) := by
  have q1 : (bits .and .u8 g5 23 == 2) = false := by simpa using hk
  clear hk
  have C1 := hide c1; have C2 := hide c2
  clear c1 c2
  go_enter Tryz.func17, Tryz.ntmps17
  have d0 := Cells.new w #[.int .u8 0, .int .u32 0, .int .u16 0, .int .u32 0, .int .u16 0, .int .i64 0, .int .u8 0, .bool false, .int .u8 0] 54
  go_wp2_with fail
  (with_reducible refine (C1.out _).mono ?_)
  rintro e w1 ⟨rfl, b1⟩
  have d1 := Cells.below b1 d0
  have e1 := Cells.new w1 #[.int .u8 h0, .int .u16 h1, .bool h2, .int .u8 h3, .int .u8 6, .int .u32 h5, .int .u32 h6, .string h7] 57
  have xe1_0 : (w1.alloc (.cells #[.int .u8 h0, .int .u16 h1, .bool h2, .int .u8 h3, .int .u8 6, .int .u32 h5, .int .u32 h6, .string h7] 57)).cell? ⟨w1.heap.size, 0, none⟩ = some (.int .u8 h0) := e1.at_ 0
  have xe1_1 : (w1.alloc (.cells #[.int .u8 h0, .int .u16 h1, .bool h2, .int .u8 h3, .int .u8 6, .int .u32 h5, .int .u32 h6, .string h7] 57)).cell? ⟨w1.heap.size, 1, none⟩ = some (.int .u16 h1) := e1.at_ 1
  have xe1_2 : (w1.alloc (.cells #[.int .u8 h0, .int .u16 h1, .bool h2, .int .u8 h3, .int .u8 6, .int .u32 h5, .int .u32 h6, .string h7] 57)).cell? ⟨w1.heap.size, 2, none⟩ = some (.bool h2) := e1.at_ 2
  have xe1_3 : (w1.alloc (.cells #[.int .u8 h0, .int .u16 h1, .bool h2, .int .u8 h3, .int .u8 6, .int .u32 h5, .int .u32 h6, .string h7] 57)).cell? ⟨w1.heap.size, 3, none⟩ = some (.int .u8 h3) := e1.at_ 3
  have xe1_4 : (w1.alloc (.cells #[.int .u8 h0, .int .u16 h1, .bool h2, .int .u8 h3, .int .u8 6, .int .u32 h5, .int .u32 h6, .string h7] 57)).cell? ⟨w1.heap.size, 4, none⟩ = some (.int .u8 6) := e1.at_ 4
  have xe1_5 : (w1.alloc (.cells #[.int .u8 h0, .int .u16 h1, .bool h2, .int .u8 h3, .int .u8 6, .int .u32 h5, .int .u32 h6, .string h7] 57)).cell? ⟨w1.heap.size, 5, none⟩ = some (.int .u32 h5) := e1.at_ 5
  have xe1_6 : (w1.alloc (.cells #[.int .u8 h0, .int .u16 h1, .bool h2, .int .u8 h3, .int .u8 6, .int .u32 h5, .int .u32 h6, .string h7] 57)).cell? ⟨w1.heap.size, 6, none⟩ = some (.int .u32 h6) := e1.at_ 6
  have xe1_7 : (w1.alloc (.cells #[.int .u8 h0, .int .u16 h1, .bool h2, .int .u8 h3, .int .u8 6, .int .u32 h5, .int .u32 h6, .string h7] 57)).cell? ⟨w1.heap.size, 7, none⟩ = some (.string h7) := e1.at_ 7
  have d3 := Cells.alloc (Cells.alloc d1 (.cells #[.int .u8 h0, .int .u16 h1, .bool h2, .int .u8 h3, .int .u8 6, .int .u32 h5, .int .u32 h6, .string h7] 57)) (.cells #[.int .u8 6, .int .u32 h5, .int .u16 0, .int .u32 h6, .int .u16 0, .int .i64 2, .int .u8 0, .bool false, .int .u8 h3] 54)
  have e3 := Cells.alloc e1 (.cells #[.int .u8 6, .int .u32 h5, .int .u16 0, .int .u32 h6, .int .u16 0, .int .i64 2, .int .u8 0, .bool false, .int .u8 h3] 54)
  have xe3_4 : (((w1.alloc (.cells #[.int .u8 h0, .int .u16 h1, .bool h2, .int .u8 h3, .int .u8 6, .int .u32 h5, .int .u32 h6, .string h7] 57)).alloc (.cells #[.int .u8 6, .int .u32 h5, .int .u16 0, .int .u32 h6, .int .u16 0, .int .i64 2, .int .u8 0, .bool false, .int .u8 h3] 54))).cell? ⟨w1.heap.size, 4, none⟩ = some (.int .u8 6) := e3.at_ 4
  have x3 : Cells ((w1.alloc (.cells #[.int .u8 h0, .int .u16 h1, .bool h2, .int .u8 h3, .int .u8 6, .int .u32 h5, .int .u32 h6, .string h7] 57)).alloc (.cells #[.int .u8 6, .int .u32 h5, .int .u16 0, .int .u32 h6, .int .u16 0, .int .i64 2, .int .u8 0, .bool false, .int .u8 h3] 54)) (w1.heap.size + 1) #[.int .u8 6, .int .u32 h5, .int .u16 0, .int .u32 h6, .int .u16 0, .int .i64 2, .int .u8 0, .bool false, .int .u8 h3] 54 := by
    have := Cells.new (w1.alloc (.cells #[.int .u8 h0, .int .u16 h1, .bool h2, .int .u8 h3, .int .u8 6, .int .u32 h5, .int .u32 h6, .string h7] 57)) #[.int .u8 6, .int .u32 h5, .int .u16 0, .int .u32 h6, .int .u16 0, .int .i64 2, .int .u8 0, .bool false, .int .u8 h3] 54
    rw [show (w1.alloc (.cells #[.int .u8 h0, .int .u16 h1, .bool h2, .int .u8 h3, .int .u8 6, .int .u32 h5, .int .u32 h6, .string h7] 57)).heap.size = w1.heap.size + 1 from by simp] at this
    exact this
  have b3 : Below w.heap.size w ((w1.alloc (.cells #[.int .u8 h0, .int .u16 h1, .bool h2, .int .u8 h3, .int .u8 6, .int .u32 h5, .int .u32 h6, .string h7] 57)).alloc (.cells #[.int .u8 6, .int .u32 h5, .int .u16 0, .int .u32 h6, .int .u16 0, .int .i64 2, .int .u8 0, .bool false, .int .u8 h3] 54)) := bstep (bstep (bstep (fresh_below _ _) b1) (fresh_below _ _)) (fresh_below _ _)
  have hlt : w.heap.size ≠ w1.heap.size + 1 := by have := d1.lt; omega
  have hle : w.heap.size ≤ w1.heap.size + 1 := by have := d1.lt; omega
  have D3 := hide d3; have X3 := hide x3; have B3 := hide b3; have HN := hide hlt; have HL := hide hle
  clear d0 d1 e1 d3 e3 x3 b3 b1 hlt hle
  go_wp2_with fail
  (with_reducible refine (C2.out _).mono ?_)
  rintro e w4 ⟨rfl, b4⟩
  have d4 := Cells.alloc (Cells.below b4 D3.out) (.cells #[.int .u16 g0, .int .u16 g1, .int .u32 g2, .int .u32 g3, .int .u8 g4, .int .u8 g5, .int .u16 g6, .int .u16 g7, .int .u16 g8, .string g9] 92)
  have x4 := Cells.alloc (Cells.below b4 X3.out) (.cells #[.int .u16 g0, .int .u16 g1, .int .u32 g2, .int .u32 g3, .int .u8 g4, .int .u8 g5, .int .u16 g6, .int .u16 g7, .int .u16 g8, .string g9] 92)
  have e4 := Cells.new w4 #[.int .u16 g0, .int .u16 g1, .int .u32 g2, .int .u32 g3, .int .u8 g4, .int .u8 g5, .int .u16 g6, .int .u16 g7, .int .u16 g8, .string g9] 92
  have b5 : Below w.heap.size w (w4.alloc (.cells #[.int .u16 g0, .int .u16 g1, .int .u32 g2, .int .u32 g3, .int .u8 g4, .int .u8 g5, .int .u16 g6, .int .u16 g7, .int .u16 g8, .string g9] 92)) := bstep (bstep B3.out b4) (fresh_below _ _)
  have hgw : w4.heap.size ≠ w.heap.size := by have := (Cells.below b4 D3.out).lt; omega
  have hgx : w4.heap.size ≠ w1.heap.size + 1 := by have := (Cells.below b4 X3.out).lt; omega
  have HGW := hide hgw; have HGX := hide hgx
  clear D3 X3 B3 b4 C1 C2 hgw hgx
  have xx4_0 : ((w4.alloc (.cells #[.int .u16 g0, .int .u16 g1, .int .u32 g2, .int .u32 g3, .int .u8 g4, .int .u8 g5, .int .u16 g6, .int .u16 g7, .int .u16 g8, .string g9] 92))).cell? ⟨(w1.heap.size + 1), 0, none⟩ = some (.int .u8 6) := x4.at_ 0
  have xx4_1 : ((w4.alloc (.cells #[.int .u16 g0, .int .u16 g1, .int .u32 g2, .int .u32 g3, .int .u8 g4, .int .u8 g5, .int .u16 g6, .int .u16 g7, .int .u16 g8, .string g9] 92))).cell? ⟨(w1.heap.size + 1), 1, none⟩ = some (.int .u32 h5) := x4.at_ 1
  have xx4_2 : ((w4.alloc (.cells #[.int .u16 g0, .int .u16 g1, .int .u32 g2, .int .u32 g3, .int .u8 g4, .int .u8 g5, .int .u16 g6, .int .u16 g7, .int .u16 g8, .string g9] 92))).cell? ⟨(w1.heap.size + 1), 2, none⟩ = some (.int .u16 0) := x4.at_ 2
  have xx4_3 : ((w4.alloc (.cells #[.int .u16 g0, .int .u16 g1, .int .u32 g2, .int .u32 g3, .int .u8 g4, .int .u8 g5, .int .u16 g6, .int .u16 g7, .int .u16 g8, .string g9] 92))).cell? ⟨(w1.heap.size + 1), 3, none⟩ = some (.int .u32 h6) := x4.at_ 3
  have xx4_4 : ((w4.alloc (.cells #[.int .u16 g0, .int .u16 g1, .int .u32 g2, .int .u32 g3, .int .u8 g4, .int .u8 g5, .int .u16 g6, .int .u16 g7, .int .u16 g8, .string g9] 92))).cell? ⟨(w1.heap.size + 1), 4, none⟩ = some (.int .u16 0) := x4.at_ 4
  have xx4_5 : ((w4.alloc (.cells #[.int .u16 g0, .int .u16 g1, .int .u32 g2, .int .u32 g3, .int .u8 g4, .int .u8 g5, .int .u16 g6, .int .u16 g7, .int .u16 g8, .string g9] 92))).cell? ⟨(w1.heap.size + 1), 5, none⟩ = some (.int .i64 2) := x4.at_ 5
  have xx4_6 : ((w4.alloc (.cells #[.int .u16 g0, .int .u16 g1, .int .u32 g2, .int .u32 g3, .int .u8 g4, .int .u8 g5, .int .u16 g6, .int .u16 g7, .int .u16 g8, .string g9] 92))).cell? ⟨(w1.heap.size + 1), 6, none⟩ = some (.int .u8 0) := x4.at_ 6
  have xx4_7 : ((w4.alloc (.cells #[.int .u16 g0, .int .u16 g1, .int .u32 g2, .int .u32 g3, .int .u8 g4, .int .u8 g5, .int .u16 g6, .int .u16 g7, .int .u16 g8, .string g9] 92))).cell? ⟨(w1.heap.size + 1), 7, none⟩ = some (.bool false) := x4.at_ 7
  have xx4_8 : ((w4.alloc (.cells #[.int .u16 g0, .int .u16 g1, .int .u32 g2, .int .u32 g3, .int .u8 g4, .int .u8 g5, .int .u16 g6, .int .u16 g7, .int .u16 g8, .string g9] 92))).cell? ⟨(w1.heap.size + 1), 8, none⟩ = some (.int .u8 h3) := x4.at_ 8
  have yx4_0 : ((w4.alloc (.cells #[.int .u16 g0, .int .u16 g1, .int .u32 g2, .int .u32 g3, .int .u8 g4, .int .u8 g5, .int .u16 g6, .int .u16 g7, .int .u16 g8, .string g9] 92))).frozen? ⟨(w1.heap.size + 1), 0, none⟩ = false := x4.free 0
  have yx4_1 : ((w4.alloc (.cells #[.int .u16 g0, .int .u16 g1, .int .u32 g2, .int .u32 g3, .int .u8 g4, .int .u8 g5, .int .u16 g6, .int .u16 g7, .int .u16 g8, .string g9] 92))).frozen? ⟨(w1.heap.size + 1), 1, none⟩ = false := x4.free 1
  have yx4_2 : ((w4.alloc (.cells #[.int .u16 g0, .int .u16 g1, .int .u32 g2, .int .u32 g3, .int .u8 g4, .int .u8 g5, .int .u16 g6, .int .u16 g7, .int .u16 g8, .string g9] 92))).frozen? ⟨(w1.heap.size + 1), 2, none⟩ = false := x4.free 2
  have yx4_3 : ((w4.alloc (.cells #[.int .u16 g0, .int .u16 g1, .int .u32 g2, .int .u32 g3, .int .u8 g4, .int .u8 g5, .int .u16 g6, .int .u16 g7, .int .u16 g8, .string g9] 92))).frozen? ⟨(w1.heap.size + 1), 3, none⟩ = false := x4.free 3
  have yx4_4 : ((w4.alloc (.cells #[.int .u16 g0, .int .u16 g1, .int .u32 g2, .int .u32 g3, .int .u8 g4, .int .u8 g5, .int .u16 g6, .int .u16 g7, .int .u16 g8, .string g9] 92))).frozen? ⟨(w1.heap.size + 1), 4, none⟩ = false := x4.free 4
  have yx4_5 : ((w4.alloc (.cells #[.int .u16 g0, .int .u16 g1, .int .u32 g2, .int .u32 g3, .int .u8 g4, .int .u8 g5, .int .u16 g6, .int .u16 g7, .int .u16 g8, .string g9] 92))).frozen? ⟨(w1.heap.size + 1), 5, none⟩ = false := x4.free 5
  have yx4_6 : ((w4.alloc (.cells #[.int .u16 g0, .int .u16 g1, .int .u32 g2, .int .u32 g3, .int .u8 g4, .int .u8 g5, .int .u16 g6, .int .u16 g7, .int .u16 g8, .string g9] 92))).frozen? ⟨(w1.heap.size + 1), 6, none⟩ = false := x4.free 6
  have yx4_7 : ((w4.alloc (.cells #[.int .u16 g0, .int .u16 g1, .int .u32 g2, .int .u32 g3, .int .u8 g4, .int .u8 g5, .int .u16 g6, .int .u16 g7, .int .u16 g8, .string g9] 92))).frozen? ⟨(w1.heap.size + 1), 7, none⟩ = false := x4.free 7
  have yx4_8 : ((w4.alloc (.cells #[.int .u16 g0, .int .u16 g1, .int .u32 g2, .int .u32 g3, .int .u8 g4, .int .u8 g5, .int .u16 g6, .int .u16 g7, .int .u16 g8, .string g9] 92))).frozen? ⟨(w1.heap.size + 1), 8, none⟩ = false := x4.free 8
  have xe4_0 : ((w4.alloc (.cells #[.int .u16 g0, .int .u16 g1, .int .u32 g2, .int .u32 g3, .int .u8 g4, .int .u8 g5, .int .u16 g6, .int .u16 g7, .int .u16 g8, .string g9] 92))).cell? ⟨w4.heap.size, 0, none⟩ = some (.int .u16 g0) := e4.at_ 0
  have xe4_1 : ((w4.alloc (.cells #[.int .u16 g0, .int .u16 g1, .int .u32 g2, .int .u32 g3, .int .u8 g4, .int .u8 g5, .int .u16 g6, .int .u16 g7, .int .u16 g8, .string g9] 92))).cell? ⟨w4.heap.size, 1, none⟩ = some (.int .u16 g1) := e4.at_ 1
  have xe4_2 : ((w4.alloc (.cells #[.int .u16 g0, .int .u16 g1, .int .u32 g2, .int .u32 g3, .int .u8 g4, .int .u8 g5, .int .u16 g6, .int .u16 g7, .int .u16 g8, .string g9] 92))).cell? ⟨w4.heap.size, 2, none⟩ = some (.int .u32 g2) := e4.at_ 2
  have xe4_3 : ((w4.alloc (.cells #[.int .u16 g0, .int .u16 g1, .int .u32 g2, .int .u32 g3, .int .u8 g4, .int .u8 g5, .int .u16 g6, .int .u16 g7, .int .u16 g8, .string g9] 92))).cell? ⟨w4.heap.size, 3, none⟩ = some (.int .u32 g3) := e4.at_ 3
  have xe4_4 : ((w4.alloc (.cells #[.int .u16 g0, .int .u16 g1, .int .u32 g2, .int .u32 g3, .int .u8 g4, .int .u8 g5, .int .u16 g6, .int .u16 g7, .int .u16 g8, .string g9] 92))).cell? ⟨w4.heap.size, 4, none⟩ = some (.int .u8 g4) := e4.at_ 4
  have xe4_5 : ((w4.alloc (.cells #[.int .u16 g0, .int .u16 g1, .int .u32 g2, .int .u32 g3, .int .u8 g4, .int .u8 g5, .int .u16 g6, .int .u16 g7, .int .u16 g8, .string g9] 92))).cell? ⟨w4.heap.size, 5, none⟩ = some (.int .u8 g5) := e4.at_ 5
  have xe4_6 : ((w4.alloc (.cells #[.int .u16 g0, .int .u16 g1, .int .u32 g2, .int .u32 g3, .int .u8 g4, .int .u8 g5, .int .u16 g6, .int .u16 g7, .int .u16 g8, .string g9] 92))).cell? ⟨w4.heap.size, 6, none⟩ = some (.int .u16 g6) := e4.at_ 6
  have xe4_7 : ((w4.alloc (.cells #[.int .u16 g0, .int .u16 g1, .int .u32 g2, .int .u32 g3, .int .u8 g4, .int .u8 g5, .int .u16 g6, .int .u16 g7, .int .u16 g8, .string g9] 92))).cell? ⟨w4.heap.size, 7, none⟩ = some (.int .u16 g7) := e4.at_ 7
  have xe4_8 : ((w4.alloc (.cells #[.int .u16 g0, .int .u16 g1, .int .u32 g2, .int .u32 g3, .int .u8 g4, .int .u8 g5, .int .u16 g6, .int .u16 g7, .int .u16 g8, .string g9] 92))).cell? ⟨w4.heap.size, 8, none⟩ = some (.int .u16 g8) := e4.at_ 8
  have xe4_9 : ((w4.alloc (.cells #[.int .u16 g0, .int .u16 g1, .int .u32 g2, .int .u32 g3, .int .u8 g4, .int .u8 g5, .int .u16 g6, .int .u16 g7, .int .u16 g8, .string g9] 92))).cell? ⟨w4.heap.size, 9, none⟩ = some (.string g9) := e4.at_ 9
  have fS := hide (fun (X : World) (hX : Cells X w4.heap.size #[.int .u16 g0, .int .u16 g1, .int .u32 g2, .int .u32 g3, .int .u8 g4, .int .u8 g5, .int .u16 g6, .int .u16 g7, .int .u16 g8, .string g9] 92) => (show World.cell? X ⟨w4.heap.size, 0, none⟩ = some (.int .u16 g0) ∧ World.cell? X ⟨w4.heap.size, 1, none⟩ = some (.int .u16 g1) ∧ World.cell? X ⟨w4.heap.size, 5, none⟩ = some (.int .u8 g5) from ⟨hX.at_ 0, hX.at_ 1, hX.at_ 5⟩))
  have E4 := hide e4; have X4 := hide x4; have D4 := hide d4; have B5 := hide b5
  clear d4 b5
  go_wp2_with fail
  generalize (w4.alloc (.cells #[.int .u16 g0, .int .u16 g1, .int .u32 g2, .int .u32 g3, .int .u8 g4, .int .u8 g5, .int .u16 g6, .int .u16 g7, .int .u16 g8, .string g9] 92)) = w5 at *
  go_region_held3 (fun zW => World.cell? zW ⟨w4.heap.size, 0, none⟩ = some (.int .u16 g0) ∧ World.cell? zW ⟨w4.heap.size, 1, none⟩ = some (.int .u16 g1) ∧ World.cell? zW ⟨w4.heap.size, 5, none⟩ = some (.int .u8 g5)) (((try dsimp only); with_reducible refine fS.out _ ?_; (repeat' (first | with_reducible exact E4.out | with_reducible refine Cells.drew ?_ | with_reducible refine Cells.other ?_ HGX.out _ _))))
    (fail)
  all_goals
    generalize hW6 : World.setCell _ _ _ = W6
    have x6 : Cells W6 (w1.heap.size + 1) #[.int .u8 6, .int .u32 h5, .int .u16 g0, .int .u32 h6, .int .u16 g1, .int .i64 2, .int .u8 g5, .bool false, .int .u8 h3] 54 := by rw [← hW6]; (first | exact (((X4.out.drew.set_ 2 (.int .u16 g0)).set_ 4 (.int .u16 g1)).set_ 6 (.int .u8 g5)) | exact (((X4.out.drew.set_ 2 (.int .u16 g0)).set_ 6 (.int .u8 g5)).set_ 4 (.int .u16 g1)) | exact (((X4.out.drew.set_ 4 (.int .u16 g1)).set_ 2 (.int .u16 g0)).set_ 6 (.int .u8 g5)) | exact (((X4.out.drew.set_ 4 (.int .u16 g1)).set_ 6 (.int .u8 g5)).set_ 2 (.int .u16 g0)) | exact (((X4.out.drew.set_ 6 (.int .u8 g5)).set_ 2 (.int .u16 g0)).set_ 4 (.int .u16 g1)) | exact (((X4.out.drew.set_ 6 (.int .u8 g5)).set_ 4 (.int .u16 g1)).set_ 2 (.int .u16 g0)))
    have e6 : Cells W6 w4.heap.size #[.int .u16 g0, .int .u16 g1, .int .u32 g2, .int .u32 g3, .int .u8 g4, .int .u8 g5, .int .u16 g6, .int .u16 g7, .int .u16 g8, .string g9] 92 := by rw [← hW6]; (repeat' (first | with_reducible exact E4.out | with_reducible refine Cells.drew ?_ | with_reducible refine Cells.other ?_ HGX.out _ _))
    have d6 : Cells W6 w.heap.size #[.int .u8 0, .int .u32 0, .int .u16 0, .int .u32 0, .int .u16 0, .int .i64 0, .int .u8 0, .bool false, .int .u8 0] 54 := by rw [← hW6]; (repeat' (first | with_reducible exact D4.out | with_reducible refine Cells.drew ?_ | with_reducible refine Cells.other ?_ HN.out _ _))
    have b6 : Below w.heap.size w W6 := by rw [← hW6]; (repeat' (first | with_reducible exact B5.out | with_reducible refine Below.setCell ?_ (by have := HL.out; dsimp only; omega) _ | with_reducible refine Below.drew ?_))
    clear hW6
    have HX6 := hide x6; have HD6 := hide d6; have HB6 := hide b6
    have xe6_5 : W6.cell? ⟨w4.heap.size, 5, none⟩ = some (.int .u8 g5) := e6.at_ 5
    have xx6_0 : W6.cell? ⟨(w1.heap.size + 1), 0, none⟩ = some (.int .u8 6) := x6.at_ 0
    have xx6_1 : W6.cell? ⟨(w1.heap.size + 1), 1, none⟩ = some (.int .u32 h5) := x6.at_ 1
    have xx6_2 : W6.cell? ⟨(w1.heap.size + 1), 2, none⟩ = some (.int .u16 g0) := x6.at_ 2
    have xx6_3 : W6.cell? ⟨(w1.heap.size + 1), 3, none⟩ = some (.int .u32 h6) := x6.at_ 3
    have xx6_4 : W6.cell? ⟨(w1.heap.size + 1), 4, none⟩ = some (.int .u16 g1) := x6.at_ 4
    have xx6_5 : W6.cell? ⟨(w1.heap.size + 1), 5, none⟩ = some (.int .i64 2) := x6.at_ 5
    have xx6_6 : W6.cell? ⟨(w1.heap.size + 1), 6, none⟩ = some (.int .u8 g5) := x6.at_ 6
    have xx6_7 : W6.cell? ⟨(w1.heap.size + 1), 7, none⟩ = some (.bool false) := x6.at_ 7
    have xx6_8 : W6.cell? ⟨(w1.heap.size + 1), 8, none⟩ = some (.int .u8 h3) := x6.at_ 8
    have yx6_0 : W6.frozen? ⟨(w1.heap.size + 1), 0, none⟩ = false := x6.free 0
    have yx6_1 : W6.frozen? ⟨(w1.heap.size + 1), 1, none⟩ = false := x6.free 1
    have yx6_2 : W6.frozen? ⟨(w1.heap.size + 1), 2, none⟩ = false := x6.free 2
    have yx6_3 : W6.frozen? ⟨(w1.heap.size + 1), 3, none⟩ = false := x6.free 3
    have yx6_4 : W6.frozen? ⟨(w1.heap.size + 1), 4, none⟩ = false := x6.free 4
    have yx6_5 : W6.frozen? ⟨(w1.heap.size + 1), 5, none⟩ = false := x6.free 5
    have yx6_6 : W6.frozen? ⟨(w1.heap.size + 1), 6, none⟩ = false := x6.free 6
    have yx6_7 : W6.frozen? ⟨(w1.heap.size + 1), 7, none⟩ = false := x6.free 7
    have yx6_8 : W6.frozen? ⟨(w1.heap.size + 1), 8, none⟩ = false := x6.free 8
    have xd6_0 : W6.cell? ⟨w.heap.size, 0, none⟩ = some (.int .u8 0) := d6.at_ 0
    have xd6_1 : W6.cell? ⟨w.heap.size, 1, none⟩ = some (.int .u32 0) := d6.at_ 1
    have xd6_2 : W6.cell? ⟨w.heap.size, 2, none⟩ = some (.int .u16 0) := d6.at_ 2
    have xd6_3 : W6.cell? ⟨w.heap.size, 3, none⟩ = some (.int .u32 0) := d6.at_ 3
    have xd6_4 : W6.cell? ⟨w.heap.size, 4, none⟩ = some (.int .u16 0) := d6.at_ 4
    have xd6_5 : W6.cell? ⟨w.heap.size, 5, none⟩ = some (.int .i64 0) := d6.at_ 5
    have xd6_6 : W6.cell? ⟨w.heap.size, 6, none⟩ = some (.int .u8 0) := d6.at_ 6
    have xd6_7 : W6.cell? ⟨w.heap.size, 7, none⟩ = some (.bool false) := d6.at_ 7
    have xd6_8 : W6.cell? ⟨w.heap.size, 8, none⟩ = some (.int .u8 0) := d6.at_ 8
    have yd6_0 : W6.frozen? ⟨w.heap.size, 0, none⟩ = false := d6.free 0
    have yd6_1 : W6.frozen? ⟨w.heap.size, 1, none⟩ = false := d6.free 1
    have yd6_2 : W6.frozen? ⟨w.heap.size, 2, none⟩ = false := d6.free 2
    have yd6_3 : W6.frozen? ⟨w.heap.size, 3, none⟩ = false := d6.free 3
    have yd6_4 : W6.frozen? ⟨w.heap.size, 4, none⟩ = false := d6.free 4
    have yd6_5 : W6.frozen? ⟨w.heap.size, 5, none⟩ = false := d6.free 5
    have yd6_6 : W6.frozen? ⟨w.heap.size, 6, none⟩ = false := d6.free 6
    have yd6_7 : W6.frozen? ⟨w.heap.size, 7, none⟩ = false := d6.free 7
    have yd6_8 : W6.frozen? ⟨w.heap.size, 8, none⟩ = false := d6.free 8
    clear x6 d6 b6 e6 HX6 E4 X4 D4 B5 fS x4 e4
    go_wp2_with fail
    have d7 := HD6.out; have b7 := HB6.out
    have r5 := (Cells.put9 d7 (.int .u8 6) (.int .u32 h5) (.int .u16 g0) (.int .u32 h6) (.int .u16 g1) (.int .i64 2) (.int .u8 g5) (.bool false) (.int .u8 h3))
    have b5 := (Below.put9 b7 (b := w.heap.size) (by first | exact Nat.le_refl _ | omega) (.int .u8 6) (.int .u32 h5) (.int .u16 g0) (.int .u32 h6) (.int .u16 g1) (.int .i64 2) (.int .u8 g5) (.bool false) (.int .u8 h3))
    have HR5 := hide r5; have HB5 := hide b5
    clear r5 b5 d7
    generalize (((((((((W6.setCell ⟨w.heap.size, 0, none⟩ (.int .u8 6)).setCell ⟨w.heap.size, 1, none⟩ (.int .u32 h5)).setCell ⟨w.heap.size, 2, none⟩ (.int .u16 g0)).setCell ⟨w.heap.size, 3, none⟩ (.int .u32 h6)).setCell ⟨w.heap.size, 4, none⟩ (.int .u16 g1)).setCell ⟨w.heap.size, 5, none⟩ (.int .i64 2)).setCell ⟨w.heap.size, 6, none⟩ (.int .u8 g5)).setCell ⟨w.heap.size, 7, none⟩ (.bool false)).setCell ⟨w.heap.size, 8, none⟩ (.int .u8 h3)) = W5 at *
    have r5 := HR5.out; have b5 := HB5.out
    clear HR5 HB5
    have xr5_0 : W5.cell? ⟨w.heap.size, 0, none⟩ = some (.int .u8 6) := r5.at_ 0
    have xr5_1 : W5.cell? ⟨w.heap.size, 1, none⟩ = some (.int .u32 h5) := r5.at_ 1
    have xr5_2 : W5.cell? ⟨w.heap.size, 2, none⟩ = some (.int .u16 g0) := r5.at_ 2
    have xr5_3 : W5.cell? ⟨w.heap.size, 3, none⟩ = some (.int .u32 h6) := r5.at_ 3
    have xr5_4 : W5.cell? ⟨w.heap.size, 4, none⟩ = some (.int .u16 g1) := r5.at_ 4
    have xr5_5 : W5.cell? ⟨w.heap.size, 5, none⟩ = some (.int .i64 2) := r5.at_ 5
    have xr5_6 : W5.cell? ⟨w.heap.size, 6, none⟩ = some (.int .u8 g5) := r5.at_ 6
    have xr5_7 : W5.cell? ⟨w.heap.size, 7, none⟩ = some (.bool false) := r5.at_ 7
    have xr5_8 : W5.cell? ⟨w.heap.size, 8, none⟩ = some (.int .u8 h3) := r5.at_ 8
    (try simp only [Exit.inBlock, Exit.then]); refine bodyPost_ret (by simp [results, Tryz.results17, go_sem, *]; try rfl) rfl ?_
    first | exact ⟨rfl, b5⟩ | exact ⟨rfl, b5.drew⟩
end Go.Proofs.YtpidgmamollmgaaGreatDoor
end
