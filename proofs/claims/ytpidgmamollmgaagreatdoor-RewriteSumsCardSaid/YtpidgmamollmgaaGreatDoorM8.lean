/- Several texts of this claim, one behind the other. -/
import Derived.Test.YtpidgmamollmgaaGreatDoorM7
import Derived.Test.YtpidgmamollmgaaGreatDoorM1

section
/- rewrite: a segment, or a datagram, changed, over this program. -/
set_option linter.unusedVariables false
set_option linter.unusedSimpArgs false
namespace Go.Proofs.YtpidgmamollmgaaGreatDoor
open Go.RowKit
attribute [local go_sem] Oper.semAt_some

def flowSum (l ips : List UInt8) (a b c d : Int) (k : Nat) : Int := updates (be16 l k) (ips ++ l.take 4) (ipsOf a c ++ putW [b, d])
/-- the sum that is laid: of a datagram that has none, none; none of 0 -/
def flowFix (k : Nat) (was n : Int) : Int := if k = 6 then (if was = 0 then 0 else if n = 0 then 65535 else n) else n
/-- a segment, or a datagram, changed -/
def flowNew (l ips : List UInt8) (a b c d : Int) (k : Nat) : List UInt8 := lay (putW [b, d] ++ l.drop 4) k (flowFix k (be16 l k) (flowSum l ips a b c d k))
theorem flowSum_bd (l ips : List UInt8) (a b c d : Int) (k : Nat) : 0 ≤ flowSum l ips a b c d k ∧ flowSum l ips a b c d k ≤ 65535 := updates_bd (be16_bd _ _)
theorem flowFix_bd {k : Nat} {was n : Int} (h : 0 ≤ n ∧ n ≤ 65535) : 0 ≤ flowFix k was n ∧ flowFix k was n ≤ 65535 := by
  unfold flowFix; split
  · split
    · omega
    · split <;> omega
  · exact h

set_option maxRecDepth 100000 in
set_option maxHeartbeats 4000000 in
theorem rw_flow_t (a b c d : Int) (l ips : ByteArray) (v n0 nF : Int) (pr p1 p2 ip t1 pn out : ByteArray) (w : World) (hl : l.size ≤ 140737488351232) (h20 : 18 ≤ l.size) (hpr : pr.size = 4)
    (f1 : ∀ W (A : Option Addr), Row W W.heap.size A 2 (ints16 [b, d]) → Calls Tryz.prog 92 #[.slice A 2 2] W (Ret (.string pr) W))
    (f2 : ∀ W, Calls Tryz.prog 38 #[.string l, .int .i64 16] W (Ret (.int .u16 v) W))
    (f3 : ∀ W (A : Option Addr), Row W W.heap.size A 2 [.string ips, .string (l.extract 0 4)] → Calls Tryz.prog 36 #[.slice A 2 2] W (Ret (.string p1) W))
    (f4 : ∀ W, Calls Tryz.prog 39 #[.agg #[.int .u32 a, .int .u16 b, .int .u32 c, .int .u16 d]] W (Ret (.string ip) W))
    (f5 : ∀ W (A : Option Addr), Row W W.heap.size A 2 [.string ip, .string pr] → Calls Tryz.prog 36 #[.slice A 2 2] W (Ret (.string p2) W))
    (f6 : ∀ W, Calls Tryz.prog 37 #[.int .u16 v, .string p1, .string p2] W (Ret (.int .u16 n0) W))
    (f7 : ∀ W, Calls Tryz.prog 93 #[.string l, .int .i64 0, .string pr] W (Ret (.string t1) W))
    (f8 : ∀ W, Calls Tryz.prog 40 #[.int .u16 nF] W (Ret (.string pn) W))
    (f9 : ∀ W, Calls Tryz.prog 93 #[.string t1, .int .i64 16, .string pn] W (Ret (.string out) W))
    (hF : nF = n0) :
    Calls Tryz.prog 41 #[.agg #[.int .u32 a, .int .u16 b, .int .u32 c, .int .u16 d], .string l, .string ips, .int .i64 16] w (Ret (.string out) w) := by
  subst hF
  have i1 : (4 : Int) ≤ (l.size : Int) := by omega
  have F1 := hide f1; have F2 := hide f2; have F3 := hide f3; have F4 := hide f4; have F5 := hide f5; have F6 := hide f6; have F7 := hide f7; have F8 := hide f8; have F9 := hide f9
  clear f1 f2 f3 f4 f5 f6 f7 f8 f9
  go_enter Tryz.func41, Tryz.ntmps41
  have d0 := Cells.new w #[.int .u32 a, .int .u16 b, .int .u32 c, .int .u16 d] 28
  go_wp2_with fail
  (with_reducible refine Calls.mono (F1.out _ _ (Row.freshAt _ _ _ _ _ _ (by simp) rfl rfl)) ?_)
  rintro e w1 ⟨rfl, b1⟩
  have d1 := Cells.up d0 (fresh_below _ _) b1
  replace b1 : Below w.heap.size w w1 := bstep (bstep (fresh_below _ _) (fresh_below _ _)) b1
  clear d0
  go_wp2_with fail
  (with_reducible refine (F2.out _).mono ?_)
  rintro e w2 ⟨rfl, b2⟩
  have d2 := Cells.below b2 d1
  replace b2 : Below w.heap.size w w2 := bstep b1 b2
  clear d1 b1
  go_wp2_with fail
  have SK := hide (fun (zX zY : World) (zh : (Below w.heap.size w zX ∧ zX.cell? ⟨w.heap.size, 0, none⟩ = some (.int .u32 a) ∧ zX.cell? ⟨w.heap.size, 1, none⟩ = some (.int .u16 b) ∧ zX.cell? ⟨w.heap.size, 2, none⟩ = some (.int .u32 c) ∧ zX.cell? ⟨w.heap.size, 3, none⟩ = some (.int .u16 d) ∧ True)) (zb : Below zX.heap.size zX zY) => (show (Below w.heap.size w zY ∧ zY.cell? ⟨w.heap.size, 0, none⟩ = some (.int .u32 a) ∧ zY.cell? ⟨w.heap.size, 1, none⟩ = some (.int .u16 b) ∧ zY.cell? ⟨w.heap.size, 2, none⟩ = some (.int .u32 c) ∧ zY.cell? ⟨w.heap.size, 3, none⟩ = some (.int .u16 d) ∧ True) from ⟨bstep zh.1 zb, cellAt zb zh.2.1, cellAt zb zh.2.2.1, cellAt zb zh.2.2.2.1, cellAt zb zh.2.2.2.2.1, trivial⟩))
  have FS := hide (fun (zX : World) (zh : (Below w.heap.size w zX ∧ zX.cell? ⟨w.heap.size, 0, none⟩ = some (.int .u32 a) ∧ zX.cell? ⟨w.heap.size, 1, none⟩ = some (.int .u16 b) ∧ zX.cell? ⟨w.heap.size, 2, none⟩ = some (.int .u32 c) ∧ zX.cell? ⟨w.heap.size, 3, none⟩ = some (.int .u16 d) ∧ True)) => zh.1)
  have GS := hide (fun (zX : World) (zh : (Below w.heap.size w zX ∧ zX.cell? ⟨w.heap.size, 0, none⟩ = some (.int .u32 a) ∧ zX.cell? ⟨w.heap.size, 1, none⟩ = some (.int .u16 b) ∧ zX.cell? ⟨w.heap.size, 2, none⟩ = some (.int .u32 c) ∧ zX.cell? ⟨w.heap.size, 3, none⟩ = some (.int .u16 d) ∧ True)) => zh)
  have hS0 : (Below w.heap.size w w2 ∧ w2.cell? ⟨w.heap.size, 0, none⟩ = some (.int .u32 a) ∧ w2.cell? ⟨w.heap.size, 1, none⟩ = some (.int .u16 b) ∧ w2.cell? ⟨w.heap.size, 2, none⟩ = some (.int .u32 c) ∧ w2.cell? ⟨w.heap.size, 3, none⟩ = some (.int .u16 d) ∧ True) := ⟨(by (repeat' (first | with_reducible exact b2 | with_reducible exact Below.refl _ _ | with_reducible refine Below.setCell ?_ (by first | exact Nat.le_refl _ | (dsimp only; omega)) _ | with_reducible refine bstep ?_ (fresh_below _ _) | with_reducible refine Below.drew ?_))), d2.at_ 0, d2.at_ 1, d2.at_ 2, d2.at_ 3, trivial⟩
  go_region_held_law (fun w' => (Below w.heap.size w w' ∧ w'.cell? ⟨w.heap.size, 0, none⟩ = some (.int .u32 a) ∧ w'.cell? ⟨w.heap.size, 1, none⟩ = some (.int .u16 b) ∧ w'.cell? ⟨w.heap.size, 2, none⟩ = some (.int .u32 c) ∧ w'.cell? ⟨w.heap.size, 3, none⟩ = some (.int .u16 d) ∧ True)) (first | assumption | exact SK.out _ _ hS0 (Below.refl _ _).drew | exact SK.out _ _ hS0 (fresh_below _ _).drew | exact SK.out _ _ (by assumption) (fresh_below _ _) | (refine SK.out _ _ ?_ (by assumption); assumption))
    (first | (go_at_call 36; (with_reducible refine Calls.mono (F3.out _ _ ?_) ?_); (focus ((repeat' (first | with_reducible refine Row.afterdraw ?_ | with_reducible exact Row.freshAt _ _ _ _ _ _ (by first | (simp; done) | fail) rfl rfl | (with_reducible refine Row.rise ?_ (fresh_below _ _)) | (with_reducible refine Row.rise ?_ (by with_reducible assumption)))); (first | done | fail))); rintro e wq ⟨rfl, bq⟩) | (go_at_call 36; (with_reducible refine Calls.mono (F5.out _ _ ?_) ?_); (focus ((repeat' (first | with_reducible refine Row.afterdraw ?_ | with_reducible exact Row.freshAt _ _ _ _ _ _ (by first | (simp; done) | fail) rfl rfl | (with_reducible refine Row.rise ?_ (fresh_below _ _)) | (with_reducible refine Row.rise ?_ (by with_reducible assumption)))); (first | done | fail))); rintro e wq ⟨rfl, bq⟩) | (go_at_call 39; (with_reducible refine (F4.out _).mono ?_); rintro e wq ⟨rfl, bq⟩) | (go_at_call 37; (with_reducible refine (F6.out _).mono ?_); rintro e wq ⟨rfl, bq⟩))
  all_goals
    have gs := GS.out _ (by assumption)
    have gb : Below w.heap.size w wq := gs.1
    clear SK FS GS hS0 gs
    obtain ⟨w3, rfl⟩ : ∃ W : World, W = wq := ⟨_, rfl⟩
    have b3 := gb
    go_wp2_with fail
    (with_reducible refine (F7.out _).mono ?_)
    rintro e w4 ⟨rfl, b4⟩
    replace b4 : Below w.heap.size w w4 := bstep b3 b4
    go_wp2_with fail
    (with_reducible refine (F8.out _).mono ?_)
    rintro e w5 ⟨rfl, b5⟩
    replace b5 : Below w.heap.size w w5 := bstep b4 b5
    go_wp2_with fail
    (with_reducible refine (F9.out _).mono ?_)
    rintro e w6 ⟨rfl, b6⟩
    replace b6 : Below w.heap.size w w6 := bstep b5 b6
    go_wp2_with fail
    go_ret
    exact ⟨rfl, b6⟩

set_option maxRecDepth 100000 in
set_option maxHeartbeats 4000000 in
theorem rw_flow_u0 (a b c d : Int) (l ips : ByteArray) (v n0 nF : Int) (pr p1 p2 ip t1 pn out : ByteArray) (w : World) (hl : l.size ≤ 140737488351232) (h20 : 8 ≤ l.size) (hpr : pr.size = 4)
    (f1 : ∀ W (A : Option Addr), Row W W.heap.size A 2 (ints16 [b, d]) → Calls Tryz.prog 92 #[.slice A 2 2] W (Ret (.string pr) W))
    (f2 : ∀ W, Calls Tryz.prog 38 #[.string l, .int .i64 6] W (Ret (.int .u16 v) W))
    (f3 : ∀ W (A : Option Addr), Row W W.heap.size A 2 [.string ips, .string (l.extract 0 4)] → Calls Tryz.prog 36 #[.slice A 2 2] W (Ret (.string p1) W))
    (f4 : ∀ W, Calls Tryz.prog 39 #[.agg #[.int .u32 a, .int .u16 b, .int .u32 c, .int .u16 d]] W (Ret (.string ip) W))
    (f5 : ∀ W (A : Option Addr), Row W W.heap.size A 2 [.string ip, .string pr] → Calls Tryz.prog 36 #[.slice A 2 2] W (Ret (.string p2) W))
    (f6 : ∀ W, Calls Tryz.prog 37 #[.int .u16 v, .string p1, .string p2] W (Ret (.int .u16 n0) W))
    (f7 : ∀ W, Calls Tryz.prog 93 #[.string l, .int .i64 0, .string pr] W (Ret (.string t1) W))
    (f8 : ∀ W, Calls Tryz.prog 40 #[.int .u16 nF] W (Ret (.string pn) W))
    (f9 : ∀ W, Calls Tryz.prog 93 #[.string t1, .int .i64 6, .string pn] W (Ret (.string out) W))
    (hv : v = 0) (hF : nF = 0) :
    Calls Tryz.prog 41 #[.agg #[.int .u32 a, .int .u16 b, .int .u32 c, .int .u16 d], .string l, .string ips, .int .i64 6] w (Ret (.string out) w) := by
  subst hF; subst hv
  have i1 : (4 : Int) ≤ (l.size : Int) := by omega
  have F1 := hide f1; have F2 := hide f2; have F3 := hide f3; have F4 := hide f4; have F5 := hide f5; have F6 := hide f6; have F7 := hide f7; have F8 := hide f8; have F9 := hide f9
  clear f1 f2 f3 f4 f5 f6 f7 f8 f9
  go_enter Tryz.func41, Tryz.ntmps41
  have d0 := Cells.new w #[.int .u32 a, .int .u16 b, .int .u32 c, .int .u16 d] 28
  go_wp2_with fail
  (with_reducible refine Calls.mono (F1.out _ _ (Row.freshAt _ _ _ _ _ _ (by simp) rfl rfl)) ?_)
  rintro e w1 ⟨rfl, b1⟩
  have d1 := Cells.up d0 (fresh_below _ _) b1
  replace b1 : Below w.heap.size w w1 := bstep (bstep (fresh_below _ _) (fresh_below _ _)) b1
  clear d0
  go_wp2_with fail
  (with_reducible refine (F2.out _).mono ?_)
  rintro e w2 ⟨rfl, b2⟩
  have d2 := Cells.below b2 d1
  replace b2 : Below w.heap.size w w2 := bstep b1 b2
  clear d1 b1
  go_wp2_with fail
  have SK := hide (fun (zX zY : World) (zh : (Below w.heap.size w zX ∧ zX.cell? ⟨w.heap.size, 0, none⟩ = some (.int .u32 a) ∧ zX.cell? ⟨w.heap.size, 1, none⟩ = some (.int .u16 b) ∧ zX.cell? ⟨w.heap.size, 2, none⟩ = some (.int .u32 c) ∧ zX.cell? ⟨w.heap.size, 3, none⟩ = some (.int .u16 d) ∧ True)) (zb : Below zX.heap.size zX zY) => (show (Below w.heap.size w zY ∧ zY.cell? ⟨w.heap.size, 0, none⟩ = some (.int .u32 a) ∧ zY.cell? ⟨w.heap.size, 1, none⟩ = some (.int .u16 b) ∧ zY.cell? ⟨w.heap.size, 2, none⟩ = some (.int .u32 c) ∧ zY.cell? ⟨w.heap.size, 3, none⟩ = some (.int .u16 d) ∧ True) from ⟨bstep zh.1 zb, cellAt zb zh.2.1, cellAt zb zh.2.2.1, cellAt zb zh.2.2.2.1, cellAt zb zh.2.2.2.2.1, trivial⟩))
  have FS := hide (fun (zX : World) (zh : (Below w.heap.size w zX ∧ zX.cell? ⟨w.heap.size, 0, none⟩ = some (.int .u32 a) ∧ zX.cell? ⟨w.heap.size, 1, none⟩ = some (.int .u16 b) ∧ zX.cell? ⟨w.heap.size, 2, none⟩ = some (.int .u32 c) ∧ zX.cell? ⟨w.heap.size, 3, none⟩ = some (.int .u16 d) ∧ True)) => zh.1)
  have GS := hide (fun (zX : World) (zh : (Below w.heap.size w zX ∧ zX.cell? ⟨w.heap.size, 0, none⟩ = some (.int .u32 a) ∧ zX.cell? ⟨w.heap.size, 1, none⟩ = some (.int .u16 b) ∧ zX.cell? ⟨w.heap.size, 2, none⟩ = some (.int .u32 c) ∧ zX.cell? ⟨w.heap.size, 3, none⟩ = some (.int .u16 d) ∧ True)) => zh)
  have hS0 : (Below w.heap.size w w2 ∧ w2.cell? ⟨w.heap.size, 0, none⟩ = some (.int .u32 a) ∧ w2.cell? ⟨w.heap.size, 1, none⟩ = some (.int .u16 b) ∧ w2.cell? ⟨w.heap.size, 2, none⟩ = some (.int .u32 c) ∧ w2.cell? ⟨w.heap.size, 3, none⟩ = some (.int .u16 d) ∧ True) := ⟨(by (repeat' (first | with_reducible exact b2 | with_reducible exact Below.refl _ _ | with_reducible refine Below.setCell ?_ (by first | exact Nat.le_refl _ | (dsimp only; omega)) _ | with_reducible refine bstep ?_ (fresh_below _ _) | with_reducible refine Below.drew ?_))), d2.at_ 0, d2.at_ 1, d2.at_ 2, d2.at_ 3, trivial⟩
  go_region_held_law (fun w' => (Below w.heap.size w w' ∧ w'.cell? ⟨w.heap.size, 0, none⟩ = some (.int .u32 a) ∧ w'.cell? ⟨w.heap.size, 1, none⟩ = some (.int .u16 b) ∧ w'.cell? ⟨w.heap.size, 2, none⟩ = some (.int .u32 c) ∧ w'.cell? ⟨w.heap.size, 3, none⟩ = some (.int .u16 d) ∧ True)) (first | assumption | exact SK.out _ _ hS0 (Below.refl _ _).drew | exact SK.out _ _ hS0 (fresh_below _ _).drew | exact SK.out _ _ (by assumption) (fresh_below _ _) | (refine SK.out _ _ ?_ (by assumption); assumption))
    (first | (go_at_call 36; (with_reducible refine Calls.mono (F3.out _ _ ?_) ?_); (focus ((repeat' (first | with_reducible refine Row.afterdraw ?_ | with_reducible exact Row.freshAt _ _ _ _ _ _ (by first | (simp; done) | fail) rfl rfl | (with_reducible refine Row.rise ?_ (fresh_below _ _)) | (with_reducible refine Row.rise ?_ (by with_reducible assumption)))); (first | done | fail))); rintro e wq ⟨rfl, bq⟩) | (go_at_call 36; (with_reducible refine Calls.mono (F5.out _ _ ?_) ?_); (focus ((repeat' (first | with_reducible refine Row.afterdraw ?_ | with_reducible exact Row.freshAt _ _ _ _ _ _ (by first | (simp; done) | fail) rfl rfl | (with_reducible refine Row.rise ?_ (fresh_below _ _)) | (with_reducible refine Row.rise ?_ (by with_reducible assumption)))); (first | done | fail))); rintro e wq ⟨rfl, bq⟩) | (go_at_call 39; (with_reducible refine (F4.out _).mono ?_); rintro e wq ⟨rfl, bq⟩) | (go_at_call 37; (with_reducible refine (F6.out _).mono ?_); rintro e wq ⟨rfl, bq⟩))
  all_goals
    have gs := GS.out _ (by assumption)
    have gb : Below w.heap.size w wq := gs.1
    clear SK FS GS hS0 gs
    obtain ⟨w3, rfl⟩ : ∃ W : World, W = wq := ⟨_, rfl⟩
    have b3 := gb
    go_wp2_with fail
    (with_reducible refine (F7.out _).mono ?_)
    rintro e w4 ⟨rfl, b4⟩
    replace b4 : Below w.heap.size w w4 := bstep b3 b4
    go_wp2_with fail
    (with_reducible refine (F8.out _).mono ?_)
    rintro e w5 ⟨rfl, b5⟩
    replace b5 : Below w.heap.size w w5 := bstep b4 b5
    go_wp2_with fail
    (with_reducible refine (F9.out _).mono ?_)
    rintro e w6 ⟨rfl, b6⟩
    replace b6 : Below w.heap.size w w6 := bstep b5 b6
    go_wp2_with fail
    go_ret
    exact ⟨rfl, b6⟩

set_option maxRecDepth 100000 in
set_option maxHeartbeats 4000000 in
theorem rw_flow_u1 (a b c d : Int) (l ips : ByteArray) (v n0 nF : Int) (pr p1 p2 ip t1 pn out : ByteArray) (w : World) (hl : l.size ≤ 140737488351232) (h20 : 8 ≤ l.size) (hpr : pr.size = 4)
    (f1 : ∀ W (A : Option Addr), Row W W.heap.size A 2 (ints16 [b, d]) → Calls Tryz.prog 92 #[.slice A 2 2] W (Ret (.string pr) W))
    (f2 : ∀ W, Calls Tryz.prog 38 #[.string l, .int .i64 6] W (Ret (.int .u16 v) W))
    (f3 : ∀ W (A : Option Addr), Row W W.heap.size A 2 [.string ips, .string (l.extract 0 4)] → Calls Tryz.prog 36 #[.slice A 2 2] W (Ret (.string p1) W))
    (f4 : ∀ W, Calls Tryz.prog 39 #[.agg #[.int .u32 a, .int .u16 b, .int .u32 c, .int .u16 d]] W (Ret (.string ip) W))
    (f5 : ∀ W (A : Option Addr), Row W W.heap.size A 2 [.string ip, .string pr] → Calls Tryz.prog 36 #[.slice A 2 2] W (Ret (.string p2) W))
    (f6 : ∀ W, Calls Tryz.prog 37 #[.int .u16 v, .string p1, .string p2] W (Ret (.int .u16 n0) W))
    (f7 : ∀ W, Calls Tryz.prog 93 #[.string l, .int .i64 0, .string pr] W (Ret (.string t1) W))
    (f8 : ∀ W, Calls Tryz.prog 40 #[.int .u16 nF] W (Ret (.string pn) W))
    (f9 : ∀ W, Calls Tryz.prog 93 #[.string t1, .int .i64 6, .string pn] W (Ret (.string out) W))
    (hv : v ≠ 0) (hn : n0 = 0) (hF : nF = 65535) :
    Calls Tryz.prog 41 #[.agg #[.int .u32 a, .int .u16 b, .int .u32 c, .int .u16 d], .string l, .string ips, .int .i64 6] w (Ret (.string out) w) := by
  have q1 : (v == 0) = false := by simpa using hv
  have qx : bits .xor .u16 IntKind.u16.max 0 = 65535 := by decide
  clear hv
  subst hF; subst hn
  have i1 : (4 : Int) ≤ (l.size : Int) := by omega
  have F1 := hide f1; have F2 := hide f2; have F3 := hide f3; have F4 := hide f4; have F5 := hide f5; have F6 := hide f6; have F7 := hide f7; have F8 := hide f8; have F9 := hide f9
  clear f1 f2 f3 f4 f5 f6 f7 f8 f9
  go_enter Tryz.func41, Tryz.ntmps41
  have d0 := Cells.new w #[.int .u32 a, .int .u16 b, .int .u32 c, .int .u16 d] 28
  go_wp2_with fail
  (with_reducible refine Calls.mono (F1.out _ _ (Row.freshAt _ _ _ _ _ _ (by simp) rfl rfl)) ?_)
  rintro e w1 ⟨rfl, b1⟩
  have d1 := Cells.up d0 (fresh_below _ _) b1
  replace b1 : Below w.heap.size w w1 := bstep (bstep (fresh_below _ _) (fresh_below _ _)) b1
  clear d0
  go_wp2_with fail
  (with_reducible refine (F2.out _).mono ?_)
  rintro e w2 ⟨rfl, b2⟩
  have d2 := Cells.below b2 d1
  replace b2 : Below w.heap.size w w2 := bstep b1 b2
  clear d1 b1
  go_wp2_with fail
  have SK := hide (fun (zX zY : World) (zh : (Below w.heap.size w zX ∧ zX.cell? ⟨w.heap.size, 0, none⟩ = some (.int .u32 a) ∧ zX.cell? ⟨w.heap.size, 1, none⟩ = some (.int .u16 b) ∧ zX.cell? ⟨w.heap.size, 2, none⟩ = some (.int .u32 c) ∧ zX.cell? ⟨w.heap.size, 3, none⟩ = some (.int .u16 d) ∧ True)) (zb : Below zX.heap.size zX zY) => (show (Below w.heap.size w zY ∧ zY.cell? ⟨w.heap.size, 0, none⟩ = some (.int .u32 a) ∧ zY.cell? ⟨w.heap.size, 1, none⟩ = some (.int .u16 b) ∧ zY.cell? ⟨w.heap.size, 2, none⟩ = some (.int .u32 c) ∧ zY.cell? ⟨w.heap.size, 3, none⟩ = some (.int .u16 d) ∧ True) from ⟨bstep zh.1 zb, cellAt zb zh.2.1, cellAt zb zh.2.2.1, cellAt zb zh.2.2.2.1, cellAt zb zh.2.2.2.2.1, trivial⟩))
  have FS := hide (fun (zX : World) (zh : (Below w.heap.size w zX ∧ zX.cell? ⟨w.heap.size, 0, none⟩ = some (.int .u32 a) ∧ zX.cell? ⟨w.heap.size, 1, none⟩ = some (.int .u16 b) ∧ zX.cell? ⟨w.heap.size, 2, none⟩ = some (.int .u32 c) ∧ zX.cell? ⟨w.heap.size, 3, none⟩ = some (.int .u16 d) ∧ True)) => zh.1)
  have GS := hide (fun (zX : World) (zh : (Below w.heap.size w zX ∧ zX.cell? ⟨w.heap.size, 0, none⟩ = some (.int .u32 a) ∧ zX.cell? ⟨w.heap.size, 1, none⟩ = some (.int .u16 b) ∧ zX.cell? ⟨w.heap.size, 2, none⟩ = some (.int .u32 c) ∧ zX.cell? ⟨w.heap.size, 3, none⟩ = some (.int .u16 d) ∧ True)) => zh)
  have hS0 : (Below w.heap.size w w2 ∧ w2.cell? ⟨w.heap.size, 0, none⟩ = some (.int .u32 a) ∧ w2.cell? ⟨w.heap.size, 1, none⟩ = some (.int .u16 b) ∧ w2.cell? ⟨w.heap.size, 2, none⟩ = some (.int .u32 c) ∧ w2.cell? ⟨w.heap.size, 3, none⟩ = some (.int .u16 d) ∧ True) := ⟨(by (repeat' (first | with_reducible exact b2 | with_reducible exact Below.refl _ _ | with_reducible refine Below.setCell ?_ (by first | exact Nat.le_refl _ | (dsimp only; omega)) _ | with_reducible refine bstep ?_ (fresh_below _ _) | with_reducible refine Below.drew ?_))), d2.at_ 0, d2.at_ 1, d2.at_ 2, d2.at_ 3, trivial⟩
  go_region_held_law (fun w' => (Below w.heap.size w w' ∧ w'.cell? ⟨w.heap.size, 0, none⟩ = some (.int .u32 a) ∧ w'.cell? ⟨w.heap.size, 1, none⟩ = some (.int .u16 b) ∧ w'.cell? ⟨w.heap.size, 2, none⟩ = some (.int .u32 c) ∧ w'.cell? ⟨w.heap.size, 3, none⟩ = some (.int .u16 d) ∧ True)) (first | assumption | exact SK.out _ _ hS0 (Below.refl _ _).drew | exact SK.out _ _ hS0 (fresh_below _ _).drew | exact SK.out _ _ (by assumption) (fresh_below _ _) | (refine SK.out _ _ ?_ (by assumption); assumption))
    (first | (go_at_call 36; (with_reducible refine Calls.mono (F3.out _ _ ?_) ?_); (focus ((repeat' (first | with_reducible refine Row.afterdraw ?_ | with_reducible exact Row.freshAt _ _ _ _ _ _ (by first | (simp; done) | fail) rfl rfl | (with_reducible refine Row.rise ?_ (fresh_below _ _)) | (with_reducible refine Row.rise ?_ (by with_reducible assumption)))); (first | done | fail))); rintro e wq ⟨rfl, bq⟩) | (go_at_call 36; (with_reducible refine Calls.mono (F5.out _ _ ?_) ?_); (focus ((repeat' (first | with_reducible refine Row.afterdraw ?_ | with_reducible exact Row.freshAt _ _ _ _ _ _ (by first | (simp; done) | fail) rfl rfl | (with_reducible refine Row.rise ?_ (fresh_below _ _)) | (with_reducible refine Row.rise ?_ (by with_reducible assumption)))); (first | done | fail))); rintro e wq ⟨rfl, bq⟩) | (go_at_call 39; (with_reducible refine (F4.out _).mono ?_); rintro e wq ⟨rfl, bq⟩) | (go_at_call 37; (with_reducible refine (F6.out _).mono ?_); rintro e wq ⟨rfl, bq⟩))
  all_goals
    have gs := GS.out _ (by assumption)
    have gb : Below w.heap.size w wq := gs.1
    clear SK FS GS hS0 gs
    obtain ⟨w3, rfl⟩ : ∃ W : World, W = wq := ⟨_, rfl⟩
    have b3 := gb
    go_wp2_with fail
    (with_reducible refine (F7.out _).mono ?_)
    rintro e w4 ⟨rfl, b4⟩
    replace b4 : Below w.heap.size w w4 := bstep b3 b4
    go_wp2_with fail
    (with_reducible refine (F8.out _).mono ?_)
    rintro e w5 ⟨rfl, b5⟩
    replace b5 : Below w.heap.size w w5 := bstep b4 b5
    go_wp2_with fail
    (with_reducible refine (F9.out _).mono ?_)
    rintro e w6 ⟨rfl, b6⟩
    replace b6 : Below w.heap.size w w6 := bstep b5 b6
    go_wp2_with fail
    go_ret
    exact ⟨rfl, b6⟩

set_option maxRecDepth 100000 in
set_option maxHeartbeats 4000000 in
theorem rw_flow_u2 (a b c d : Int) (l ips : ByteArray) (v n0 nF : Int) (pr p1 p2 ip t1 pn out : ByteArray) (w : World) (hl : l.size ≤ 140737488351232) (h20 : 8 ≤ l.size) (hpr : pr.size = 4)
    (f1 : ∀ W (A : Option Addr), Row W W.heap.size A 2 (ints16 [b, d]) → Calls Tryz.prog 92 #[.slice A 2 2] W (Ret (.string pr) W))
    (f2 : ∀ W, Calls Tryz.prog 38 #[.string l, .int .i64 6] W (Ret (.int .u16 v) W))
    (f3 : ∀ W (A : Option Addr), Row W W.heap.size A 2 [.string ips, .string (l.extract 0 4)] → Calls Tryz.prog 36 #[.slice A 2 2] W (Ret (.string p1) W))
    (f4 : ∀ W, Calls Tryz.prog 39 #[.agg #[.int .u32 a, .int .u16 b, .int .u32 c, .int .u16 d]] W (Ret (.string ip) W))
    (f5 : ∀ W (A : Option Addr), Row W W.heap.size A 2 [.string ip, .string pr] → Calls Tryz.prog 36 #[.slice A 2 2] W (Ret (.string p2) W))
    (f6 : ∀ W, Calls Tryz.prog 37 #[.int .u16 v, .string p1, .string p2] W (Ret (.int .u16 n0) W))
    (f7 : ∀ W, Calls Tryz.prog 93 #[.string l, .int .i64 0, .string pr] W (Ret (.string t1) W))
    (f8 : ∀ W, Calls Tryz.prog 40 #[.int .u16 nF] W (Ret (.string pn) W))
    (f9 : ∀ W, Calls Tryz.prog 93 #[.string t1, .int .i64 6, .string pn] W (Ret (.string out) W))
    (hv : v ≠ 0) (hn : n0 ≠ 0) (hF : nF = n0) :
    Calls Tryz.prog 41 #[.agg #[.int .u32 a, .int .u16 b, .int .u32 c, .int .u16 d], .string l, .string ips, .int .i64 6] w (Ret (.string out) w) := by
  have q1 : (v == 0) = false := by simpa using hv
  have q2 : (n0 == 0) = false := by simpa using hn
  clear hv hn
  subst hF
  have i1 : (4 : Int) ≤ (l.size : Int) := by omega
  have F1 := hide f1; have F2 := hide f2; have F3 := hide f3; have F4 := hide f4; have F5 := hide f5; have F6 := hide f6; have F7 := hide f7; have F8 := hide f8; have F9 := hide f9
  clear f1 f2 f3 f4 f5 f6 f7 f8 f9
  go_enter Tryz.func41, Tryz.ntmps41
  have d0 := Cells.new w #[.int .u32 a, .int .u16 b, .int .u32 c, .int .u16 d] 28
  go_wp2_with fail
  (with_reducible refine Calls.mono (F1.out _ _ (Row.freshAt _ _ _ _ _ _ (by simp) rfl rfl)) ?_)
  rintro e w1 ⟨rfl, b1⟩
  have d1 := Cells.up d0 (fresh_below _ _) b1
  replace b1 : Below w.heap.size w w1 := bstep (bstep (fresh_below _ _) (fresh_below _ _)) b1
  clear d0
  go_wp2_with fail
  (with_reducible refine (F2.out _).mono ?_)
  rintro e w2 ⟨rfl, b2⟩
  have d2 := Cells.below b2 d1
  replace b2 : Below w.heap.size w w2 := bstep b1 b2
  clear d1 b1
  go_wp2_with fail
  have SK := hide (fun (zX zY : World) (zh : (Below w.heap.size w zX ∧ zX.cell? ⟨w.heap.size, 0, none⟩ = some (.int .u32 a) ∧ zX.cell? ⟨w.heap.size, 1, none⟩ = some (.int .u16 b) ∧ zX.cell? ⟨w.heap.size, 2, none⟩ = some (.int .u32 c) ∧ zX.cell? ⟨w.heap.size, 3, none⟩ = some (.int .u16 d) ∧ True)) (zb : Below zX.heap.size zX zY) => (show (Below w.heap.size w zY ∧ zY.cell? ⟨w.heap.size, 0, none⟩ = some (.int .u32 a) ∧ zY.cell? ⟨w.heap.size, 1, none⟩ = some (.int .u16 b) ∧ zY.cell? ⟨w.heap.size, 2, none⟩ = some (.int .u32 c) ∧ zY.cell? ⟨w.heap.size, 3, none⟩ = some (.int .u16 d) ∧ True) from ⟨bstep zh.1 zb, cellAt zb zh.2.1, cellAt zb zh.2.2.1, cellAt zb zh.2.2.2.1, cellAt zb zh.2.2.2.2.1, trivial⟩))
  have FS := hide (fun (zX : World) (zh : (Below w.heap.size w zX ∧ zX.cell? ⟨w.heap.size, 0, none⟩ = some (.int .u32 a) ∧ zX.cell? ⟨w.heap.size, 1, none⟩ = some (.int .u16 b) ∧ zX.cell? ⟨w.heap.size, 2, none⟩ = some (.int .u32 c) ∧ zX.cell? ⟨w.heap.size, 3, none⟩ = some (.int .u16 d) ∧ True)) => zh.1)
  have GS := hide (fun (zX : World) (zh : (Below w.heap.size w zX ∧ zX.cell? ⟨w.heap.size, 0, none⟩ = some (.int .u32 a) ∧ zX.cell? ⟨w.heap.size, 1, none⟩ = some (.int .u16 b) ∧ zX.cell? ⟨w.heap.size, 2, none⟩ = some (.int .u32 c) ∧ zX.cell? ⟨w.heap.size, 3, none⟩ = some (.int .u16 d) ∧ True)) => zh)
  have hS0 : (Below w.heap.size w w2 ∧ w2.cell? ⟨w.heap.size, 0, none⟩ = some (.int .u32 a) ∧ w2.cell? ⟨w.heap.size, 1, none⟩ = some (.int .u16 b) ∧ w2.cell? ⟨w.heap.size, 2, none⟩ = some (.int .u32 c) ∧ w2.cell? ⟨w.heap.size, 3, none⟩ = some (.int .u16 d) ∧ True) := ⟨(by (repeat' (first | with_reducible exact b2 | with_reducible exact Below.refl _ _ | with_reducible refine Below.setCell ?_ (by first | exact Nat.le_refl _ | (dsimp only; omega)) _ | with_reducible refine bstep ?_ (fresh_below _ _) | with_reducible refine Below.drew ?_))), d2.at_ 0, d2.at_ 1, d2.at_ 2, d2.at_ 3, trivial⟩
  go_region_held_law (fun w' => (Below w.heap.size w w' ∧ w'.cell? ⟨w.heap.size, 0, none⟩ = some (.int .u32 a) ∧ w'.cell? ⟨w.heap.size, 1, none⟩ = some (.int .u16 b) ∧ w'.cell? ⟨w.heap.size, 2, none⟩ = some (.int .u32 c) ∧ w'.cell? ⟨w.heap.size, 3, none⟩ = some (.int .u16 d) ∧ True)) (first | assumption | exact SK.out _ _ hS0 (Below.refl _ _).drew | exact SK.out _ _ hS0 (fresh_below _ _).drew | exact SK.out _ _ (by assumption) (fresh_below _ _) | (refine SK.out _ _ ?_ (by assumption); assumption))
    (first | (go_at_call 36; (with_reducible refine Calls.mono (F3.out _ _ ?_) ?_); (focus ((repeat' (first | with_reducible refine Row.afterdraw ?_ | with_reducible exact Row.freshAt _ _ _ _ _ _ (by first | (simp; done) | fail) rfl rfl | (with_reducible refine Row.rise ?_ (fresh_below _ _)) | (with_reducible refine Row.rise ?_ (by with_reducible assumption)))); (first | done | fail))); rintro e wq ⟨rfl, bq⟩) | (go_at_call 36; (with_reducible refine Calls.mono (F5.out _ _ ?_) ?_); (focus ((repeat' (first | with_reducible refine Row.afterdraw ?_ | with_reducible exact Row.freshAt _ _ _ _ _ _ (by first | (simp; done) | fail) rfl rfl | (with_reducible refine Row.rise ?_ (fresh_below _ _)) | (with_reducible refine Row.rise ?_ (by with_reducible assumption)))); (first | done | fail))); rintro e wq ⟨rfl, bq⟩) | (go_at_call 39; (with_reducible refine (F4.out _).mono ?_); rintro e wq ⟨rfl, bq⟩) | (go_at_call 37; (with_reducible refine (F6.out _).mono ?_); rintro e wq ⟨rfl, bq⟩))
  all_goals
    have gs := GS.out _ (by assumption)
    have gb : Below w.heap.size w wq := gs.1
    clear SK FS GS hS0 gs
    obtain ⟨w3, rfl⟩ : ∃ W : World, W = wq := ⟨_, rfl⟩
    have b3 := gb
    go_wp2_with fail
    (with_reducible refine (F7.out _).mono ?_)
    rintro e w4 ⟨rfl, b4⟩
    replace b4 : Below w.heap.size w w4 := bstep b3 b4
    go_wp2_with fail
    (with_reducible refine (F8.out _).mono ?_)
    rintro e w5 ⟨rfl, b5⟩
    replace b5 : Below w.heap.size w w5 := bstep b4 b5
    go_wp2_with fail
    (with_reducible refine (F9.out _).mono ?_)
    rintro e w6 ⟨rfl, b6⟩
    replace b6 : Below w.heap.size w w6 := bstep b5 b6
    go_wp2_with fail
    go_ret
    exact ⟨rfl, b6⟩

theorem rw_flow (a b c d : Int) (l ips : ByteArray) (k : Nat) (kk : Int) (w : World) (hk : (k = 16 ∧ kk = 16) ∨ (k = 6 ∧ kk = 6)) (ha : 0 ≤ a ∧ a ≤ 4294967295) (hb : 0 ≤ b ∧ b ≤ 65535) (hc : 0 ≤ c ∧ c ≤ 4294967295) (hd : 0 ≤ d ∧ d ≤ 65535) (hl : l.size ≤ 1000000) (h20 : k + 2 ≤ l.size) (hi : ips.size = 8) :
    Calls Tryz.prog 41 #[.agg #[.int .u32 a, .int .u16 b, .int .u32 c, .int .u16 d], .string l, .string ips, .int .i64 kk] w (Ret (.string (S (flowNew (L l) (L ips) a b c d k))) w) := by
  have hbd : ∀ x ∈ [b, d], 0 ≤ x ∧ x ≤ 65535 := by
    intro x hx
    simp only [List.mem_cons, List.not_mem_nil, or_false] at hx
    rcases hx with rfl | rfl <;> assumption
  have hL : k + 2 ≤ (L l).length := by rw [L_length]; exact h20
  have hk4 : 6 ≤ k := by omega
  have hns := flowSum_bd (L l) (L ips) a b c d k
  have hnf := flowFix_bd (k := k) (was := be16 (L l) k) hns
  have hz : (putW [b, d] ++ (L l).drop 4).length = l.size := by rw [List.length_append, List.length_drop, L_length]; show 4 + _ = _; omega
  have z0 : (S (putW [b, d])).size = 4 := rfl
  have f1 := fun W A (hR : Row W W.heap.size A 2 (ints16 [b, d])) => Word A 2 2 [b, d] W hR hbd (by omega)
  have f2 := fun W => rw_word l k W (by unfold maxLen; omega) h20
  have f3 := fun W A (hR : Row W W.heap.size A 2 [.string ips, .string (l.extract 0 4)]) => rw_laid A 2 2 [ips, l.extract 0 4] W hR (by simp [allOf, L_extract, L_length]; omega) (by omega)
  have f4 := fun W => rw_ips a b c d W ha hc
  have f5 := fun W A (hR : Row W W.heap.size A 2 [.string (S (ipsOf a c)), .string (S (putW [b, d]))]) => rw_laid A 2 2 [S (ipsOf a c), S (putW [b, d])] W hR (by simp [allOf, L_S, putW_length, show (ipsOf a c).length = 8 from rfl]) (by omega)
  have e1 : S (allOf [ips, l.extract 0 4]) = S (L ips ++ (L l).take 4) := by unfold allOf; simp [L_to]
  have e2 : S (allOf [S (ipsOf a c), S (putW [b, d])]) = S (ipsOf a c ++ putW [b, d]) := by unfold allOf; simp [L_S]
  rw [e1] at f3
  rw [e2] at f5
  have f6 := fun W => Updates (be16 (L l) k) (S (L ips ++ (L l).take 4)) (S (ipsOf a c ++ putW [b, d])) W (be16_bd _ _) (by rw [S_size, List.length_append, L_length]; simp; omega) (by rw [S_size, List.length_append, putW_length]; show 8 + _ ≤ _; simp)
  rw [L_S, L_S] at f6
  have f7 := fun W => rw_patch l 0 (S (putW [b, d])) W (by omega) (by rw [z0]; omega)
  rw [show (L l).take 0 ++ (L (S (putW [b, d])) ++ (L l).drop (0 + (S (putW [b, d])).size)) = putW [b, d] ++ (L l).drop 4 from by rw [L_S]; rfl, show ((0 : Nat) : Int) = 0 from rfl] at f7
  have f8 := fun W => Put16 (flowFix k (be16 (L l) k) (flowSum (L l) (L ips) a b c d k)) W hnf.1 hnf.2
  have f9 := fun W => rw_patch (S (putW [b, d] ++ (L l).drop 4)) k (S (put16 (flowFix k (be16 (L l) k) (flowSum (L l) (L ips) a b c d k)))) W (by rw [S_size, hz]; omega) (by rw [S_size, S_size, hz, put16_length]; omega)
  have e9 : (L (S (putW [b, d] ++ (L l).drop 4))).take k ++ (L (S (put16 (flowFix k (be16 (L l) k) (flowSum (L l) (L ips) a b c d k)))) ++ (L (S (putW [b, d] ++ (L l).drop 4))).drop (k + (S (put16 (flowFix k (be16 (L l) k) (flowSum (L l) (L ips) a b c d k)))).size)) = flowNew (L l) (L ips) a b c d k := by
    rw [L_S, L_S, ← List.append_assoc]; rfl
  rw [e9] at f9
  rcases hk with ⟨rfl, rfl⟩ | ⟨rfl, rfl⟩
  · rw [show ((16 : Nat) : Int) = 16 from rfl] at f2 f9
    exact rw_flow_t a b c d l ips _ _ _ _ _ _ _ _ _ _ w (by omega) (by omega) z0 f1 f2 f3 f4 f5 f6 f7 f8 f9 (by unfold flowFix; rw [if_neg (by decide)]; rfl)
  · rw [show ((6 : Nat) : Int) = 6 from rfl] at f2 f9
    by_cases hv : be16 (L l) 6 = 0
    · exact rw_flow_u0 a b c d l ips _ _ _ _ _ _ _ _ _ _ w (by omega) (by omega) z0 f1 f2 f3 f4 f5 f6 f7 f8 f9 hv (by unfold flowFix; rw [if_pos rfl, if_pos hv])
    by_cases hn : flowSum (L l) (L ips) a b c d 6 = 0
    · exact rw_flow_u1 a b c d l ips _ _ _ _ _ _ _ _ _ _ w (by omega) (by omega) z0 f1 f2 f3 f4 f5 f6 f7 f8 f9 hv hn (by unfold flowFix; rw [if_pos rfl, if_neg hv, if_pos hn])
    · exact rw_flow_u2 a b c d l ips _ _ _ _ _ _ _ _ _ _ w (by omega) (by omega) z0 f1 f2 f3 f4 f5 f6 f7 f8 f9 hv hn (by unfold flowFix; rw [if_pos rfl, if_neg hv, if_neg hn]; rfl)
end Go.Proofs.YtpidgmamollmgaaGreatDoor
end

section
/- The document's answer for numbers in texts (porterref01) over this program: the same words of the base. Conditions: texts below 2^47 bytes. -/
set_option linter.unusedVariables false
namespace Go.Proofs.YtpidgmamollmgaaGreatDoor
open Go.RowKit

theorem r_there (s : ByteArray) (i many : Int) (w : World) (hs : s.size ≤ maxLen) (h1 : -9223372036854775808 ≤ i ∧ i ≤ 9223372036854775807) (h2 : 0 ≤ many ∧ many ≤ 9223372036854775807) :
    Calls Tryz.prog 123 #[.string s, .int .i64 i, .int .i64 many] w fun e w' => e = .returned (.bool (has s.size i many)) ∧ w = w' := by
  unfold maxLen at hs
  obtain ⟨h1a, h1b⟩ := h1
  obtain ⟨h2a, h2b⟩ := h2
  by_cases ha : 0 ≤ i
  · by_cases hd : i ≤ s.size - many
    · go_enter Tryz.func123, Tryz.ntmps123
      go_wp2
      go_ret
      exact ⟨ret_bool (by simp [has]; omega), rfl⟩
    · go_enter Tryz.func123, Tryz.ntmps123
      go_wp2
      go_ret
      exact ⟨ret_bool (by simp [has]; omega), rfl⟩
  · go_enter Tryz.func123, Tryz.ntmps123
    go_wp2
    go_ret
    exact ⟨ret_bool (by simp [has]; omega), rfl⟩

/-- the number of k bytes from place i on -/
def ben (l : List UInt8) (i : Nat) : Nat → Int
  | 0 => 0
  | k + 1 => ben l i k * 256 + at_ l (i + k)
theorem ben_bd (l : List UInt8) (i k : Nat) (hk : k ≤ 3) : 0 ≤ ben l i k ∧ ben l i k ≤ 16777215 := by
  have b0 := at_bd l (i + 0)
  have b1 := at_bd l (i + 1)
  have b2 := at_bd l (i + 2)
  match k, hk with
  | 0, _ => simp [ben]
  | 1, _ => simp only [ben]; omega
  | 2, _ => simp only [ben]; omega
  | 3, _ => simp only [ben]; omega
theorem ben2 (l : List UInt8) (i : Nat) : ben l i 2 = be16 l i := by simp only [ben, be16, Nat.add_zero]; omega
theorem ben4 (l : List UInt8) (i : Nat) : ben l i 4 = be32 l i := by
  simp only [ben, be32, be16, Nat.add_zero, Nat.add_assoc, Nat.reduceAdd]; omega

set_option maxHeartbeats 400000 in
theorem r_Get_in (s : ByteArray) (i n : Nat) (w : World) (hs : s.size ≤ maxLen) (hn : n ≤ 4) (h : i + n ≤ s.size) :
    Calls Tryz.prog 122 #[.string s, .int .i64 i, .int .i64 n] w fun e w' => e = .returned (.tuple #[.int .u32 (ben (L s) i n), .bool true]) ∧ w = w' := by
  have hs' := hs
  unfold maxLen at hs'
  have hx : has s.size i n = true := by simp [has]; omega
  have hw := r_there s i n w hs ⟨by omega, by omega⟩ ⟨by omega, by omega⟩
  rw [hx] at hw
  clear hx
  go_enter Tryz.func122, Tryz.ntmps122
  go_wp2_with (go_at_call 123; refine hw.mono ?_; rintro e w' ⟨rfl, rfl⟩)
  go_loop [8, 9] (fun v j => ∃ k : Nat, k ≤ n ∧ j = .int .i64 k ∧ v = .int .u32 (ben (L s) i k)) (fun _ j => n - (intOf j).toNat)
  case atStart => exact ⟨0, Nat.zero_le _, rfl, rfl⟩
  case round =>
    obtain ⟨k, hk, rfl, rfl⟩ := hrel
    by_cases hlt : k < n
    · obtain ⟨b1, b2⟩ := ben_bd (L s) i k (by omega)
      have b3 := at_bd (L s) (i + k)
      have e1 := getElem_L s (i + k) (by omega)
      have fin : ben (L s) i (k + 1) = ben (L s) i k * 256 + ((s[i + k]'(by omega)).toNat : Int) := by
        rw [e1]; rfl
      have HF := hide fin
      clear fin e1
      have c0 : (((s[i + k]'(by omega)).toNat : Nat) : Int) ≤ 255 := by have := (s[i + k]'(by omega)).toNat_lt; omega
      have c1 : i + k < s.size := by omega
      have c2 : (i : Int) + (k : Int) < (s.size : Int) := by omega
      go_wp2
      go_round
      case rel => exact ⟨k + 1, by omega, by go_num, by rw [HF.out]⟩
      case measure => simp [intOf]; omega
    · obtain rfl : k = n := by omega
      go_wp2
      go_ret2
      exact ⟨rfl, rfl⟩

theorem r_Get_out (s : ByteArray) (i n : Int) (w : World) (hs : s.size ≤ maxLen) (h1 : -9223372036854775808 ≤ i ∧ i ≤ 9223372036854775807) (h2 : 0 ≤ n ∧ n ≤ 9223372036854775807) (h : has s.size i n = false) :
    Calls Tryz.prog 122 #[.string s, .int .i64 i, .int .i64 n] w fun e w' => e = .returned (.tuple #[.int .u32 0, .bool false]) ∧ w = w' := by
  have hw := r_there s i n w hs h1 h2
  rw [h] at hw
  clear h
  go_enter Tryz.func122, Tryz.ntmps122
  go_wp2_with (go_at_call 123; refine hw.mono ?_; rintro e w' ⟨rfl, rfl⟩)
  go_ret2
  exact ⟨rfl, rfl⟩

theorem r_Get32 (s : ByteArray) (i : Int) (w : World) (hs : s.size ≤ maxLen) (h1 : -9223372036854775808 ≤ i ∧ i ≤ 9223372036854775807) :
    Calls Tryz.prog 98 #[.string s, .int .i64 i] w (Ret (.tuple #[.int .u32 (get32 (L s) i), .bool (has s.size i 4)]) w) := by
  by_cases h : has s.size i 4 = true
  · have h' := h
    simp [has] at h'
    obtain ⟨k, rfl⟩ : ∃ k : Nat, i = k := ⟨i.toNat, by omega⟩
    have h2 : k + 4 ≤ (L s).length := by rw [L_length]; omega
    rw [get32_nat h2, h, ← ben4]
    clear h
    go_enter Tryz.func98, Tryz.ntmps98
    go_wp2_with fail
    refine (r_Get_in s k 4 _ hs (by omega) (by omega)).mono ?_
    rintro e w1 ⟨rfl, rfl⟩
    go_wp2_with fail
    go_ret2
    exact ⟨rfl, Below.refl _ _⟩
  · have h' : has s.size i 4 = false := by simpa using h
    have hg : get32 (L s) i = 0 := by unfold get32; rw [L_length, if_neg h]
    rw [hg, h']
    have hc := r_Get_out s i 4 w hs h1 ⟨by omega, by omega⟩ h'
    clear h h' hg
    go_enter Tryz.func98, Tryz.ntmps98
    go_wp2_with fail
    refine hc.mono ?_
    rintro e w1 ⟨rfl, rfl⟩
    go_wp2_with fail
    go_ret2
    exact ⟨rfl, Below.refl _ _⟩

theorem r_Get16 (s : ByteArray) (i : Int) (w : World) (hs : s.size ≤ maxLen) (h1 : -9223372036854775808 ≤ i ∧ i ≤ 9223372036854775807) :
    Calls Tryz.prog 97 #[.string s, .int .i64 i] w (Ret (.tuple #[.int .u16 (get16 (L s) i), .bool (has s.size i 2)]) w) := by
  by_cases h : has s.size i 2 = true
  · have h' := h
    simp [has] at h'
    obtain ⟨k, rfl⟩ : ∃ k : Nat, i = k := ⟨i.toNat, by omega⟩
    have h2 : k + 2 ≤ (L s).length := by rw [L_length]; omega
    obtain ⟨b1, b2⟩ := be16_bd (L s) k
    rw [get16_nat h2, h, ← ben2]
    rw [← ben2] at b1 b2
    clear h
    go_enter Tryz.func97, Tryz.ntmps97
    go_wp2_with fail
    refine (r_Get_in s k 2 _ hs (by omega) (by omega)).mono ?_
    rintro e w1 ⟨rfl, rfl⟩
    go_wp2_with fail
    go_ret2
    exact ⟨rfl, Below.refl _ _⟩
  · have h' : has s.size i 2 = false := by simpa using h
    have hg : get16 (L s) i = 0 := by unfold get16; rw [L_length, if_neg h]
    rw [hg, h']
    have hc := r_Get_out s i 2 w hs h1 ⟨by omega, by omega⟩ h'
    clear h h' hg
    go_enter Tryz.func97, Tryz.ntmps97
    go_wp2_with fail
    refine hc.mono ?_
    rintro e w1 ⟨rfl, rfl⟩
    go_wp2_with fail
    go_ret2
    exact ⟨rfl, Below.refl _ _⟩

/-- string(b), b a new row of two bytes -/
theorem conv2 (c d : Int) (w : World) : (convert 86 9 (.slice (some ⟨w.heap.size, 0, none⟩) 2 2)).run Tryz.prog (w.alloc (.cells #[.int .u8 c, .int .u8 d] 5)) =
    .ok (.string (S [byt c, byt d])) (w.alloc (.cells #[.int .u8 c, .int .u8 d] 5)) :=
  run_convert_bytes_arg (P := Tryz.prog) (w.alloc (.cells #[.int .u8 c, .int .u8 d] 5)) 86 5 Tryz.underlying86 Tryz.underlying5 w.heap.size 0 2 2 [c, d] rfl
    (fun i hi => by
      rw [Lib.cell_of_heap (heap_alloc_new w _)]
      match i, hi with
      | 0, _ => rfl
      | 1, _ => rfl) 9 Tryz.underlying9
theorem conv1 (c : Int) (w : World) : (convert 86 9 (.slice (some ⟨w.heap.size, 0, none⟩) 1 1)).run Tryz.prog (w.alloc (.cells #[.int .u8 c] 5)) =
    .ok (.string (S [byt c])) (w.alloc (.cells #[.int .u8 c] 5)) :=
  run_convert_bytes_arg (P := Tryz.prog) (w.alloc (.cells #[.int .u8 c] 5)) 86 5 Tryz.underlying86 Tryz.underlying5 w.heap.size 0 1 1 [c] rfl
    (fun i hi => by
      rw [Lib.cell_of_heap (heap_alloc_new w _)]
      match i, hi with
      | 0, _ => rfl) 9 Tryz.underlying9

theorem byt_mod (n : Int) (h : 0 ≤ n) : byt (n % 256) = byt n := by
  apply UInt8.toNat_inj.1
  rw [byt_toNat, byt_toNat]; omega

theorem r_Put16 (n : Int) (w : World) (h0 : 0 ≤ n) (h1 : n ≤ 65535) :
    Calls Tryz.prog 56 #[.int .u16 n] w (Ret (.string (S (put16 n))) w) := by
  have q1 : n.tdiv 256 = n / 256 := Int.tdiv_eq_ediv_of_nonneg h0
  have q2 : IntKind.u16.wrap (n / 256) = n / 256 := by rw [IntKind.wrap_u16]; omega
  have q3 : n / 256 % 256 = n / 256 := by omega
  have hc := conv2 (n / 256) (n % 256)
  go_enter Tryz.func56, Tryz.ntmps56
  go_wp2
  go_ret
  exact ⟨ret_str (by rw [byt_mod n h0]; rfl), fresh_below _ _⟩

theorem r_Put32 (n : Int) (w : World) (h0 : 0 ≤ n) (h1 : n ≤ 4294967295) :
    Calls Tryz.prog 100 #[.int .u32 n] w (Ret (.string (S (put32 n))) w) := by
  have q1 : n.tdiv 65536 = n / 65536 := Int.tdiv_eq_ediv_of_nonneg h0
  have q2 : IntKind.u32.wrap (n / 65536) = n / 65536 := by rw [IntKind.wrap_u32']; omega
  have q3 : IntKind.u16.wrap (n / 65536) = n / 65536 := by rw [IntKind.wrap_u16]; omega
  have q4 : IntKind.u16.wrap (n % 65536) = n % 65536 := by rw [IntKind.wrap_u16]; omega
  go_enter Tryz.func100, Tryz.ntmps100
  go_wp2_with fail
  refine (r_Put16 _ _ (by omega) (by omega)).mono ?_
  rintro e w1 ⟨rfl, hb1⟩
  go_wp2_with fail
  refine (r_Put16 _ _ (by omega) (by omega)).mono ?_
  rintro e w2 ⟨rfl, hb2⟩
  have hb2 := bstep hb1 hb2
  go_wp2_with fail
  go_ret
  exact ⟨ret_str (by rw [S_append]; rfl), hb2⟩

set_option maxHeartbeats 400000 in
theorem r_Word (A : Option Addr) (n c : Nat) (l : List Int) (w : World) (hr : Row w w.heap.size A n (ints16 l)) (hb : ∀ x ∈ l, 0 ≤ x ∧ x ≤ 65535) (hn : n ≤ 17592186044416) :
    Calls Tryz.prog 57 #[.slice A n c] w (Ret (.string (S (putW l))) w) := by
  have hl : l.length = n := by simpa [ints16] using hr.1
  have HB := hide hb
  have HL := hide hl
  clear hb hl
  have hn1 : n ≤ 9223372036854775807 := by omega
  go_enter Tryz.func57, Tryz.ntmps57
  go_wp2
  go_loopw [3, 4] (fun v i wr => ∃ k : Nat, k ≤ n ∧ i = .int .i64 k ∧ v = .string (S (putW (l.take k))) ∧ Below w.heap.size w wr) (fun _ i _ => n - (intOf i).toNat)
  case atStart => exact ⟨0, Nat.zero_le _, rfl, rfl, Below.refl _ _⟩
  case round =>
    obtain ⟨k, hk, rfl, rfl, hbl⟩ := hrel
    by_cases hlt : k < n
    · obtain ⟨b, o, rfl, hbo, hc⟩ := hr.at_ (by omega)
      have hcell : wr.cell? ⟨b, o + k, none⟩ = some (.int .u16 (l.getD k 0)) := (hbl.cell (p := ⟨b, o + k, none⟩) hbo).trans (hc k _ (ints16_at (by rw [HL.out]; exact hlt)))
      obtain ⟨x, hx⟩ : ∃ x, x = l.getD k 0 := ⟨_, rfl⟩
      rw [← hx] at hcell
      have hxb : 0 ≤ x ∧ x ≤ 65535 := by rw [hx]; exact HB.out _ (getD_mem (by rw [HL.out]; exact hlt))
      obtain ⟨hx0, hx1⟩ := hxb
      have HX := hide hx
      clear hx hc
      go_wp2_with fail
      refine (r_Put16 _ _ (by omega) (by omega)).mono ?_
      rintro e w1 ⟨rfl, hb1⟩
      have hb1 := bstep hbl hb1
      have z1 : (S (putW (l.take k))).size ≤ 35184372088832 := by rw [S_size, putW_length, List.length_take]; omega
      have z2 : (S (put16 x)).size ≤ 2 := by rw [S_size, put16_length]; omega
      go_wp2_with fail
      go_roundw
      case rel => exact ⟨k + 1, by omega, by go_num, v_str (by rw [S_append, take_snoc_int l k (by rw [HL.out]; exact hlt), putW_append, ← HX.out]; simp [putW]), hb1⟩
      case measure => simp [intOf]; omega
    · obtain rfl : k = n := by omega
      have e1 : l.take k = l := List.take_of_length_le (by rw [HL.out]; exact Nat.le_refl _)
      have E1 := hide e1
      clear e1
      go_wp2_with fail
      go_ret
      exact ⟨ret_str (by rw [E1.out]), hbl⟩

theorem r_With (s : ByteArray) (i : Int) (p : ByteArray) (w : World) (hs : s.size ≤ 140737488351232) (hp : p.size ≤ 140737488351232) (h1 : -9223372036854775808 ≤ i ∧ i ≤ 9223372036854775807) :
    Calls Tryz.prog 99 #[.string s, .int .i64 i, .string p] w (Ret (.tuple #[.string (S (putAt (L s) i (L p))), .bool (has s.size i p.size)]) w) := by
  have hw := r_there s i p.size w (by unfold maxLen; omega) h1 ⟨by omega, by omega⟩
  by_cases h : has s.size i p.size = true
  · have h' := h
    simp [has] at h'
    obtain ⟨k, rfl⟩ : ∃ k : Nat, i = k := ⟨i.toNat, by omega⟩
    have hg : putAt (L s) k (L p) = (L s).take k ++ (L p ++ (L s).drop (k + p.size)) := by unfold putAt; rw [L_length, L_length, if_pos h]; rfl
    rw [hg, h]
    rw [h] at hw
    have k1 : (k : Int) ≤ (s.size : Int) := by omega
    have k2 : (k : Int) + (p.size : Int) ≤ (s.size : Int) := by omega
    have k3 : k ≤ s.size := by omega
    have k4 : IntKind.i64.wrap ((k : Int) + (p.size : Int)) = (k : Int) + (p.size : Int) := IntWalk.i64_in _ (by omega)
    have k5 : ((k : Int) + (p.size : Int)).toNat = k + p.size := by omega
    have k6 : (0 : Int) ≤ (k : Int) + (p.size : Int) := by omega
    clear h hg h'
    go_enter Tryz.func99, Tryz.ntmps99
    go_wp2_with (go_at_call 123; refine hw.mono ?_; rintro e w' ⟨rfl, rfl⟩)
    go_quiet (fail)
    go_wp2
    go_ret2
    refine ⟨ret_two (v_str (eq_S ?_)) rfl, below_drewN (Below.refl _ _) _⟩
    rw [L_append, L_append, L_to, L_from, List.append_assoc]
  · have h' : has s.size i p.size = false := by simpa using h
    have hg : putAt (L s) i (L p) = [] := by unfold putAt; rw [L_length, L_length, if_neg h]
    rw [hg, h']
    rw [h'] at hw
    clear h h' hg
    go_enter Tryz.func99, Tryz.ntmps99
    go_wp2_with (go_at_call 123; refine hw.mono ?_; rintro e w' ⟨rfl, rfl⟩)
    go_ret2
    exact ⟨rfl, Below.refl _ _⟩
end Go.Proofs.YtpidgmamollmgaaGreatDoor
end
