/- Several texts of this claim, one behind the other. -/
import Derived.Test.YtjeaknipmdfkdaaGreatDoorK2
import Derived.Test.YtjeaknipmdfkdaaGreatDoorK17
import Derived.Test.YtjeaknipmdfkdaaGreatDoorK5
import Derived.Test.YtjeaknipmdfkdaaGreatDoorK3
import Derived.Laws.IdiomCopy
import Derived.Deep.MidRow

section
/- rewrite.Apply over this program. -/
set_option linter.unusedVariables false
set_option linter.unusedSimpArgs false
namespace Go.Proofs.YtjeaknipmdfkdaaGreatDoor
open Go.RowKit
attribute [local go_sem] Oper.semAt_some

/-- why a packet is not changed -/
def rwWhy (s : ByteArray) : Int := if seenWhy s ≠ 0 then seenWhy s else if (seenOf s).l < 2 then 8 else 0
/-- a packet, changed -/
def rwNew (s : ByteArray) (a b c d : Int) : List UInt8 := headNew ((L s).take (ipOwn (L s)).toNat) a c ++ loadNew (seenOf s) (L (ipRest s)) (((L s).drop 12).take 8) a b c d
def rwOut (s : ByteArray) (a b c d : Int) : ByteArray := if rwWhy s = 0 then S (rwNew s a b c d) else { data := #[] }

set_option maxRecDepth 100000 in
set_option maxHeartbeats 1000000 in
theorem rw_Apply_bad (a b c d : Int) (x0 x1 x2 x3 x4 x5 x6 x8 : Int) (x7 : Bool) (s : ByteArray) (r : Int) (w : World) (K0 : Kinds w) (hr : r ≠ 0)
    (c1 : ∀ W, Kinds W → Calls Tryz.prog 19 #[.string s] W (Ret (.tuple #[.agg #[.int .u8 x0, .int .u32 x1, .int .u16 x2, .int .u32 x3, .int .u16 x4, .int .i64 x5, .int .u8 x6, .bool x7, .int .u8 x8], .int .i64 r]) W)) :
    Calls Tryz.prog 15 #[.string s, .agg #[.int .u32 a, .int .u16 b, .int .u32 c, .int .u16 d]] w (Ret (.tuple #[.string { data := #[] }, .int .i64 r]) w) := by
  have q1 : (r != 0) = true := by simpa using hr
  have q2 : (r == 0) = false := by simpa using hr
  have C1 := hide c1; have KK := hide K0
  clear c1 hr K0
  go_enter Tryz.func15, Tryz.ntmps15
  go_wp2_with fail
  (with_reducible refine (C1.out _ (KK.out.below (fresh_below _ _))).mono ?_)
  rintro e w1 ⟨rfl, b1⟩
  replace b1 : Below w.heap.size w w1 := bstep (fresh_below _ _) b1
  go_wp2_with fail
  go_ret2
  exact ⟨rfl, bstep b1 (fresh_below _ _)⟩
set_option maxRecDepth 100000 in
set_option maxHeartbeats 1000000 in
theorem rw_Apply_ttl (a b c d : Int) (x0 x1 x2 x3 x4 x5 x6 x8 : Int) (x7 : Bool) (s : ByteArray) (w : World) (K0 : Kinds w) (hr : x8 < 2)
    (c1 : ∀ W, Kinds W → Calls Tryz.prog 19 #[.string s] W (Ret (.tuple #[.agg #[.int .u8 x0, .int .u32 x1, .int .u16 x2, .int .u32 x3, .int .u16 x4, .int .i64 x5, .int .u8 x6, .bool x7, .int .u8 x8], .int .i64 0]) W)) :
    Calls Tryz.prog 15 #[.string s, .agg #[.int .u32 a, .int .u16 b, .int .u32 c, .int .u16 d]] w (Ret (.tuple #[.string { data := #[] }, .int .i64 8]) w) := by
  have C1 := hide c1; have KK := hide K0
  clear c1 K0
  go_enter Tryz.func15, Tryz.ntmps15
  go_wp2_with fail
  (with_reducible refine (C1.out _ (KK.out.below (fresh_below _ _))).mono ?_)
  rintro e w1 ⟨rfl, b1⟩
  have e1 := Cells.new w1 #[.int .u8 x0, .int .u32 x1, .int .u16 x2, .int .u32 x3, .int .u16 x4, .int .i64 x5, .int .u8 x6, .bool x7, .int .u8 x8] 58
  obtain ⟨xe1_0, xe1_1, xe1_2, xe1_3, xe1_4, xe1_5, xe1_6, xe1_7, xe1_8⟩ := e1.x9
  replace b1 : Below w.heap.size w w1 := bstep (fresh_below _ _) b1
  go_wp2_with fail
  go_ret2
  exact ⟨rfl, bstep b1 (fresh_below _ _)⟩
set_option maxRecDepth 100000 in
set_option maxHeartbeats 4000000 in
theorem rw_Apply_good (a b c d : Int) (x0 x1 x2 x3 x4 x5 x6 x8 : Int) (x7 : Bool) (h0 h1 h3 h4 h5 h6 : Int) (h2 : Bool) (o l : ByteArray) (s t1 t2 : ByteArray) (w : World) (K0 : Kinds w) (hr : ¬ x8 < 2) (hs : s.size ≤ 140737488351232) (ho : 20 + o.size ≤ s.size) (hz : t1.size + t2.size ≤ 1000000)
    (c1 : ∀ W, Kinds W → Calls Tryz.prog 19 #[.string s] W (Ret (.tuple #[.agg #[.int .u8 x0, .int .u32 x1, .int .u16 x2, .int .u32 x3, .int .u16 x4, .int .i64 x5, .int .u8 x6, .bool x7, .int .u8 x8], .int .i64 0]) W))
    (c2 : ∀ W, Calls Tryz.prog 22 #[.string s] W (Ret (.tuple #[.agg #[.int .u8 h0, .int .u16 h1, .bool h2, .int .u8 h3, .int .u8 h4, .int .u32 h5, .int .u32 h6, .string o], .string l, .int .i64 0]) W))
    (c3 : ∀ W, Calls Tryz.prog 42 #[.agg #[.int .u32 a, .int .u16 b, .int .u32 c, .int .u16 d], .string (s.extract 0 (20 + o.size))] W (Ret (.string t1) W))
    (c4 : ∀ W, Calls Tryz.prog 43 #[.agg #[.int .u32 a, .int .u16 b, .int .u32 c, .int .u16 d], .agg #[.int .u8 x0, .int .u32 x1, .int .u16 x2, .int .u32 x3, .int .u16 x4, .int .i64 x5, .int .u8 x6, .bool x7, .int .u8 x8], .string l, .string (s.extract 12 20)] W (Ret (.string t2) W)) :
    Calls Tryz.prog 15 #[.string s, .agg #[.int .u32 a, .int .u16 b, .int .u32 c, .int .u16 d]] w (Ret (.tuple #[.string (t1 ++ t2), .int .i64 0]) w) := by
  have i1 : (20 : Int) + (o.size : Int) ≤ (s.size : Int) := by omega
  have i2 : (20 : Int) ≤ (s.size : Int) := by omega
  have i3 : (t1 ++ t2).size ≤ 1000000 := by rw [ByteArray.size_append]; exact hz
  have i4 : (0 : Int) ≤ 20 + (o.size : Int) := by omega
  have kw : IntKind.i64.wrap (20 + (o.size : Int)) = 20 + (o.size : Int) := IntWalk.i64_in _ (by omega)
  have i6 : ((20 : Int) + (o.size : Int)).toNat = 20 + o.size := by omega
  have C1 := hide c1; have KK := hide K0; have C2 := hide c2; have C3 := hide c3; have C4 := hide c4
  clear c1 K0 c2 c3 c4
  go_enter Tryz.func15, Tryz.ntmps15
  have d0 := Cells.new w #[.int .u32 a, .int .u16 b, .int .u32 c, .int .u16 d] 28
  go_wp2_with fail
  (with_reducible refine (C1.out _ (KK.out.below (fresh_below _ _))).mono ?_)
  rintro e w1 ⟨rfl, b1⟩
  have d1 := Cells.alloc (Cells.below b1 d0) (.cells #[.int .u8 x0, .int .u32 x1, .int .u16 x2, .int .u32 x3, .int .u16 x4, .int .i64 x5, .int .u8 x6, .bool x7, .int .u8 x8] 58)
  have e1 := Cells.new w1 #[.int .u8 x0, .int .u32 x1, .int .u16 x2, .int .u32 x3, .int .u16 x4, .int .i64 x5, .int .u8 x6, .bool x7, .int .u8 x8] 58
  obtain ⟨xe1_0, xe1_1, xe1_2, xe1_3, xe1_4, xe1_5, xe1_6, xe1_7, xe1_8⟩ := e1.x9
  replace b1 : Below w.heap.size w (w1.alloc (.cells #[.int .u8 x0, .int .u32 x1, .int .u16 x2, .int .u32 x3, .int .u16 x4, .int .i64 x5, .int .u8 x6, .bool x7, .int .u8 x8] 58)) := bstep (bstep (fresh_below _ _) b1) (fresh_below _ _)
  go_wp2_with fail
  (with_reducible refine (C2.out _).mono ?_)
  rintro e w2 ⟨rfl, b2⟩
  have d2 := Cells.alloc (Cells.below b2 d1) (.cells #[.int .u8 h0, .int .u16 h1, .bool h2, .int .u8 h3, .int .u8 h4, .int .u32 h5, .int .u32 h6, .string o] 65)
  have e2 := Cells.alloc (Cells.below b2 e1) (.cells #[.int .u8 h0, .int .u16 h1, .bool h2, .int .u8 h3, .int .u8 h4, .int .u32 h5, .int .u32 h6, .string o] 65)
  have f2 := Cells.new w2 #[.int .u8 h0, .int .u16 h1, .bool h2, .int .u8 h3, .int .u8 h4, .int .u32 h5, .int .u32 h6, .string o] 65
  replace b2 : Below w.heap.size w (w2.alloc (.cells #[.int .u8 h0, .int .u16 h1, .bool h2, .int .u8 h3, .int .u8 h4, .int .u32 h5, .int .u32 h6, .string o] 65)) := bstep (bstep b1 b2) (fresh_below _ _)
  clear d0 d1 e1 b1 xe1_0 xe1_1 xe1_2 xe1_3 xe1_4 xe1_5 xe1_6 xe1_7 xe1_8
  have D2 := hide d2; have E2 := hide e2; have F2 := hide f2; have B2 := hide b2
  clear d2 e2 f2 b2
  go_wp2_with fail
  have d2 := D2.out; have e2 := E2.out; have f2 := F2.out; have b2 := B2.out
  clear D2 E2 F2 B2
  generalize (w2.alloc (.cells #[.int .u8 h0, .int .u16 h1, .bool h2, .int .u8 h3, .int .u8 h4, .int .u32 h5, .int .u32 h6, .string o] 65)) = w3 at *
  have SK := hide (fun (zX zY : World) (zh : (Below w.heap.size w zX ∧ zX.cell? ⟨w.heap.size, 0, none⟩ = some (.int .u32 a) ∧ zX.cell? ⟨w.heap.size, 1, none⟩ = some (.int .u16 b) ∧ zX.cell? ⟨w.heap.size, 2, none⟩ = some (.int .u32 c) ∧ zX.cell? ⟨w.heap.size, 3, none⟩ = some (.int .u16 d) ∧ zX.cell? ⟨w1.heap.size, 0, none⟩ = some (.int .u8 x0) ∧ zX.cell? ⟨w1.heap.size, 1, none⟩ = some (.int .u32 x1) ∧ zX.cell? ⟨w1.heap.size, 2, none⟩ = some (.int .u16 x2) ∧ zX.cell? ⟨w1.heap.size, 3, none⟩ = some (.int .u32 x3) ∧ zX.cell? ⟨w1.heap.size, 4, none⟩ = some (.int .u16 x4) ∧ zX.cell? ⟨w1.heap.size, 5, none⟩ = some (.int .i64 x5) ∧ zX.cell? ⟨w1.heap.size, 6, none⟩ = some (.int .u8 x6) ∧ zX.cell? ⟨w1.heap.size, 7, none⟩ = some (.bool x7) ∧ zX.cell? ⟨w1.heap.size, 8, none⟩ = some (.int .u8 x8) ∧ zX.cell? ⟨w2.heap.size, 7, none⟩ = some (.string o) ∧ True)) (zb : Below zX.heap.size zX zY) => (show (Below w.heap.size w zY ∧ zY.cell? ⟨w.heap.size, 0, none⟩ = some (.int .u32 a) ∧ zY.cell? ⟨w.heap.size, 1, none⟩ = some (.int .u16 b) ∧ zY.cell? ⟨w.heap.size, 2, none⟩ = some (.int .u32 c) ∧ zY.cell? ⟨w.heap.size, 3, none⟩ = some (.int .u16 d) ∧ zY.cell? ⟨w1.heap.size, 0, none⟩ = some (.int .u8 x0) ∧ zY.cell? ⟨w1.heap.size, 1, none⟩ = some (.int .u32 x1) ∧ zY.cell? ⟨w1.heap.size, 2, none⟩ = some (.int .u16 x2) ∧ zY.cell? ⟨w1.heap.size, 3, none⟩ = some (.int .u32 x3) ∧ zY.cell? ⟨w1.heap.size, 4, none⟩ = some (.int .u16 x4) ∧ zY.cell? ⟨w1.heap.size, 5, none⟩ = some (.int .i64 x5) ∧ zY.cell? ⟨w1.heap.size, 6, none⟩ = some (.int .u8 x6) ∧ zY.cell? ⟨w1.heap.size, 7, none⟩ = some (.bool x7) ∧ zY.cell? ⟨w1.heap.size, 8, none⟩ = some (.int .u8 x8) ∧ zY.cell? ⟨w2.heap.size, 7, none⟩ = some (.string o) ∧ True) from ⟨bstep zh.1 zb, cellAt zb zh.2.1, cellAt zb zh.2.2.1, cellAt zb zh.2.2.2.1, cellAt zb zh.2.2.2.2.1, cellAt zb zh.2.2.2.2.2.1, cellAt zb zh.2.2.2.2.2.2.1, cellAt zb zh.2.2.2.2.2.2.2.1, cellAt zb zh.2.2.2.2.2.2.2.2.1, cellAt zb zh.2.2.2.2.2.2.2.2.2.1, cellAt zb zh.2.2.2.2.2.2.2.2.2.2.1, cellAt zb zh.2.2.2.2.2.2.2.2.2.2.2.1, cellAt zb zh.2.2.2.2.2.2.2.2.2.2.2.2.1, cellAt zb zh.2.2.2.2.2.2.2.2.2.2.2.2.2.1, cellAt zb zh.2.2.2.2.2.2.2.2.2.2.2.2.2.2.1, trivial⟩))
  have FS := hide (fun (zX : World) (zh : (Below w.heap.size w zX ∧ zX.cell? ⟨w.heap.size, 0, none⟩ = some (.int .u32 a) ∧ zX.cell? ⟨w.heap.size, 1, none⟩ = some (.int .u16 b) ∧ zX.cell? ⟨w.heap.size, 2, none⟩ = some (.int .u32 c) ∧ zX.cell? ⟨w.heap.size, 3, none⟩ = some (.int .u16 d) ∧ zX.cell? ⟨w1.heap.size, 0, none⟩ = some (.int .u8 x0) ∧ zX.cell? ⟨w1.heap.size, 1, none⟩ = some (.int .u32 x1) ∧ zX.cell? ⟨w1.heap.size, 2, none⟩ = some (.int .u16 x2) ∧ zX.cell? ⟨w1.heap.size, 3, none⟩ = some (.int .u32 x3) ∧ zX.cell? ⟨w1.heap.size, 4, none⟩ = some (.int .u16 x4) ∧ zX.cell? ⟨w1.heap.size, 5, none⟩ = some (.int .i64 x5) ∧ zX.cell? ⟨w1.heap.size, 6, none⟩ = some (.int .u8 x6) ∧ zX.cell? ⟨w1.heap.size, 7, none⟩ = some (.bool x7) ∧ zX.cell? ⟨w1.heap.size, 8, none⟩ = some (.int .u8 x8) ∧ zX.cell? ⟨w2.heap.size, 7, none⟩ = some (.string o) ∧ True)) => zh.1)
  have GS := hide (fun (zX : World) (zh : (Below w.heap.size w zX ∧ zX.cell? ⟨w.heap.size, 0, none⟩ = some (.int .u32 a) ∧ zX.cell? ⟨w.heap.size, 1, none⟩ = some (.int .u16 b) ∧ zX.cell? ⟨w.heap.size, 2, none⟩ = some (.int .u32 c) ∧ zX.cell? ⟨w.heap.size, 3, none⟩ = some (.int .u16 d) ∧ zX.cell? ⟨w1.heap.size, 0, none⟩ = some (.int .u8 x0) ∧ zX.cell? ⟨w1.heap.size, 1, none⟩ = some (.int .u32 x1) ∧ zX.cell? ⟨w1.heap.size, 2, none⟩ = some (.int .u16 x2) ∧ zX.cell? ⟨w1.heap.size, 3, none⟩ = some (.int .u32 x3) ∧ zX.cell? ⟨w1.heap.size, 4, none⟩ = some (.int .u16 x4) ∧ zX.cell? ⟨w1.heap.size, 5, none⟩ = some (.int .i64 x5) ∧ zX.cell? ⟨w1.heap.size, 6, none⟩ = some (.int .u8 x6) ∧ zX.cell? ⟨w1.heap.size, 7, none⟩ = some (.bool x7) ∧ zX.cell? ⟨w1.heap.size, 8, none⟩ = some (.int .u8 x8) ∧ zX.cell? ⟨w2.heap.size, 7, none⟩ = some (.string o) ∧ True)) => zh)
  have hS0 : (Below w.heap.size w w3 ∧ w3.cell? ⟨w.heap.size, 0, none⟩ = some (.int .u32 a) ∧ w3.cell? ⟨w.heap.size, 1, none⟩ = some (.int .u16 b) ∧ w3.cell? ⟨w.heap.size, 2, none⟩ = some (.int .u32 c) ∧ w3.cell? ⟨w.heap.size, 3, none⟩ = some (.int .u16 d) ∧ w3.cell? ⟨w1.heap.size, 0, none⟩ = some (.int .u8 x0) ∧ w3.cell? ⟨w1.heap.size, 1, none⟩ = some (.int .u32 x1) ∧ w3.cell? ⟨w1.heap.size, 2, none⟩ = some (.int .u16 x2) ∧ w3.cell? ⟨w1.heap.size, 3, none⟩ = some (.int .u32 x3) ∧ w3.cell? ⟨w1.heap.size, 4, none⟩ = some (.int .u16 x4) ∧ w3.cell? ⟨w1.heap.size, 5, none⟩ = some (.int .i64 x5) ∧ w3.cell? ⟨w1.heap.size, 6, none⟩ = some (.int .u8 x6) ∧ w3.cell? ⟨w1.heap.size, 7, none⟩ = some (.bool x7) ∧ w3.cell? ⟨w1.heap.size, 8, none⟩ = some (.int .u8 x8) ∧ w3.cell? ⟨w2.heap.size, 7, none⟩ = some (.string o) ∧ True) := ⟨(by (repeat' (first | with_reducible exact b2 | with_reducible exact Below.refl _ _ | with_reducible refine Below.setCell ?_ (by first | exact Nat.le_refl _ | (dsimp only; omega)) _ | with_reducible refine bstep ?_ (fresh_below _ _) | with_reducible refine Below.drew ?_))), d2.at_ 0, d2.at_ 1, d2.at_ 2, d2.at_ 3, e2.at_ 0, e2.at_ 1, e2.at_ 2, e2.at_ 3, e2.at_ 4, e2.at_ 5, e2.at_ 6, e2.at_ 7, e2.at_ 8, f2.at_ 7, trivial⟩
  go_region_held_law (fun w' => (Below w.heap.size w w' ∧ w'.cell? ⟨w.heap.size, 0, none⟩ = some (.int .u32 a) ∧ w'.cell? ⟨w.heap.size, 1, none⟩ = some (.int .u16 b) ∧ w'.cell? ⟨w.heap.size, 2, none⟩ = some (.int .u32 c) ∧ w'.cell? ⟨w.heap.size, 3, none⟩ = some (.int .u16 d) ∧ w'.cell? ⟨w1.heap.size, 0, none⟩ = some (.int .u8 x0) ∧ w'.cell? ⟨w1.heap.size, 1, none⟩ = some (.int .u32 x1) ∧ w'.cell? ⟨w1.heap.size, 2, none⟩ = some (.int .u16 x2) ∧ w'.cell? ⟨w1.heap.size, 3, none⟩ = some (.int .u32 x3) ∧ w'.cell? ⟨w1.heap.size, 4, none⟩ = some (.int .u16 x4) ∧ w'.cell? ⟨w1.heap.size, 5, none⟩ = some (.int .i64 x5) ∧ w'.cell? ⟨w1.heap.size, 6, none⟩ = some (.int .u8 x6) ∧ w'.cell? ⟨w1.heap.size, 7, none⟩ = some (.bool x7) ∧ w'.cell? ⟨w1.heap.size, 8, none⟩ = some (.int .u8 x8) ∧ w'.cell? ⟨w2.heap.size, 7, none⟩ = some (.string o) ∧ True)) (first | assumption | exact SK.out _ _ hS0 (Below.refl _ _).drew | exact SK.out _ _ hS0 (fresh_below _ _).drew | exact SK.out _ _ (by assumption) (fresh_below _ _) | (refine SK.out _ _ ?_ (by assumption); assumption))
    (first | (go_at_call 42; (with_reducible refine (C3.out _).mono ?_); rintro e wq ⟨rfl, bq⟩) | (go_at_call 43; (with_reducible refine (C4.out _).mono ?_); rintro e wq ⟨rfl, bq⟩))
  all_goals
    go_wp2
    go_ret2
    exact ⟨rfl, (by first | exact FS.out _ (by assumption) | exact bstep (FS.out _ (by assumption)) (fresh_below _ _) | exact bstep (bstep (FS.out _ (by assumption)) (fresh_below _ _)) (fresh_below _ _))⟩

set_option maxHeartbeats 4000000 in
theorem rw_Apply (a b c d : Int) (s : ByteArray) (w : World) (K0 : Kinds w) (ha : 0 ≤ a ∧ a ≤ 4294967295) (hb : 0 ≤ b ∧ b ≤ 65535) (hc : 0 ≤ c ∧ c ≤ 4294967295) (hd : 0 ≤ d ∧ d ≤ 65535) (hs : s.size ≤ 140737488351232) :
    Calls Tryz.prog 15 #[.string s, .agg #[.int .u32 a, .int .u16 b, .int .u32 c, .int .u16 d]] w (Ret (.tuple #[.string (rwOut s a b c d), .int .i64 (rwWhy s)]) w) := by
  have c1 := fun W K => tu_Of s W K hs
  by_cases h1 : seenWhy s ≠ 0
  · have e1 : rwWhy s = seenWhy s := by unfold rwWhy; rw [if_pos h1]
    have e2 : rwOut s a b c d = { data := #[] } := by unfold rwOut; rw [e1, if_neg h1]
    rw [e1, e2]
    unfold Seen.cells at c1
    exact rw_Apply_bad a b c d _ _ _ _ _ _ _ _ _ s _ w K0 h1 c1
  have h1' : seenWhy s = 0 := by omega
  rw [h1'] at c1
  by_cases h2 : (seenOf s).l < 2
  · have e1 : rwWhy s = 8 := by unfold rwWhy; rw [if_neg h1, if_pos h2]
    have e2 : rwOut s a b c d = { data := #[] } := by unfold rwOut; rw [e1, if_neg (by decide)]
    rw [e1, e2]
    unfold Seen.cells at c1
    exact rw_Apply_ttl a b c d _ _ _ _ _ _ _ _ _ s w K0 h2 c1
  have e1 : rwWhy s = 0 := by unfold rwWhy; rw [if_neg h1, if_neg h2]
  have e2 : rwOut s a b c d = S (rwNew s a b c d) := by unfold rwOut; rw [if_pos e1]
  rw [e1, e2]
  have hip : ipWhy s = 0 := by
    unfold seenWhy at h1'
    by_cases h : ipWhy s = 0
    · exact h
    · rw [if_neg h] at h1'; exact h1'
  have hlw : loadWhy (hdOf s).p (ipRest s) = 0 := by unfold seenWhy at h1'; rwa [if_pos hip] at h1'
  have hso : seenOf s = loadSeen (hdOf s) (ipRest s) := by unfold seenOf; rw [if_pos h1']
  obtain ⟨a1, a2, a3, a4, a5, ho, a6, key, hh⟩ := ip_head s hip
  have hrest : ipRest s = s.extract (ipOwn (L s)).toNat (ipAll (L s)).toNat := by unfold ipRest; rw [if_pos hip]
  have hp : (ipRest s).size = (ipAll (L s)).toNat - (ipOwn (L s)).toNat := by rw [hrest, ByteArray.size_extract]; omega
  have hl : (seenOf s).l = at_ (L s) 8 := by
    rw [hso]; unfold loadSeen
    split
    · rfl
    split
    · rfl
    split
    · rfl
    split <;> rfl
  have hpp : (seenOf s).t.p = 6 → 20 ≤ (ipRest s).size := by
    intro h
    rw [hso] at h
    unfold loadSeen at h
    by_cases h6 : (hdOf s).p = 6
    · unfold loadWhy at hlw
      rw [if_pos h6] at hlw
      by_cases ht : tcpIs (ipRest s) = true
      · unfold tcpIs at ht; simp at ht; omega
      · rw [if_neg ht] at hlw; omega
    · rw [if_neg h6] at h
      split at h
      · simp at h
      split at h
      · simp at h
      split at h <;> simp at h
  have h8 : 8 ≤ (ipRest s).size := by
    unfold loadWhy at hlw
    split at hlw
    · split at hlw
      · rename_i ht; unfold tcpIs at ht; simp at ht; omega
      · omega
    split at hlw
    · split at hlw
      · rename_i ht; unfold udpIs at ht; simp at ht; omega
      · omega
    split at hlw
    · split at hlw <;> omega
    · omega
  have c2 := fun W => ip_Parse s W hs
  rw [show hdRes s = hdOf s from by unfold hdRes; rw [if_pos hip], hip] at c2
  have hx : s.extract 0 (20 + (hdOf s).o.size) = s.extract 0 (ipOwn (L s)).toNat := by rw [ho, show 20 + ((ipOwn (L s)).toNat - 20) = (ipOwn (L s)).toNat from by omega]
  have hLx : L (s.extract 0 (20 + (hdOf s).o.size)) = (L s).take (ipOwn (L s)).toNat := by rw [hx, L_to]
  have hxz : (s.extract 0 (20 + (hdOf s).o.size)).size = (ipOwn (L s)).toNat := by rw [hx, ByteArray.size_extract]; omega
  have h12 : (s.extract 12 20).size = 8 := by rw [ByteArray.size_extract]; omega
  have c3 := fun W => rw_header a b c d (s.extract 0 (20 + (hdOf s).o.size)) W ha hc (by omega) (by omega) (by rw [hLx, at_take (by omega)]; omega)
  rw [hLx] at c3
  have c4 := fun W => rw_load a b c d (seenOf s) (ipRest s) (s.extract 12 20) W ha hb hc hd (by omega) h12 hpp h8
  rw [show L (s.extract 12 20) = ((L s).drop 12).take 8 from L_extract _ _ _] at c4
  have hz1 : (headNew ((L s).take (ipOwn (L s)).toNat) a c).length ≤ 100000 := by
    unfold headNew lifeOf
    simp [put16_length, show (ipsOf a c).length = 8 from rfl]
    omega
  have hz2 : (loadNew (seenOf s) (L (ipRest s)) (((L s).drop 12).take 8) a b c d).length ≤ 100000 := by
    have hq : (L (ipRest s)).length ≤ 2048 := by rw [L_length]; omega
    have hq8 : 8 ≤ (L (ipRest s)).length := by rw [L_length]; exact h8
    unfold loadNew
    split
    · rename_i g6
      have := hpp g6
      unfold flowNew
      rw [lay_length (by simp [putW_length, L_length]; omega)]
      simp [putW_length]; omega
    split
    · unfold flowNew
      rw [lay_length (by simp [putW_length]; omega)]
      simp [putW_length]; omega
    split
    · omega
    split
    · unfold queryOf; rw [lay_length (by rw [lay_length (by omega)]; omega), lay_length (by omega)]; omega
    · unfold queryOf; rw [lay_length (by rw [lay_length (by omega)]; omega), lay_length (by omega)]; omega
  have hout : S (headNew ((L s).take (ipOwn (L s)).toNat) a c) ++ S (loadNew (seenOf s) (L (ipRest s)) (((L s).drop 12).take 8) a b c d) = S (rwNew s a b c d) := by rw [S_append]; rfl
  rw [← hout]
  unfold Hd.cells at c2
  have hoz : 20 + (hdOf s).o.size ≤ s.size := by omega
  have hzz : (S (headNew ((L s).take (ipOwn (L s)).toNat) a c)).size + (S (loadNew (seenOf s) (L (ipRest s)) (((L s).drop 12).take 8) a b c d)).size ≤ 1000000 := by rw [S_size, S_size]; omega
  generalize seenOf s = x at *
  unfold Seen.cells at c1 c4
  exact rw_Apply_good a b c d _ _ _ _ _ _ _ _ _ _ _ _ _ _ _ _ _ _ s _ _ w K0 h2 hs hoz hzz c1 c2 c3 c4
end Go.Proofs.YtjeaknipmdfkdaaGreatDoor
end

section
/- What a call leaves but for some blocks; stores of several cells. No program. -/
set_option linter.unusedVariables false
set_option linter.unusedSimpArgs false
namespace Go.Proofs.YtjeaknipmdfkdaaGreatDoor
open Go.RowKit

theorem Cells.setCells_ {b : Nat} {T : TypeId} : ∀ (vs : List Value) (o : Nat) (cs : Array Value) (w : World), Cells w b cs T → o + vs.length ≤ cs.size → ∃ cs', Cells (w.setCells b o vs) b cs' T ∧ cs'.size = cs.size ∧ ∀ j, cs'.toList[j]? = if o ≤ j ∧ j < o + vs.length then vs[j - o]? else cs.toList[j]?
  | [], o, cs, w, h, _ => ⟨cs, h, rfl, fun j => by rw [if_neg (by simp)]⟩
  | v :: vs, o, cs, w, h, hs => by
    simp only [List.length_cons] at hs
    obtain ⟨cs', h1, h2, h3⟩ := Cells.setCells_ vs (o + 1) _ _ (Cells.set_ h o v) (by simp; omega)
    refine ⟨cs', h1, by rw [h2]; simp, fun j => ?_⟩
    rw [h3 j]
    by_cases e : j = o
    · subst e
      rw [if_neg (by omega), if_pos (by simp), Array.toList_setIfInBounds, List.getElem?_set_self (by rw [Array.length_toList]; omega)]
      simp
    · by_cases h4 : o + 1 ≤ j ∧ j < o + 1 + vs.length
      · rw [if_pos h4, if_pos (by simp only [List.length_cons]; omega), show j - o = (j - (o + 1)) + 1 by omega]
        rfl
      · rw [if_neg h4, if_neg (by simp only [List.length_cons]; omega)]
        rw [Array.toList_setIfInBounds, List.getElem?_set_ne (by omega)]
theorem size_setCells_ (b : Nat) : ∀ (vs : List Value) (o : Nat) (w : World), (w.setCells b o vs).heap.size = w.heap.size
  | [], _, _ => rfl
  | v :: vs, o, w => by rw [World.setCells, size_setCells_ b vs]; simp
theorem Only.setCells_ {X : Nat → Prop} {A : World} {b : Nat} : ∀ (vs : List Value) (o : Nat) (w : World), Only X A w → X b ∨ A.heap.size ≤ b → Only X A (w.setCells b o vs)
  | [], _, _, h, _ => h
  | v :: vs, o, w, h, hb => Only.setCells_ vs (o + 1) _ (by
      refine ⟨h.os, h.tape, h.output, by have := h.size; simpa using this, fun k hk hx => ?_⟩
      refine Eq.trans ?_ (h.block k hk hx)
      exact Below.heap_setCell w ⟨b, o, none⟩ v k (by
        show k ≠ b
        rintro rfl
        rcases hb with hb | hb
        · exact hx hb
        · omega)) hb
theorem Cells.only {W W' : World} {b : Nat} {cs : Array Value} {T : TypeId} {X : Nat → Prop} (h : Cells W b cs T) (k : Only X W W') (hx : ¬ X b) : Cells W' b cs T := (k.block b h.lt hx).trans h
theorem Only.mono {X Y : Nat → Prop} {A C : World} (h : Only X A C) (k : ∀ i, X i → Y i) : Only Y A C := ⟨h.os, h.tape, h.output, h.size, fun i hi hx => h.block i hi fun hX => hx (k i hX)⟩
theorem Only.setAt {X : Nat → Prop} {A B : World} (h : Only X A B) {b : Nat} (i : Nat) (v : Value) (hb : X b ∨ A.heap.size ≤ b) : Only X A (B.setCell ⟨b, i, none⟩ v) := Only.setCells_ [v] i B h hb
theorem Only.drew {X : Nat → Prop} {A B : World} (h : Only X A B) : Only X A B.drew := ⟨h.os, h.tape, h.output, h.size, h.block⟩
theorem Only.join {X Y : Nat → Prop} {A C D : World} (h : Only X A C) (k : Only Y C D) (hy : ∀ i, i < A.heap.size → Y i → X i) : Only X A D :=
  ⟨k.os.trans h.os, k.tape.trans h.tape, k.output.trans h.output, Nat.le_trans h.size k.size, fun i hi hx => (k.block i (Nat.lt_of_lt_of_le hi h.size) fun hY => hx (hy i hi hY)).trans (h.block i hi hx)⟩
theorem Only.app {X : Nat → Prop} {A W W' : World} {row : Option Nat} (h : Only X A W) (k : W.grownBy W' row) (hr : ∀ g, row = some g → X g ∨ A.heap.size ≤ g) : Only X A W' :=
  ⟨k.1.trans h.os, k.2.trans h.tape, k.3.trans h.output, Nat.le_trans h.size k.4, fun i hi hx => (k.5 i (Nat.lt_of_lt_of_le hi h.size) (fun e => by
    rcases hr i e.symm with q | q
    · exact hx q
    · omega)).trans (h.block i hi hx)⟩
theorem Cells.like {w : World} {b : Nat} {cs cs' : Array Value} {T : TypeId} (h : Cells w b cs T) (e : cs = cs') : Cells w b cs' T := e ▸ h
end Go.Proofs.YtjeaknipmdfkdaaGreatDoor
end

section
/- A whole struct (of whatever number of cells) stored into a block that is known whole, and loaded out of it: the world behind it by what it keeps. -/
set_option linter.unusedVariables false
set_option linter.unusedSimpArgs false
namespace Go.Proofs.YtjeaknipmdfkdaaGreatDoor
open Go.RowKit Go.Lib

theorem Cells.range {w : World} {g : Nat} {c : Array Value} {T : TypeId} (h : Cells w g c T) : w.rangeAt g 0 c.toList := fun j v hv => by
  rw [Nat.zero_add, h.at_ j, ← Array.getElem?_toList]; exact hv
theorem Cells.there {w : World} {g : Nat} {c : Array Value} {T : TypeId} (h : Cells w g c T) {n : Nat} (hn : n ≤ c.size) : w.there g 0 n := fun j hj => by
  rw [Nat.zero_add]
  exact ⟨by rw [h.at_ j, Array.getElem?_eq_getElem (by omega)]; rfl, h.free j⟩
theorem Cells.all {w : World} {g : Nat} {c c' : Array Value} {T : TypeId} (h : Cells w g c T) (hs : c.size = c'.size) : Cells (w.setCells g 0 c'.toList) g c' T := by
  obtain ⟨cs, h1, h2, h3⟩ := Cells.setCells_ c'.toList 0 c w h (by simp [hs])
  have e : cs = c' := by
    apply Array.ext'
    apply List.ext_getElem?
    intro j
    rw [h3 j]
    by_cases hj : j < c'.size
    · rw [if_pos ⟨Nat.zero_le _, by simpa using hj⟩, Nat.sub_zero]
    · rw [if_neg (fun k => hj (by simpa using k.2)), List.getElem?_eq_none (by simp; omega), List.getElem?_eq_none (by simp; omega)]
  exact e ▸ h1
/-- the world behind a store of a whole struct: the block has the new cells, all others lie as they lay -/
theorem stored {w : World} {g : Nat} {c c' : Array Value} {T : TypeId} (h : Cells w g c T) (hs : c.size = c'.size) : Cells (w.setCells g 0 c'.toList) g c' T ∧ Only (fun i => i = g) w (w.setCells g 0 c'.toList) ∧ (w.setCells g 0 c'.toList).heap.size = w.heap.size :=
  ⟨Cells.all h hs, Only.setCells_ _ _ _ (Only.refl _ _) (Or.inl rfl), size_setCells_ _ _ _ _⟩
variable {P : Program}
theorem wp_store_all {op : Oper} {a : Act} {w : World} {K : Act → World → Prop} {Q : Exit → Act → World → Prop} (ty : TypeId) (x y : Operand) (ho : op.op = .store ty x y)
    {g : Nat} {c c' : Array Value} {T : TypeId} (hC : Cells w g c T) (hx : a.eval x = .pointer (some ⟨g, 0, none⟩)) (hy : a.eval y = .agg c') (hi : (P.info? ty).map (·.size) = some c'.size) (hs : c.size = c'.size) (h1 : c'.all (·.oneCell') = true)
    (h : ∀ W', Cells W' g c' T → Only (fun i => i = g) w W' → W'.heap.size = w.heap.size → K (a.put op.dst undef) W') : op.wp P a w K Q :=
  wp_store_mid ty x y ho g 0 c' hx hy (hC.there (by omega)) hi h1 (h _ (stored hC hs).1 (stored hC hs).2.1 (stored hC hs).2.2)
theorem wpList_store_all {ops : Array Oper} {rest : List Oper} {op : Oper} {a : Act} {w : World} {Q : Exit → Act → World → Prop} (hgd : op.guard = none) (ty : TypeId) (x y : Operand) (ho : op.op = .store ty x y)
    {g : Nat} {c c' : Array Value} {T : TypeId} (hC : Cells w g c T) (hx : a.eval x = .pointer (some ⟨g, 0, none⟩)) (hy : a.eval y = .agg c') (hi : (P.info? ty).map (·.size) = some c'.size) (hs : c.size = c'.size) (h1 : c'.all (·.oneCell') = true)
    (h : ∀ W', Cells W' g c' T → Only (fun i => i = g) w W' → W'.heap.size = w.heap.size → wpList P ops Q rest (a.put op.dst undef) W') : wpList P ops Q (op :: rest) a w :=
  wpList_plain hgd fun _ hK => wp_store_all ty x y ho hC hx hy hi hs h1 fun W' k1 k2 k3 => hK _ _ (h W' k1 k2 k3)
theorem wpList_load_all {ops : Array Oper} {rest : List Oper} {op : Oper} {a : Act} {w : World} {Q : Exit → Act → World → Prop} (hgd : op.guard = none) (ty : TypeId) (x : Operand) (ho : op.op = .load ty x)
    {g : Nat} {c : Array Value} {T : TypeId} (hC : Cells w g c T) (hx : a.eval x = .pointer (some ⟨g, 0, none⟩)) (d : TypeDesc)
    (hu : P.underlying ty = some d) (hd : d.isRow = true) (hi : (P.info? ty).map (·.size) = some c.size)
    (h : wpList P ops Q rest (a.put op.dst (.agg c)) w) : wpList P ops Q (op :: rest) a w :=
  wpList_load_mid hgd ty x ho g 0 hx c.toList d hC.range hu hd (by simpa using hi) (by simpa using h)
/-- a struct named result, in a block that is known whole -/
theorem run_load_all {w : World} (ty : TypeId) {g : Nat} {c : Array Value} {T : TypeId} (hC : Cells w g c T) (d : TypeDesc) (hu : P.underlying ty = some d) (hd : d.isRow = true) (hi : (P.info? ty).map (·.size) = some c.size) :
    (loadVar ty ⟨g, 0, none⟩).run P w = .ok (.agg c) w := by
  have := run_loadVar_mid (P := P) w g 0 ty c.toList d hC.range hu hd (by simpa using hi)
  simpa using this
theorem res_cell {fn : Func} {tmps : Array Value} {w : World} {a : Nat} {t : TypeId} (hf : fn.results = #[.cell a t]) {g : Nat} {c : Array Value} {T : TypeId} (hC : Cells w g c T) (hx : tmps.getD a undef = .pointer (some ⟨g, 0, none⟩)) (d : TypeDesc) (hu : P.underlying t = some d) (hd : d.isRow = true) (hi : (P.info? t).map (·.size) = some c.size) :
    (results fn tmps).run P w = .ok (.agg c) w := by
  have hl := run_load_all (P := P) t hC d hu hd hi
  have hx' : tmps[a]?.getD undef = .pointer (some ⟨g, 0, none⟩) := by simpa using hx
  simp [results, hf, hx', asAddr, hl, Sem.run_bind, Sem.run_pure, Result.andThen_ok]
theorem res_cell_tmp {fn : Func} {tmps : Array Value} {w : World} {a b : Nat} {t : TypeId} (hf : fn.results = #[.cell a t, .tmp b]) {g : Nat} {c : Array Value} {T : TypeId} (hC : Cells w g c T) (hx : tmps.getD a undef = .pointer (some ⟨g, 0, none⟩)) {v : Value} (hv : tmps.getD b undef = v) (d : TypeDesc) (hu : P.underlying t = some d) (hd : d.isRow = true) (hi : (P.info? t).map (·.size) = some c.size) :
    (results fn tmps).run P w = .ok (.tuple #[.agg c, v]) w := by
  have hl := run_load_all (P := P) t hC d hu hd hi
  subst hv
  have hx' : tmps[a]?.getD undef = .pointer (some ⟨g, 0, none⟩) := by simpa using hx
  simp [results, hf, hx', asAddr, hl, Sem.run_bind, Sem.run_pure, Result.andThen_ok]
end Go.Proofs.YtjeaknipmdfkdaaGreatDoor
end
