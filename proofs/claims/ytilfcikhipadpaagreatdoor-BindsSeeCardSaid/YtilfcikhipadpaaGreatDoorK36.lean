/- Several texts of this claim, one behind the other. -/
import Derived.Test.YtilfcikhipadpaaGreatDoorK35
import Derived.KernelRfl
import Derived.Test.YtilfcikhipadpaaGreatDoorProg

section
/- porterref10.Inner: the document. -/
set_option linter.unusedVariables false
set_option linter.unusedSimpArgs false
namespace Go.Proofs.YtilfcikhipadpaaGreatDoor
open Go.RowKit
attribute [local go_sem] Oper.semAt_some envL lookV

theorem look_in {s : ByteArray} (h : msWhy s = 0) : ∃ (E : Int) (q : Bool), lkOf (L (emData s)) = .agg #[.int .i64 E, .int .u8 (inTup s).p, .int .u32 (inTup s).a, .int .u16 (inTup s).b, .int .u32 (inTup s).c, .int .u16 (inTup s).d, .bool q, .int .i64 (emsWhy s)] := by
  have he : emsWhy s = emWhy (L (emData s)) := by rw [ems_ms, if_neg (by omega)]
  unfold lkOf inTup
  rw [he]
  by_cases hz : emWhy (L (emData s)) = 0
  · rw [if_pos hz, if_pos hz, hz]
    exact ⟨_, _, rfl⟩
  · rw [if_neg hz, if_neg hz]
    exact ⟨0, false, rfl⟩
set_option maxRecDepth 100000 in
set_option maxHeartbeats 8000000 in
theorem rd_Inner (s : ByteArray) (w : World) (hs : s.size ≤ 140737488351232) :
    Calls Tryz.prog 38 #[.string s] w (Ret (.tuple #[.agg #[.int .u8 (inTup s).p, .int .u32 (inTup s).a, .int .u16 (inTup s).b, .int .u32 (inTup s).c, .int .u16 (inTup s).d], .int .i64 (emsWhy s)]) w) := by
  have cm := fun W => rd_message s W hs
  by_cases h : msWhy s = 0
  rotate_left 1
  · have e1 : emsWhy s = msWhy s := by rw [ems_ms, if_pos h]
    have e2 : inTup s = ⟨0, 0, 0, 0, 0⟩ := by unfold inTup; rw [e1, if_neg h]
    rw [e1, e2]
    have hr : (msWhy s != 0) = true := by simpa using h
    generalize msWhy s = r at *
    generalize msOf s = m at *
    have CM := hide cm
    clear cm h e1 e2 hs
    go_enter Tryz.func38, Tryz.ntmps38
    have d0 := Cells.new w #[.int .u8 0, .int .u32 0, .int .u16 0, .int .u32 0, .int .u16 0] 33
    have bn := fresh_below w (.cells #[.int .u8 0, .int .u32 0, .int .u16 0, .int .u32 0, .int .u16 0] 33)
    have D0 := hide d0; have BN := hide bn
    clear d0 bn
    go_upto_region 1 with fail
    generalize (w.alloc (.cells #[.int .u8 0, .int .u32 0, .int .u16 0, .int .u32 0, .int .u16 0] 33)) = w1 at *
    go_upto_region 3 with (go_at_call 88; (with_reducible refine (CM.out _).mono ?_); rintro e w2 ⟨rfl, b2⟩)
    have bz := bstep b2 (fresh_below w2 (.cells #[.int .u8 m.t, .int .u8 m.c, .int .u16 m.n, .string m.r, .string m.d] 164))
    have HZ := hide (Cells.below bz D0.out); have LW := hide (bstep BN.out bz)
    clear bz b2 D0 BN hr CM
    generalize (w2.alloc (.cells #[.int .u8 m.t, .int .u8 m.c, .int .u16 m.n, .string m.r, .string m.d] 164)) = w3 at *
    refine wp_region_lit ?_
    refine wpList_plain rfl fun K hK => ?_; go_simp; refine hK _ _ ?_; clear hK K
    refine wpList_plain rfl fun K hK => ?_; go_simp; refine hK _ _ ?_; clear hK K
    refine wpList_store_all rfl 33 (.tmp 2) (.tmp 14) rfl (c' := #[.int .u8 0, .int .u32 0, .int .u16 0, .int .u32 0, .int .u16 0]) HZ.out (by rfl) (by rfl) (by kernel_rfl) rfl (by simp [Value.oneCell']) ?_
    intro W5 r5 o5 z5
    go_wp2_with fail
    (try simp only [Exit.inBlock, Exit.then])
    refine bodyPost_ret (res_cell_tmp Tryz.results38 r5 (by rfl) (by rfl) _ Tryz.underlying33 rfl (by kernel_rfl)) rfl ?_
    exact ⟨rfl, LW.out.trans (o5.below (fun j e => by omega) LW.out.size)⟩
  obtain ⟨E, q, hlk⟩ := look_in h
  have hk3 : seenWhy s = 0 ∧ (seenOf s).k = 3 := by
    unfold msWhy at h
    by_cases h1 : seenWhy s = 0
    · rw [if_neg (by omega)] at h
      by_cases h2 : (seenOf s).k = 3
      · exact ⟨h1, h2⟩
      · rw [if_pos h2] at h; omega
    · rw [if_pos h1] at h; omega
  obtain ⟨H, P, R, hsw, hw, _, _, _, hrest, _, hp8, _, _⟩ := err_whole hk3.1 hk3.2
  have hdz : (emData s).size ≤ 140737488351232 := by rw [(emData_of hrest).1, S_size, List.length_drop]; have := hw.big; omega
  have cl := fun W => rd_Look (emData s) W hdz
  rw [hlk] at cl
  have hmo : msOf s = msgOf (ipRest s) := by unfold msOf; rw [if_pos h]
  rw [hmo, show (msgOf (ipRest s)).d = emData s from rfl, h] at cm
  obtain ⟨m, hm⟩ : ∃ m, m = msgOf (ipRest s) := ⟨_, rfl⟩
  rw [← hm] at cm
  generalize emData s = dt at *
  generalize emsWhy s = r at *
  generalize inTup s = t at *
  have CM := hide cm; have CL := hide cl
  clear cm cl h hs hlk hk3 hsw hw hrest hp8 hdz hmo hm
  go_enter Tryz.func38, Tryz.ntmps38
  have d0 := Cells.new w #[.int .u8 0, .int .u32 0, .int .u16 0, .int .u32 0, .int .u16 0] 33
  have bn := fresh_below w (.cells #[.int .u8 0, .int .u32 0, .int .u16 0, .int .u32 0, .int .u16 0] 33)
  have D0 := hide d0; have BN := hide bn
  clear d0 bn
  go_upto_region 1 with fail
  generalize (w.alloc (.cells #[.int .u8 0, .int .u32 0, .int .u16 0, .int .u32 0, .int .u16 0] 33)) = w1 at *
  go_upto_region 2 with (go_at_call 88; (with_reducible refine (CM.out _).mono ?_); rintro e w2 ⟨rfl, b2⟩)
  have bz := bstep b2 (fresh_below w2 (.cells #[.int .u8 m.t, .int .u8 m.c, .int .u16 m.n, .string m.r, .string dt] 164))
  have nn := Cells.new w2 #[.int .u8 m.t, .int .u8 m.c, .int .u16 m.n, .string m.r, .string dt] 164
  have y4 := nn.at_ 4
  have HZ := hide (Cells.below bz D0.out); have LW := hide (bstep BN.out bz)
  clear bz b2 nn D0 BN CM
  generalize (w2.alloc (.cells #[.int .u8 m.t, .int .u8 m.c, .int .u16 m.n, .string m.r, .string dt] 164)) = w3 at *
  go_upto_region 5 with (go_at_call 89; (with_reducible refine (CL.out _).mono ?_); rintro e w4 ⟨rfl, b4⟩)
  have hlt : w.heap.size < w4.heap.size := Cells.lt (Cells.below b4 HZ.out)
  have bz := bstep b4 (fresh_below w4 (.cells #[.int .i64 E, .int .u8 t.p, .int .u32 t.a, .int .u16 t.b, .int .u32 t.c, .int .u16 t.d, .bool q, .int .i64 r] 195))
  have n5 := Cells.new w4 #[.int .i64 E, .int .u8 t.p, .int .u32 t.a, .int .u16 t.b, .int .u32 t.c, .int .u16 t.d, .bool q, .int .i64 r] 195
  replace HZ := hide (Cells.below bz HZ.out); replace LW := hide (bstep LW.out bz)
  generalize w4.heap.size = g4 at n5 hlt ⊢
  generalize (w4.alloc (.cells #[.int .i64 E, .int .u8 t.p, .int .u32 t.a, .int .u16 t.b, .int .u32 t.c, .int .u16 t.d, .bool q, .int .i64 r] 195)) = w6 at *
  have N5 := hide n5
  have sO : Only (fun i => i = w.heap.size) w6 w6.drew := Only.of_below (Below.drew (Below.refl _ _)) (Nat.le_refl _)
  have u1 : ∀ W', Only (fun i => i = w.heap.size) w6 W' → W'.cell? ⟨g4, 1, none⟩ = some (.int .u8 t.p) := fun W' h => (Cells.only N5.out h (by omega)).at_ 1
  have u2 : ∀ W', Only (fun i => i = w.heap.size) w6 W' → W'.cell? ⟨g4, 2, none⟩ = some (.int .u32 t.a) := fun W' h => (Cells.only N5.out h (by omega)).at_ 2
  have u3 : ∀ W', Only (fun i => i = w.heap.size) w6 W' → W'.cell? ⟨g4, 3, none⟩ = some (.int .u16 t.b) := fun W' h => (Cells.only N5.out h (by omega)).at_ 3
  have u4 : ∀ W', Only (fun i => i = w.heap.size) w6 W' → W'.cell? ⟨g4, 4, none⟩ = some (.int .u32 t.c) := fun W' h => (Cells.only N5.out h (by omega)).at_ 4
  have u5 : ∀ W', Only (fun i => i = w.heap.size) w6 W' → W'.cell? ⟨g4, 5, none⟩ = some (.int .u16 t.d) := fun W' h => (Cells.only N5.out h (by omega)).at_ 5
  have u7 : ∀ W', Only (fun i => i = w.heap.size) w6 W' → W'.cell? ⟨g4, 7, none⟩ = some (.int .i64 r) := fun W' h => (Cells.only N5.out h (by omega)).at_ 7
  clear bz n5 y4
  focus
    refine wp_region_J [] (fun W => Only (fun i => i = w.heap.size) w6 W) (by kernel_rfl) (sO) (fun hS0 => ?_)
    refine tJ 0 rfl hS0 ?_ (hy := by (intro wx hx; (try dsimp only); (try go_simp); (try with_reducible rfl)))
    (try simp only [Act.put, putS])
    refine tJ 1 rfl hS0 ?_ (hy := by (intro wx hx; (try dsimp only); (try go_simp); (try with_reducible rfl)))
    (try simp only [Act.put, putS])
    refine tJ 2 rfl hS0 ?_ (hy := by (intro wx hx; (try dsimp only); (try go_simp); (try with_reducible rfl)))
    (try simp only [Act.put, putS])
    refine tJ 3 rfl hS0 ?_ (hy := by (intro wx hx; (try dsimp only); (try go_simp); (try with_reducible rfl)))
    (try simp only [Act.put, putS])
    refine rJ [4] ?_
    refine (AllReadyJ.cons rfl (fun K hK => ?_) AllReadyJ.nil)
    (focus (rw [if_pos (by kernel_rfl)]; (try simp only [putG]); refine wp_store_all 33 (.tmp 2) (.tmp 20) rfl (c' := #[.int .u8 t.p, .int .u32 t.a, .int .u16 t.b, .int .u32 t.c, .int .u16 t.d]) HZ.out.drew (by rfl) (by rfl) (by kernel_rfl) rfl (by simp [Value.oneCell']) ?_; intro W5 r5 o5 z5))
    (focus (try go_wp2_with fail))
    refine hK.out _ _ ?hs (fun hS0 => ?_)
    case hs => (first | with_reducible exact hS0 | exact Only.trans hS0 o5)
    clear hK K
    (try simp only [Act.put, putS])
    refine tJ 5 rfl hS0 ?_ (hy := by (intro wx hx; (try dsimp only); (try go_simp); (try with_reducible rfl)))
    (try simp only [Act.put, putS])
    refine wpAnyJ_done (by kernel_rfl) ?_ _
  all_goals
    have HC := hide r5; have HS := hide hS0
    clear r5 o5 z5 u1 u2 u3 u4 u5 u7
    go_wp2_with fail
    (try simp only [Exit.inBlock, Exit.then])
    refine bodyPost_ret (res_cell_tmp Tryz.results38 HC.out (by rfl) (by rfl) _ Tryz.underlying33 rfl (by kernel_rfl)) rfl ?_
    exact ⟨rfl, LW.out.trans (HS.out.below (fun j e => by omega) LW.out.size)⟩
end Go.Proofs.YtilfcikhipadpaaGreatDoor
end

section
/- binds.See, the program's and the document's. -/
set_option linter.unusedVariables false
namespace Go.Proofs.YtilfcikhipadpaaGreatDoor
open Go.RowKit Go.Lib

def seenV (x : Seen) : Value := .agg #[.int .u8 x.t.p, .int .u32 x.t.a, .int .u16 x.t.b, .int .u32 x.t.c, .int .u16 x.t.d, .int .i64 x.k, .int .u8 x.f, .bool x.q, .int .u8 x.l]
def tupV (t : Tup) : Value := .agg #[.int .u8 t.p, .int .u32 t.a, .int .u16 t.b, .int .u32 t.c, .int .u16 t.d]
def glanceV (x : Seen) (t : Tup) (r : Int) : Value := .tuple #[.agg #[.int .u8 x.t.p, .int .u32 x.t.a, .int .u16 x.t.b, .int .u32 x.t.c, .int .u16 x.t.d, .int .i64 x.k, .int .u8 x.f, .bool x.q, .int .u8 x.l, .int .u8 t.p, .int .u32 t.a, .int .u16 t.b, .int .u32 t.c, .int .u16 t.d], .int .i64 r]
/-- the other way about -/
def backT (t : Tup) : Tup := ⟨t.p, t.c, t.d, t.a, t.b⟩
def tup0 : Tup := ⟨0, 0, 0, 0, 0⟩
/-- what is seen, by what is seen of a packet, and of what an error is about -/
def seeV (X : Seen) (r : Int) (T : Tup) (q : Int) : Value :=
  if r ≠ 0 then glanceV seenNone tup0 r else if X.l < 2 then glanceV seenNone tup0 8 else if X.k ≠ 3 then glanceV X X.t 0 else if q ≠ 0 then glanceV seenNone tup0 q else if T.a ≠ X.t.c then glanceV seenNone tup0 15 else glanceV X (backT T) 0
theorem b_see (s : ByteArray) (w : World) (X : Seen) (r : Int) (T : Tup) (q : Int)
    (c1 : ∀ W, Below w.heap.size w W → Calls Tryz.prog 27 #[.string s] W (Ret (.tuple #[seenV X, .int .i64 r]) W))
    (c2 : ∀ W, Below w.heap.size w W → Calls Tryz.prog 31 #[.string s] W (Ret (.tuple #[tupV T, .int .i64 q]) W)) :
    Calls Tryz.prog 11 #[.string s] w (Ret (seeV X r T q) w) := by
  unfold seeV
  split
  · rename_i h1
    exact Rx.run [Rx.does 3 (args := [.string s]) c1, Rx.yes 12 (bne_iff_ne.2 h1)]
  rename_i h1
  have h1 : r = 0 := Decidable.not_not.1 h1
  subst h1
  split
  · rename_i h2
    exact Rx.run [Rx.does 3 (args := [.string s]) c1, Rx.yes 16 (decide_eq_true h2)]
  rename_i h2
  split
  · rename_i h3
    exact Rx.run [Rx.does 3 (args := [.string s]) c1, Rx.no 16 (decide_eq_false h2), Rx.yes 20 (bne_iff_ne.2 h3)]
  rename_i h3
  have h3 : (X.k != 3) = false := by simpa using h3
  split
  · rename_i h4
    exact Rx.run [Rx.does 3 (args := [.string s]) c1, Rx.no 16 (decide_eq_false h2), Rx.no 20 h3, Rx.does 22 (args := [.string s]) c2, Rx.yes 31 (bne_iff_ne.2 h4)]
  rename_i h4
  have h4 : q = 0 := Decidable.not_not.1 h4
  subst h4
  split
  · rename_i h5
    exact Rx.run [Rx.does 3 (args := [.string s]) c1, Rx.no 16 (decide_eq_false h2), Rx.no 20 h3, Rx.does 22 (args := [.string s]) c2, Rx.yes 40 (bne_iff_ne.2 h5)]
  rename_i h5
  have h5 : (T.a != X.t.c) = false := by simpa using h5
  exact Rx.run [Rx.does 3 (args := [.string s]) c1, Rx.no 16 (decide_eq_false h2), Rx.no 20 h3, Rx.does 22 (args := [.string s]) c2, Rx.no 40 h5]
theorem d_see (s : ByteArray) (w : World) (X : Seen) (r : Int) (T : Tup) (q : Int)
    (c1 : ∀ W, Below w.heap.size w W → Calls Tryz.prog 37 #[.string s] W (Ret (.tuple #[seenV X, .int .i64 r]) W))
    (c2 : ∀ W, Below w.heap.size w W → Calls Tryz.prog 38 #[.string s] W (Ret (.tuple #[tupV T, .int .i64 q]) W)) :
    Calls Tryz.prog 12 #[.string s] w (Ret (seeV X r T q) w) := by
  unfold seeV
  split
  · rename_i h1
    exact Rx.run [Rx.does 3 (args := [.string s]) c1, Rx.yes 12 (bne_iff_ne.2 h1)]
  rename_i h1
  have h1 : r = 0 := Decidable.not_not.1 h1
  subst h1
  split
  · rename_i h2
    exact Rx.run [Rx.does 3 (args := [.string s]) c1, Rx.yes 16 (decide_eq_true h2)]
  rename_i h2
  split
  · rename_i h3
    have h3 : (X.k == 3) = false := by simpa using h3
    exact Rx.run [Rx.does 3 (args := [.string s]) c1, Rx.no 16 (decide_eq_false h2), Rx.no 24 h3]
  rename_i h3
  have h3 : (X.k == 3) = true := by simpa using h3
  split
  · rename_i h4
    exact Rx.run [Rx.does 3 (args := [.string s]) c1, Rx.no 16 (decide_eq_false h2), Rx.yes 24 h3, Rx.does 26 (args := [.string s]) c2, Rx.yes 35 (bne_iff_ne.2 h4)]
  rename_i h4
  have h4 : q = 0 := Decidable.not_not.1 h4
  subst h4
  split
  · rename_i h5
    exact Rx.run [Rx.does 3 (args := [.string s]) c1, Rx.no 16 (decide_eq_false h2), Rx.yes 24 h3, Rx.does 26 (args := [.string s]) c2, Rx.yes 44 (bne_iff_ne.2 h5)]
  rename_i h5
  have h5 : (T.a != X.t.c) = false := by simpa using h5
  exact Rx.run [Rx.does 3 (args := [.string s]) c1, Rx.no 16 (decide_eq_false h2), Rx.yes 24 h3, Rx.does 26 (args := [.string s]) c2, Rx.no 44 h5]
/-- See, of any text -/
theorem b_See (s : ByteArray) (w : World) (K : Kinds w) (hs : s.size ≤ 140737488351232) : Calls Tryz.prog 11 #[.string s] w (Ret (seeV (seenOf s) (seenWhy s) (inTup s) (emsWhy s)) w) :=
  b_see s w _ _ _ _ (fun W h => tu_Of s W (K.below h) hs) (fun W h => e_Inner W s (K.below h) hs)
theorem d_See (s : ByteArray) (w : World) (hs : s.size ≤ 140737488351232) : Calls Tryz.prog 12 #[.string s] w (Ret (seeV (seenOf s) (seenWhy s) (inTup s) (emsWhy s)) w) :=
  d_see s w _ _ _ _ (fun W h => o_Of s W hs) (fun W h => rd_Inner s W hs)
end Go.Proofs.YtilfcikhipadpaaGreatDoor
end

section
/- track: how long a state lasts, out of the program's table; the state of a first packet. -/
set_option linter.unusedVariables false
set_option linter.unusedSimpArgs false
namespace Go.Proofs.YtilfcikhipadpaaGreatDoor
open Go.RowKit Go.Lib
attribute [local go_sem] Oper.semAt_some

/-- how many ticks a state lasts -/
def timeV (fl st : Int) : Int :=
  if fl = 1 then (if st = 1 then 120 else if st = 2 then 300 else 0)
  else if fl = 2 then (if st = 1 then 60 else if st = 2 then 60 else 0)
  else if fl = 3 then (if st = 3 then 7440 else if 1 ≤ st ∧ st ≤ 7 then 240 else 0)
  else 0
/-- the table as it lies -/
def Lasts (W : World) : Prop := ∀ i j : Nat, i < 4 → j < 8 → W.cell? ⟨0, i * 8 + j, none⟩ = some (.int .i64 (timeV i j))
theorem Lasts.below {W W' : World} (h : Lasts W) (k : Below W.heap.size W W') : Lasts W' := fun i j hi hj => by
  rw [k.cell (p := ⟨0, _, none⟩) (World.block_lt_of_cell? W _ (h i j hi hj))]
  exact h i j hi hj

set_option maxHeartbeats 2000000 in
theorem tk_Timeout (w : World) (fl st : Int) (h : Lasts w) : Calls Tryz.prog 120 #[.int .i64 fl, .int .i64 st] w (Ret (.int .i64 (timeV fl st)) w) := by
  by_cases h1 : fl < 0
  · have e : timeV fl st = 0 := by unfold timeV; rw [if_neg (by omega), if_neg (by omega), if_neg (by omega)]
    rw [e]
    clear e h
    have bb : Below w.heap.size w w := Below.refl _ _
    go_enter Tryz.func120, Tryz.ntmps120
    go_wp2_with fail
    go_ret
    exact ⟨rfl, by assumption⟩
  by_cases h2 : 4 ≤ fl
  · have e : timeV fl st = 0 := by unfold timeV; rw [if_neg (by omega), if_neg (by omega), if_neg (by omega)]
    rw [e]
    clear e h
    have bb : Below w.heap.size w w := Below.refl _ _
    go_enter Tryz.func120, Tryz.ntmps120
    go_wp2_with fail
    go_ret
    exact ⟨rfl, by assumption⟩
  by_cases h3 : st < 0
  · have e : timeV fl st = 0 := by unfold timeV; repeat' split <;> omega
    rw [e]
    clear e h
    have bb : Below w.heap.size w w := Below.refl _ _
    go_enter Tryz.func120, Tryz.ntmps120
    go_wp2_with fail
    go_ret
    exact ⟨rfl, by assumption⟩
  by_cases h4 : 7 < st
  · have e : timeV fl st = 0 := by unfold timeV; repeat' split <;> omega
    rw [e]
    clear e h
    have bb : Below w.heap.size w w := Below.refl _ _
    go_enter Tryz.func120, Tryz.ntmps120
    go_wp2_with fail
    go_ret
    exact ⟨rfl, by assumption⟩
  obtain ⟨i, rfl⟩ := Int.eq_ofNat_of_zero_le (show 0 ≤ fl by omega)
  obtain ⟨j, rfl⟩ := Int.eq_ofNat_of_zero_le (show 0 ≤ st by omega)
  have hi : i < 4 := by omega
  have hj : j < 8 := by omega
  have hc := h i j hi hj
  generalize timeV (i : Int) (j : Int) = x at *
  clear h
  have bb : Below w.heap.size w w := Below.refl _ _
  go_enter Tryz.func120, Tryz.ntmps120
  go_wp2_with fail
  go_ret
  exact ⟨rfl, by assumption⟩
theorem tk_May (w : World) (fl st : Int) (h : Lasts w) : Calls Tryz.prog 100 #[.int .i64 fl, .int .i64 st] w (Ret (.bool (decide (0 < timeV fl st))) w) := by
  have c := fun W (hW : Below w.heap.size w W) => tk_Timeout W fl st (h.below hW)
  have C := hide c
  clear c h
  generalize timeV fl st = x at *
  have bb : Below w.heap.size w w := Below.refl _ _
  go_enter Tryz.func100, Tryz.ntmps100
  go_wp2_with ((go_at_call 120; (with_reducible refine (C.out _ (by assumption)).mono ?_); rintro e2 w2 ⟨rfl, b2⟩; have b2' := bstep (by assumption : Below w.heap.size w _) b2; clear b2))
  go_ret
  exact ⟨rfl, by assumption⟩
/-- may a first packet of these flags begin a flow of this kind? -/
def firstV (fl fg : Int) : Bool := decide (0 < timeV fl 1) && !(decide (fl = 3) && !decide (bits .and .u8 fg 23 = 2))
theorem tk_First (w : World) (fl fg : Int) (h : Lasts w) : Calls Tryz.prog 47 #[.int .i64 fl, .int .u8 fg] w (Ret (.tuple #[.int .i64 (if firstV fl fg = true then 1 else 0), .bool (firstV fl fg)]) w) := by
  have c := fun W (hW : Below w.heap.size w W) => tk_May W fl 1 (h.below hW)
  unfold firstV
  have C := hide c
  clear c h
  have bb : Below w.heap.size w w := Below.refl _ _
  by_cases h1 : 0 < timeV fl 1
  · rw [decide_eq_true h1] at C ⊢
    clear h1
    by_cases h3 : fl = 3
    · subst h3
      by_cases h2 : bits .and .u8 fg 23 = 2
      · have q : (bits .and .u8 fg 23 != 2) = false := by simp [h2]
        have e : (if (true && !(decide ((3 : Int) = 3) && !decide (bits .and .u8 fg 23 = 2))) = true then (1 : Int) else 0) = 1 := by simp [h2]
        have e' : (true && !(decide ((3 : Int) = 3) && !decide (bits .and .u8 fg 23 = 2))) = true := by simp [h2]
        rw [e, e']
        clear e e' h2
        go_enter Tryz.func47, Tryz.ntmps47
        go_wp2_with ((go_at_call 100; (with_reducible refine (C.out _ (by assumption)).mono ?_); rintro e2 w2 ⟨rfl, b2⟩; have b2' := bstep (by assumption : Below w.heap.size w _) b2; clear b2))
        go_ret2
        exact ⟨rfl, by assumption⟩
      · have q : (bits .and .u8 fg 23 != 2) = true := by simp [h2]
        have e : (if (true && !(decide ((3 : Int) = 3) && !decide (bits .and .u8 fg 23 = 2))) = true then (1 : Int) else 0) = 0 := by simp [h2]
        have e' : (true && !(decide ((3 : Int) = 3) && !decide (bits .and .u8 fg 23 = 2))) = false := by simp [h2]
        rw [e, e']
        clear e e' h2
        go_enter Tryz.func47, Tryz.ntmps47
        go_wp2_with ((go_at_call 100; (with_reducible refine (C.out _ (by assumption)).mono ?_); rintro e2 w2 ⟨rfl, b2⟩; have b2' := bstep (by assumption : Below w.heap.size w _) b2; clear b2))
        go_ret2
        exact ⟨rfl, by assumption⟩
    · have q : (fl == 3) = false := by simp [h3]
      have e : (if (true && !(decide (fl = 3) && !decide (bits .and .u8 fg 23 = 2))) = true then (1 : Int) else 0) = 1 := by simp [h3]
      have e' : (true && !(decide (fl = 3) && !decide (bits .and .u8 fg 23 = 2))) = true := by simp [h3]
      rw [e, e']
      clear e e' h3
      go_enter Tryz.func47, Tryz.ntmps47
      go_wp2_with ((go_at_call 100; (with_reducible refine (C.out _ (by assumption)).mono ?_); rintro e2 w2 ⟨rfl, b2⟩; have b2' := bstep (by assumption : Below w.heap.size w _) b2; clear b2))
      go_ret2
      exact ⟨rfl, by assumption⟩
  · rw [decide_eq_false h1] at C ⊢
    clear h1
    go_enter Tryz.func47, Tryz.ntmps47
    go_wp2_with ((go_at_call 100; (with_reducible refine (C.out _ (by assumption)).mono ?_); rintro e2 w2 ⟨rfl, b2⟩; have b2' := bstep (by assumption : Below w.heap.size w _) b2; clear b2))
    go_ret2
    exact ⟨rfl, by assumption⟩
end Go.Proofs.YtilfcikhipadpaaGreatDoor
end
