/- The bytes of a header of ip over this program. -/
import Derived.Test.YtlmpoikjjidgiaaIp3
set_option linter.unusedVariables false
set_option linter.unusedSimpArgs false
namespace Go.Proofs.Ytlmpoikjjidgiaa
open Go.RowKit
attribute [local go_sem] Oper.semAt_some

def Hd.cut (h : Hd) : Int := if h.f = true then 16384 else 0
def Hd.words (h : Hd) (size sum : Int) : List Int := [(64 + (20 + (h.o.size : Int)) / 4) * 256 + h.t, size, h.i, h.cut, h.l * 256 + h.p, sum]
/-- a header's bytes -/
def Hd.bytes (h : Hd) (size sum : Int) : List UInt8 := putW (h.words size sum) ++ put32 h.s ++ put32 h.d ++ L h.o

set_option maxRecDepth 100000 in
set_option maxHeartbeats 2000000 in
theorem i_bytes (t i l p s d size sum : Int) (f : Bool) (o : ByteArray) (w : World) (hk : (Hd.mk t i f l p s d o).Ok) (h1 : o.size ≤ 40) (h2 : o.size % 4 = 0) (hz : 0 ≤ size ∧ size ≤ 65535) (hm : 0 ≤ sum ∧ sum ≤ 65535) :
    Calls Try.prog 49 #[.agg #[.int .u8 t, .int .u16 i, .bool f, .int .u8 l, .int .u8 p, .int .u32 s, .int .u32 d, .string o, .int .i64 size, .int .u16 sum]] w (Ret (.string (S ((Hd.mk t i f l p s d o).bytes size sum))) w) := by
  obtain ⟨⟨t0, t1⟩, ⟨i0, i1⟩, ⟨l0, l1⟩, ⟨p0, p1⟩, hs, hd, ho⟩ := hk
  simp only at t0 t1 i0 i1 l0 l1 p0 p1 hs hd ho
  have e1 : bits .or .u16 ((64 + (20 + (o.size : Int)) / 4) * 256) t = (64 + (20 + (o.size : Int)) / 4) * 256 + t := or16 _ _ (by omega) (by omega) t0 t1
  have e2 : bits .or .u16 (l * 256) p = l * 256 + p := or16 _ _ (by omega) (by omega) p0 p1
  have hfb : 0 ≤ (64 + (20 + (o.size : Int)) / 4) * 256 + t ∧ (64 + (20 + (o.size : Int)) / 4) * 256 + t ≤ 65535 := by omega
  have hlb : 0 ≤ l * 256 + p ∧ l * 256 + p ≤ 65535 := by omega
  obtain ⟨c, hc⟩ : ∃ c, c = (Hd.mk t i f l p s d o).cut := ⟨_, rfl⟩
  have hcb : 0 ≤ c ∧ c ≤ 65535 := by rw [hc]; unfold Hd.cut; split <;> omega
  have hend : S (putW [(64 + (20 + (o.size : Int)) / 4) * 256 + t, size, i, c, l * 256 + p, sum]) ++ S (put32 s) ++ S (put32 d) ++ o = S ((Hd.mk t i f l p s d o).bytes size sum) := by
    apply L_inj
    unfold Hd.bytes Hd.words
    rw [← hc]
    simp only [L_append, L_S]
  obtain ⟨v, hv⟩ : ∃ v, v = (64 + (20 + (o.size : Int)) / 4) * 256 + t := ⟨_, rfl⟩
  obtain ⟨y, hy⟩ : ∃ y, y = l * 256 + p := ⟨_, rfl⟩
  rw [← hv, ← hy] at hend; rw [← hv] at e1 hfb; rw [← hy] at e2 hlb
  have hl : ∀ x ∈ [v, size, i, c, y, sum], 0 ≤ x ∧ x ≤ 65535 := by
    intro x hx
    simp only [List.mem_cons, List.not_mem_nil, or_false] at hx
    rcases hx with rfl | rfl | rfl | rfl | rfl | rfl <;> omega
  have f1 := fun (A : Option Addr) (W : World) (hr : Row W W.heap.size A 6 (ints16 [v, size, i, c, y, sum])) => Word A 6 6 [v, size, i, c, y, sum] W hr hl (by omega)
  have f3 := fun W => Put32 s W hs.1 hs.2
  have f4 := fun W => Put32 d W hd.1 hd.2
  obtain ⟨sa, hsa⟩ : ∃ sa, sa = S (putW [v, size, i, c, y, sum]) := ⟨_, rfl⟩
  obtain ⟨sq, hsq⟩ : ∃ sq, sq = S (put32 s) := ⟨_, rfl⟩
  obtain ⟨sk, hsk⟩ : ∃ sk, sk = S (put32 d) := ⟨_, rfl⟩
  have a1 : sa.size = 12 := by rw [hsa]; rfl
  have a2 : sq.size = 4 := by rw [hsq]; rfl
  have a3 : sk.size = 4 := by rw [hsk]; rfl
  rw [← hsa, ← hsq, ← hsk] at hend
  rw [← hsa] at f1; rw [← hsq] at f3; rw [← hsk] at f4
  have a5 : (sa ++ sq).size = 16 := by rw [ByteArray.size_append, a1, a2]
  have a6 : (sa ++ sq ++ sk).size = 20 := by rw [ByteArray.size_append, a5, a3]
  have a7 : (sa ++ sq ++ sk ++ o).size = 20 + o.size := by rw [ByteArray.size_append, a6]
  have wz : IntKind.u16.wrap size = size := by rw [IntKind.wrap_u16]; omega
  have F1 := hide f1; have F3 := hide f3; have F4 := hide f4; have HE := hide hend; have HC := hide hc
  clear f1 f3 f4 hend hsa hsq hsk hl hs hd hv hy hc hfb hlb hcb
  have hf : f = true ∨ f = false := by cases f <;> simp
  rcases hf with rfl | rfl
  · have hc : c = 16384 := HC.out
    subst hc
    go_enter Try.func49, Try.ntmps49
    have d0 := Cells.new w #[.int .u8 t, .int .u16 i, .bool true, .int .u8 l, .int .u8 p, .int .u32 s, .int .u32 d, .string o, .int .i64 size, .int .u16 sum] 85
    have xd0_0 : ((w.alloc (.cells #[.int .u8 t, .int .u16 i, .bool true, .int .u8 l, .int .u8 p, .int .u32 s, .int .u32 d, .string o, .int .i64 size, .int .u16 sum] 85))).cell? ⟨w.heap.size, 0, none⟩ = some (.int .u8 t) := d0.at_ 0
    have xd0_1 : ((w.alloc (.cells #[.int .u8 t, .int .u16 i, .bool true, .int .u8 l, .int .u8 p, .int .u32 s, .int .u32 d, .string o, .int .i64 size, .int .u16 sum] 85))).cell? ⟨w.heap.size, 1, none⟩ = some (.int .u16 i) := d0.at_ 1
    have xd0_2 : ((w.alloc (.cells #[.int .u8 t, .int .u16 i, .bool true, .int .u8 l, .int .u8 p, .int .u32 s, .int .u32 d, .string o, .int .i64 size, .int .u16 sum] 85))).cell? ⟨w.heap.size, 2, none⟩ = some (.bool true) := d0.at_ 2
    have xd0_3 : ((w.alloc (.cells #[.int .u8 t, .int .u16 i, .bool true, .int .u8 l, .int .u8 p, .int .u32 s, .int .u32 d, .string o, .int .i64 size, .int .u16 sum] 85))).cell? ⟨w.heap.size, 3, none⟩ = some (.int .u8 l) := d0.at_ 3
    have xd0_4 : ((w.alloc (.cells #[.int .u8 t, .int .u16 i, .bool true, .int .u8 l, .int .u8 p, .int .u32 s, .int .u32 d, .string o, .int .i64 size, .int .u16 sum] 85))).cell? ⟨w.heap.size, 4, none⟩ = some (.int .u8 p) := d0.at_ 4
    have xd0_5 : ((w.alloc (.cells #[.int .u8 t, .int .u16 i, .bool true, .int .u8 l, .int .u8 p, .int .u32 s, .int .u32 d, .string o, .int .i64 size, .int .u16 sum] 85))).cell? ⟨w.heap.size, 5, none⟩ = some (.int .u32 s) := d0.at_ 5
    have xd0_6 : ((w.alloc (.cells #[.int .u8 t, .int .u16 i, .bool true, .int .u8 l, .int .u8 p, .int .u32 s, .int .u32 d, .string o, .int .i64 size, .int .u16 sum] 85))).cell? ⟨w.heap.size, 6, none⟩ = some (.int .u32 d) := d0.at_ 6
    have xd0_7 : ((w.alloc (.cells #[.int .u8 t, .int .u16 i, .bool true, .int .u8 l, .int .u8 p, .int .u32 s, .int .u32 d, .string o, .int .i64 size, .int .u16 sum] 85))).cell? ⟨w.heap.size, 7, none⟩ = some (.string o) := d0.at_ 7
    have xd0_8 : ((w.alloc (.cells #[.int .u8 t, .int .u16 i, .bool true, .int .u8 l, .int .u8 p, .int .u32 s, .int .u32 d, .string o, .int .i64 size, .int .u16 sum] 85))).cell? ⟨w.heap.size, 8, none⟩ = some (.int .i64 size) := d0.at_ 8
    have xd0_9 : ((w.alloc (.cells #[.int .u8 t, .int .u16 i, .bool true, .int .u8 l, .int .u8 p, .int .u32 s, .int .u32 d, .string o, .int .i64 size, .int .u16 sum] 85))).cell? ⟨w.heap.size, 9, none⟩ = some (.int .u16 sum) := d0.at_ 9
    have yd0_0 : ((w.alloc (.cells #[.int .u8 t, .int .u16 i, .bool true, .int .u8 l, .int .u8 p, .int .u32 s, .int .u32 d, .string o, .int .i64 size, .int .u16 sum] 85))).frozen? ⟨w.heap.size, 0, none⟩ = false := d0.free 0
    have yd0_1 : ((w.alloc (.cells #[.int .u8 t, .int .u16 i, .bool true, .int .u8 l, .int .u8 p, .int .u32 s, .int .u32 d, .string o, .int .i64 size, .int .u16 sum] 85))).frozen? ⟨w.heap.size, 1, none⟩ = false := d0.free 1
    have yd0_2 : ((w.alloc (.cells #[.int .u8 t, .int .u16 i, .bool true, .int .u8 l, .int .u8 p, .int .u32 s, .int .u32 d, .string o, .int .i64 size, .int .u16 sum] 85))).frozen? ⟨w.heap.size, 2, none⟩ = false := d0.free 2
    have yd0_3 : ((w.alloc (.cells #[.int .u8 t, .int .u16 i, .bool true, .int .u8 l, .int .u8 p, .int .u32 s, .int .u32 d, .string o, .int .i64 size, .int .u16 sum] 85))).frozen? ⟨w.heap.size, 3, none⟩ = false := d0.free 3
    have yd0_4 : ((w.alloc (.cells #[.int .u8 t, .int .u16 i, .bool true, .int .u8 l, .int .u8 p, .int .u32 s, .int .u32 d, .string o, .int .i64 size, .int .u16 sum] 85))).frozen? ⟨w.heap.size, 4, none⟩ = false := d0.free 4
    have yd0_5 : ((w.alloc (.cells #[.int .u8 t, .int .u16 i, .bool true, .int .u8 l, .int .u8 p, .int .u32 s, .int .u32 d, .string o, .int .i64 size, .int .u16 sum] 85))).frozen? ⟨w.heap.size, 5, none⟩ = false := d0.free 5
    have yd0_6 : ((w.alloc (.cells #[.int .u8 t, .int .u16 i, .bool true, .int .u8 l, .int .u8 p, .int .u32 s, .int .u32 d, .string o, .int .i64 size, .int .u16 sum] 85))).frozen? ⟨w.heap.size, 6, none⟩ = false := d0.free 6
    have yd0_7 : ((w.alloc (.cells #[.int .u8 t, .int .u16 i, .bool true, .int .u8 l, .int .u8 p, .int .u32 s, .int .u32 d, .string o, .int .i64 size, .int .u16 sum] 85))).frozen? ⟨w.heap.size, 7, none⟩ = false := d0.free 7
    have yd0_8 : ((w.alloc (.cells #[.int .u8 t, .int .u16 i, .bool true, .int .u8 l, .int .u8 p, .int .u32 s, .int .u32 d, .string o, .int .i64 size, .int .u16 sum] 85))).frozen? ⟨w.heap.size, 8, none⟩ = false := d0.free 8
    have yd0_9 : ((w.alloc (.cells #[.int .u8 t, .int .u16 i, .bool true, .int .u8 l, .int .u8 p, .int .u32 s, .int .u32 d, .string o, .int .i64 size, .int .u16 sum] 85))).frozen? ⟨w.heap.size, 9, none⟩ = false := d0.free 9
    go_wp2_with fail
    (with_reducible refine (F1.out _ _ (by (repeat' (first | with_reducible refine Row.drawn ?_ | with_reducible exact Row.freshAt _ _ _ _ _ _ (by simp) rfl rfl | (with_reducible refine Row.up ?_ (fresh_below _ _)) | (with_reducible refine Row.up ?_ (by with_reducible assumption)))))).mono ?_)
    rintro e w2 ⟨rfl, b2⟩
    have d2 := Cells.up d0 (fresh_below _ _) b2
    replace b2 : Below w.heap.size w w2 := bstep (bstep (fresh_below _ _) (fresh_below _ _)) b2
    clear d0
    go_wp2_with fail
    have SK := hide (fun (zX zY : World) (zh : (Below w.heap.size w zX ∧ zX.cell? ⟨w.heap.size, 5, none⟩ = some (.int .u32 s) ∧ zX.cell? ⟨w.heap.size, 6, none⟩ = some (.int .u32 d) ∧ zX.cell? ⟨w.heap.size, 7, none⟩ = some (.string o) ∧ True)) (zb : Below zX.heap.size zX zY) => (show (Below w.heap.size w zY ∧ zY.cell? ⟨w.heap.size, 5, none⟩ = some (.int .u32 s) ∧ zY.cell? ⟨w.heap.size, 6, none⟩ = some (.int .u32 d) ∧ zY.cell? ⟨w.heap.size, 7, none⟩ = some (.string o) ∧ True) from ⟨bstep zh.1 zb, cellAt zb zh.2.1, cellAt zb zh.2.2.1, cellAt zb zh.2.2.2.1, trivial⟩))
    have FS := hide (fun (zX : World) (zh : (Below w.heap.size w zX ∧ zX.cell? ⟨w.heap.size, 5, none⟩ = some (.int .u32 s) ∧ zX.cell? ⟨w.heap.size, 6, none⟩ = some (.int .u32 d) ∧ zX.cell? ⟨w.heap.size, 7, none⟩ = some (.string o) ∧ True)) => zh.1)
    have GS := hide (fun (zX : World) (zh : (Below w.heap.size w zX ∧ zX.cell? ⟨w.heap.size, 5, none⟩ = some (.int .u32 s) ∧ zX.cell? ⟨w.heap.size, 6, none⟩ = some (.int .u32 d) ∧ zX.cell? ⟨w.heap.size, 7, none⟩ = some (.string o) ∧ True)) => zh)
    have hS0 : (Below w.heap.size w w2 ∧ w2.cell? ⟨w.heap.size, 5, none⟩ = some (.int .u32 s) ∧ w2.cell? ⟨w.heap.size, 6, none⟩ = some (.int .u32 d) ∧ w2.cell? ⟨w.heap.size, 7, none⟩ = some (.string o) ∧ True) := ⟨(by (repeat' (first | with_reducible exact b2 | with_reducible exact Below.refl _ _ | with_reducible refine Below.setCell ?_ (by first | exact Nat.le_refl _ | (dsimp only; omega)) _ | with_reducible refine bstep ?_ (fresh_below _ _) | with_reducible refine Below.drew ?_))), d2.at_ 5, d2.at_ 6, d2.at_ 7, trivial⟩
    go_region_held_law (fun w' => (Below w.heap.size w w' ∧ w'.cell? ⟨w.heap.size, 5, none⟩ = some (.int .u32 s) ∧ w'.cell? ⟨w.heap.size, 6, none⟩ = some (.int .u32 d) ∧ w'.cell? ⟨w.heap.size, 7, none⟩ = some (.string o) ∧ True)) (first | assumption | exact SK.out _ _ hS0 (Below.refl _ _).drew | exact SK.out _ _ hS0 (fresh_below _ _).drew | exact SK.out _ _ (by assumption) (fresh_below _ _) | (refine SK.out _ _ ?_ (by assumption); assumption))
      (first | (go_at_call 34; (with_reducible refine (F3.out _).mono ?_); rintro e wq ⟨rfl, bq⟩) | (go_at_call 34; (with_reducible refine (F4.out _).mono ?_); rintro e wq ⟨rfl, bq⟩))
    all_goals
      go_wp2
      go_ret
      exact ⟨congrArg Ending.returned (v_str HE.out), (by first | exact FS.out _ (by assumption) | exact bstep (FS.out _ (by assumption)) (fresh_below _ _) | exact bstep (bstep (FS.out _ (by assumption)) (fresh_below _ _)) (fresh_below _ _))⟩
  · have hc : c = 0 := HC.out
    subst hc
    go_enter Try.func49, Try.ntmps49
    have d0 := Cells.new w #[.int .u8 t, .int .u16 i, .bool false, .int .u8 l, .int .u8 p, .int .u32 s, .int .u32 d, .string o, .int .i64 size, .int .u16 sum] 85
    have xd0_0 : ((w.alloc (.cells #[.int .u8 t, .int .u16 i, .bool false, .int .u8 l, .int .u8 p, .int .u32 s, .int .u32 d, .string o, .int .i64 size, .int .u16 sum] 85))).cell? ⟨w.heap.size, 0, none⟩ = some (.int .u8 t) := d0.at_ 0
    have xd0_1 : ((w.alloc (.cells #[.int .u8 t, .int .u16 i, .bool false, .int .u8 l, .int .u8 p, .int .u32 s, .int .u32 d, .string o, .int .i64 size, .int .u16 sum] 85))).cell? ⟨w.heap.size, 1, none⟩ = some (.int .u16 i) := d0.at_ 1
    have xd0_2 : ((w.alloc (.cells #[.int .u8 t, .int .u16 i, .bool false, .int .u8 l, .int .u8 p, .int .u32 s, .int .u32 d, .string o, .int .i64 size, .int .u16 sum] 85))).cell? ⟨w.heap.size, 2, none⟩ = some (.bool false) := d0.at_ 2
    have xd0_3 : ((w.alloc (.cells #[.int .u8 t, .int .u16 i, .bool false, .int .u8 l, .int .u8 p, .int .u32 s, .int .u32 d, .string o, .int .i64 size, .int .u16 sum] 85))).cell? ⟨w.heap.size, 3, none⟩ = some (.int .u8 l) := d0.at_ 3
    have xd0_4 : ((w.alloc (.cells #[.int .u8 t, .int .u16 i, .bool false, .int .u8 l, .int .u8 p, .int .u32 s, .int .u32 d, .string o, .int .i64 size, .int .u16 sum] 85))).cell? ⟨w.heap.size, 4, none⟩ = some (.int .u8 p) := d0.at_ 4
    have xd0_5 : ((w.alloc (.cells #[.int .u8 t, .int .u16 i, .bool false, .int .u8 l, .int .u8 p, .int .u32 s, .int .u32 d, .string o, .int .i64 size, .int .u16 sum] 85))).cell? ⟨w.heap.size, 5, none⟩ = some (.int .u32 s) := d0.at_ 5
    have xd0_6 : ((w.alloc (.cells #[.int .u8 t, .int .u16 i, .bool false, .int .u8 l, .int .u8 p, .int .u32 s, .int .u32 d, .string o, .int .i64 size, .int .u16 sum] 85))).cell? ⟨w.heap.size, 6, none⟩ = some (.int .u32 d) := d0.at_ 6
    have xd0_7 : ((w.alloc (.cells #[.int .u8 t, .int .u16 i, .bool false, .int .u8 l, .int .u8 p, .int .u32 s, .int .u32 d, .string o, .int .i64 size, .int .u16 sum] 85))).cell? ⟨w.heap.size, 7, none⟩ = some (.string o) := d0.at_ 7
    have xd0_8 : ((w.alloc (.cells #[.int .u8 t, .int .u16 i, .bool false, .int .u8 l, .int .u8 p, .int .u32 s, .int .u32 d, .string o, .int .i64 size, .int .u16 sum] 85))).cell? ⟨w.heap.size, 8, none⟩ = some (.int .i64 size) := d0.at_ 8
    have xd0_9 : ((w.alloc (.cells #[.int .u8 t, .int .u16 i, .bool false, .int .u8 l, .int .u8 p, .int .u32 s, .int .u32 d, .string o, .int .i64 size, .int .u16 sum] 85))).cell? ⟨w.heap.size, 9, none⟩ = some (.int .u16 sum) := d0.at_ 9
    have yd0_0 : ((w.alloc (.cells #[.int .u8 t, .int .u16 i, .bool false, .int .u8 l, .int .u8 p, .int .u32 s, .int .u32 d, .string o, .int .i64 size, .int .u16 sum] 85))).frozen? ⟨w.heap.size, 0, none⟩ = false := d0.free 0
    have yd0_1 : ((w.alloc (.cells #[.int .u8 t, .int .u16 i, .bool false, .int .u8 l, .int .u8 p, .int .u32 s, .int .u32 d, .string o, .int .i64 size, .int .u16 sum] 85))).frozen? ⟨w.heap.size, 1, none⟩ = false := d0.free 1
    have yd0_2 : ((w.alloc (.cells #[.int .u8 t, .int .u16 i, .bool false, .int .u8 l, .int .u8 p, .int .u32 s, .int .u32 d, .string o, .int .i64 size, .int .u16 sum] 85))).frozen? ⟨w.heap.size, 2, none⟩ = false := d0.free 2
    have yd0_3 : ((w.alloc (.cells #[.int .u8 t, .int .u16 i, .bool false, .int .u8 l, .int .u8 p, .int .u32 s, .int .u32 d, .string o, .int .i64 size, .int .u16 sum] 85))).frozen? ⟨w.heap.size, 3, none⟩ = false := d0.free 3
    have yd0_4 : ((w.alloc (.cells #[.int .u8 t, .int .u16 i, .bool false, .int .u8 l, .int .u8 p, .int .u32 s, .int .u32 d, .string o, .int .i64 size, .int .u16 sum] 85))).frozen? ⟨w.heap.size, 4, none⟩ = false := d0.free 4
    have yd0_5 : ((w.alloc (.cells #[.int .u8 t, .int .u16 i, .bool false, .int .u8 l, .int .u8 p, .int .u32 s, .int .u32 d, .string o, .int .i64 size, .int .u16 sum] 85))).frozen? ⟨w.heap.size, 5, none⟩ = false := d0.free 5
    have yd0_6 : ((w.alloc (.cells #[.int .u8 t, .int .u16 i, .bool false, .int .u8 l, .int .u8 p, .int .u32 s, .int .u32 d, .string o, .int .i64 size, .int .u16 sum] 85))).frozen? ⟨w.heap.size, 6, none⟩ = false := d0.free 6
    have yd0_7 : ((w.alloc (.cells #[.int .u8 t, .int .u16 i, .bool false, .int .u8 l, .int .u8 p, .int .u32 s, .int .u32 d, .string o, .int .i64 size, .int .u16 sum] 85))).frozen? ⟨w.heap.size, 7, none⟩ = false := d0.free 7
    have yd0_8 : ((w.alloc (.cells #[.int .u8 t, .int .u16 i, .bool false, .int .u8 l, .int .u8 p, .int .u32 s, .int .u32 d, .string o, .int .i64 size, .int .u16 sum] 85))).frozen? ⟨w.heap.size, 8, none⟩ = false := d0.free 8
    have yd0_9 : ((w.alloc (.cells #[.int .u8 t, .int .u16 i, .bool false, .int .u8 l, .int .u8 p, .int .u32 s, .int .u32 d, .string o, .int .i64 size, .int .u16 sum] 85))).frozen? ⟨w.heap.size, 9, none⟩ = false := d0.free 9
    go_wp2_with fail
    (with_reducible refine (F1.out _ _ (by (repeat' (first | with_reducible refine Row.drawn ?_ | with_reducible exact Row.freshAt _ _ _ _ _ _ (by simp) rfl rfl | (with_reducible refine Row.up ?_ (fresh_below _ _)) | (with_reducible refine Row.up ?_ (by with_reducible assumption)))))).mono ?_)
    rintro e w2 ⟨rfl, b2⟩
    have d2 := Cells.up d0 (fresh_below _ _) b2
    replace b2 : Below w.heap.size w w2 := bstep (bstep (fresh_below _ _) (fresh_below _ _)) b2
    clear d0
    go_wp2_with fail
    have SK := hide (fun (zX zY : World) (zh : (Below w.heap.size w zX ∧ zX.cell? ⟨w.heap.size, 5, none⟩ = some (.int .u32 s) ∧ zX.cell? ⟨w.heap.size, 6, none⟩ = some (.int .u32 d) ∧ zX.cell? ⟨w.heap.size, 7, none⟩ = some (.string o) ∧ True)) (zb : Below zX.heap.size zX zY) => (show (Below w.heap.size w zY ∧ zY.cell? ⟨w.heap.size, 5, none⟩ = some (.int .u32 s) ∧ zY.cell? ⟨w.heap.size, 6, none⟩ = some (.int .u32 d) ∧ zY.cell? ⟨w.heap.size, 7, none⟩ = some (.string o) ∧ True) from ⟨bstep zh.1 zb, cellAt zb zh.2.1, cellAt zb zh.2.2.1, cellAt zb zh.2.2.2.1, trivial⟩))
    have FS := hide (fun (zX : World) (zh : (Below w.heap.size w zX ∧ zX.cell? ⟨w.heap.size, 5, none⟩ = some (.int .u32 s) ∧ zX.cell? ⟨w.heap.size, 6, none⟩ = some (.int .u32 d) ∧ zX.cell? ⟨w.heap.size, 7, none⟩ = some (.string o) ∧ True)) => zh.1)
    have GS := hide (fun (zX : World) (zh : (Below w.heap.size w zX ∧ zX.cell? ⟨w.heap.size, 5, none⟩ = some (.int .u32 s) ∧ zX.cell? ⟨w.heap.size, 6, none⟩ = some (.int .u32 d) ∧ zX.cell? ⟨w.heap.size, 7, none⟩ = some (.string o) ∧ True)) => zh)
    have hS0 : (Below w.heap.size w w2 ∧ w2.cell? ⟨w.heap.size, 5, none⟩ = some (.int .u32 s) ∧ w2.cell? ⟨w.heap.size, 6, none⟩ = some (.int .u32 d) ∧ w2.cell? ⟨w.heap.size, 7, none⟩ = some (.string o) ∧ True) := ⟨(by (repeat' (first | with_reducible exact b2 | with_reducible exact Below.refl _ _ | with_reducible refine Below.setCell ?_ (by first | exact Nat.le_refl _ | (dsimp only; omega)) _ | with_reducible refine bstep ?_ (fresh_below _ _) | with_reducible refine Below.drew ?_))), d2.at_ 5, d2.at_ 6, d2.at_ 7, trivial⟩
    go_region_held_law (fun w' => (Below w.heap.size w w' ∧ w'.cell? ⟨w.heap.size, 5, none⟩ = some (.int .u32 s) ∧ w'.cell? ⟨w.heap.size, 6, none⟩ = some (.int .u32 d) ∧ w'.cell? ⟨w.heap.size, 7, none⟩ = some (.string o) ∧ True)) (first | assumption | exact SK.out _ _ hS0 (Below.refl _ _).drew | exact SK.out _ _ hS0 (fresh_below _ _).drew | exact SK.out _ _ (by assumption) (fresh_below _ _) | (refine SK.out _ _ ?_ (by assumption); assumption))
      (first | (go_at_call 34; (with_reducible refine (F3.out _).mono ?_); rintro e wq ⟨rfl, bq⟩) | (go_at_call 34; (with_reducible refine (F4.out _).mono ?_); rintro e wq ⟨rfl, bq⟩))
    all_goals
      go_wp2
      go_ret
      exact ⟨congrArg Ending.returned (v_str HE.out), (by first | exact FS.out _ (by assumption) | exact bstep (FS.out _ (by assumption)) (fresh_below _ _) | exact bstep (bstep (FS.out _ (by assumption)) (fresh_below _ _)) (fresh_below _ _))⟩
end Go.Proofs.Ytlmpoikjjidgiaa
