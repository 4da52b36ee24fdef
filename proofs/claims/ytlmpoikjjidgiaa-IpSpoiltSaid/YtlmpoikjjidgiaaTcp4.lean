/- tcp.Put over this program. -/
import Derived.Test.YtlmpoikjjidgiaaTcp3
set_option linter.unusedVariables false
namespace Go.Proofs.Ytlmpoikjjidgiaa
open Go.RowKit
attribute [local go_sem] Oper.semAt_some

/-- a segment's header -/
structure Seg where
  s : Int
  d : Int
  q : Int
  k : Int
  l : Int
  f : Int
  w : Int
  n : Int
  u : Int
  o : ByteArray
def Seg.Ok (h : Seg) : Prop := (0 ≤ h.s ∧ h.s ≤ 65535) ∧ (0 ≤ h.d ∧ h.d ≤ 65535) ∧ (0 ≤ h.q ∧ h.q ≤ 4294967295) ∧ (0 ≤ h.k ∧ h.k ≤ 4294967295) ∧ (0 ≤ h.l ∧ h.l ≤ 255) ∧ (0 ≤ h.f ∧ h.f ≤ 255) ∧ (0 ≤ h.w ∧ h.w ≤ 65535) ∧ (0 ≤ h.n ∧ h.n ≤ 65535) ∧ (0 ≤ h.u ∧ h.u ≤ 65535) ∧ h.o.size ≤ 140737488351232
/-- may it be put -/
def Seg.may (h : Seg) : Bool := decide (h.o.size ≤ 40) && decide (h.o.size % 4 = 0) && decide (h.l ≤ 15)
def Seg.off (h : Seg) : Int := (20 + (h.o.size : Int)) / 4 * 4096 + h.l * 256 + h.f
def Seg.head (h : Seg) : List UInt8 := putW [h.s, h.d] ++ put32 h.q ++ put32 h.k ++ putW [h.off, h.w, h.n, h.u]
def Seg.put (h : Seg) (p : ByteArray) : List UInt8 := h.head ++ L h.o ++ L p

theorem Row.up {X Y : World} {A : Option Addr} {n : Nat} {l : List Value} (r : Row X X.heap.size A n l) (b : Below X.heap.size X Y) : Row Y Y.heap.size A n l := (r.below b).more b.size

theorem Row.drawn {X : World} {A : Option Addr} {n : Nat} {l : List Value} (r : Row X X.heap.size A n l) : Row X.drew X.drew.heap.size A n l := r
theorem or12 (a b : Int) (h1 : 0 ≤ a) (h2 : a ≤ 15) (h3 : 0 ≤ b) (h4 : b ≤ 4095) : bits .or .u16 (a * 4096) b = a * 4096 + b := by
  rw [u16_or _ _ (by omega) (by omega) h3 (by omega), nat_join 12 _ _ (by omega) (by omega)]; omega

set_option maxHeartbeats 1000000 in
theorem t_Put_no (s d q k l f wd n u : Int) (o p : ByteArray) (w : World) (hl : 0 ≤ l ∧ l ≤ 255) (ho : o.size ≤ 140737488351232) (h : (Seg.mk s d q k l f wd n u o).may = false) :
    Calls Try.prog 16 #[.agg #[.int .u16 s, .int .u16 d, .int .u32 q, .int .u32 k, .int .u8 l, .int .u8 f, .int .u16 wd, .int .u16 n, .int .u16 u, .string o], .string p] w (Ret (.tuple #[.string { data := #[] }, .int .i64 2]) w) := by
  have hcase : (40 : Int) < o.size ∨ (¬ (40 : Int) < o.size ∧ (20 + (o.size : Int)) % 4 ≠ 0) ∨ (¬ (40 : Int) < o.size ∧ (20 + (o.size : Int)) % 4 = 0 ∧ 15 < l) := by
    unfold Seg.may at h; simp at h; omega
  clear h
  rcases hcase with h1 | ⟨h1, h2⟩ | ⟨h1, h2, h3⟩
  · go_enter Try.func16, Try.ntmps16
    go_wp2_with fail
    go_ret2
    exact ⟨rfl, (by (repeat' (first | with_reducible exact Below.refl _ _ | with_reducible refine Below.setCell ?_ (by first | exact Nat.le_refl _ | (dsimp only; omega)) _ | with_reducible refine bstep ?_ (fresh_below _ _) | with_reducible refine Below.drew ?_)))⟩
  · have q1 : ((20 + (o.size : Int)) % 4 != 0) = true := by simp; omega
    have q2 : ((20 + (o.size : Int)) % 4 == 0) = false := by simp; omega
    go_enter Try.func16, Try.ntmps16
    go_wp2_with fail
    go_ret2
    exact ⟨rfl, (by (repeat' (first | with_reducible exact Below.refl _ _ | with_reducible refine Below.setCell ?_ (by first | exact Nat.le_refl _ | (dsimp only; omega)) _ | with_reducible refine bstep ?_ (fresh_below _ _) | with_reducible refine Below.drew ?_)))⟩
  · have q1 : ((20 + (o.size : Int)) % 4 != 0) = false := by simp; omega
    have q2 : ((20 + (o.size : Int)) % 4 == 0) = true := by simp; omega
    clear h2
    go_enter Try.func16, Try.ntmps16
    go_wp2_with fail
    go_ret2
    exact ⟨rfl, (by (repeat' (first | with_reducible exact Below.refl _ _ | with_reducible refine Below.setCell ?_ (by first | exact Nat.le_refl _ | (dsimp only; omega)) _ | with_reducible refine bstep ?_ (fresh_below _ _) | with_reducible refine Below.drew ?_)))⟩

set_option maxRecDepth 100000 in
set_option maxHeartbeats 2000000 in
theorem t_Put_yes (s d q k l f wd n u : Int) (o p : ByteArray) (w : World) (hk : (Seg.mk s d q k l f wd n u o).Ok) (hp : p.size ≤ 140737488351232) (h : (Seg.mk s d q k l f wd n u o).may = true) :
    Calls Try.prog 16 #[.agg #[.int .u16 s, .int .u16 d, .int .u32 q, .int .u32 k, .int .u8 l, .int .u8 f, .int .u16 wd, .int .u16 n, .int .u16 u, .string o], .string p] w (Ret (.tuple #[.string (S ((Seg.mk s d q k l f wd n u o).put p)), .int .i64 0]) w) := by
  obtain ⟨hs, hd, hq, hkk, ⟨l0, l1⟩, ⟨f0, f1⟩, hw, hn, hu, ho⟩ := hk
  simp only at hs hd hq hkk l0 l1 f0 f1 hw hn hu ho
  unfold Seg.may at h
  simp only [Bool.and_eq_true, decide_eq_true_eq] at h
  obtain ⟨⟨h1, h2⟩, h3⟩ := h
  have e1 : bits .or .u16 ((20 + (o.size : Int)) / 4 * 4096) (l * 256) = (20 + (o.size : Int)) / 4 * 4096 + l * 256 := or12 _ _ (by omega) (by omega) (by omega) (by omega)
  have e2 : bits .or .u16 ((20 + (o.size : Int)) / 4 * 4096 + l * 256) f = (Seg.mk s d q k l f wd n u o).off := by
    rw [show (20 + (o.size : Int)) / 4 * 4096 + l * 256 = ((20 + (o.size : Int)) / 4 * 16 + l) * 256 from by omega, or16 _ _ (by omega) (by omega) f0 f1]
    unfold Seg.off; simp only; omega
  have hob : 0 ≤ (Seg.mk s d q k l f wd n u o).off ∧ (Seg.mk s d q k l f wd n u o).off ≤ 65535 := by unfold Seg.off; simp only; omega
  obtain ⟨z, hz⟩ : ∃ z, z = (Seg.mk s d q k l f wd n u o).off := ⟨_, rfl⟩
  have hend : S (putW [s, d]) ++ S (put32 q) ++ S (put32 k) ++ S (putW [z, wd, n, u]) ++ o ++ p = S ((Seg.mk s d q k l f wd n u o).put p) := by
    apply L_inj
    rw [hz]
    simp only [L_append, L_S]; rfl
  rw [← hz] at e2 hob
  have q1 : ((20 + (o.size : Int)) % 4 != 0) = false := by simp; omega
  have q2 : ((20 + (o.size : Int)) % 4 == 0) = true := by simp; omega
  have hl1 : ∀ x ∈ [s, d], 0 ≤ x ∧ x ≤ 65535 := by
    intro x hx
    simp only [List.mem_cons, List.not_mem_nil, or_false] at hx
    rcases hx with rfl | rfl <;> omega
  have hl2 : ∀ x ∈ [z, wd, n, u], 0 ≤ x ∧ x ≤ 65535 := by
    intro x hx
    simp only [List.mem_cons, List.not_mem_nil, or_false] at hx
    rcases hx with rfl | rfl | rfl | rfl <;> omega
  have f1 := fun (A : Option Addr) (W : World) (hr : Row W W.heap.size A 2 (ints16 [s, d])) => Word A 2 2 [s, d] W hr hl1 (by omega)
  have f2 := fun (A : Option Addr) (W : World) (hr : Row W W.heap.size A 4 (ints16 [z, wd, n, u])) => Word A 4 4 [z, wd, n, u] W hr hl2 (by omega)
  have f3 := fun W => Put32 q W hq.1 hq.2
  have f4 := fun W => Put32 k W hkk.1 hkk.2
  obtain ⟨sa, hsa⟩ : ∃ sa, sa = S (putW [s, d]) := ⟨_, rfl⟩
  obtain ⟨sq, hsq⟩ : ∃ sq, sq = S (put32 q) := ⟨_, rfl⟩
  obtain ⟨sk, hsk⟩ : ∃ sk, sk = S (put32 k) := ⟨_, rfl⟩
  obtain ⟨sz, hsz⟩ : ∃ sz, sz = S (putW [z, wd, n, u]) := ⟨_, rfl⟩
  have a1 : sa.size = 4 := by rw [hsa]; rfl
  have a2 : sq.size = 4 := by rw [hsq]; rfl
  have a3 : sk.size = 4 := by rw [hsk]; rfl
  have a4 : sz.size = 8 := by rw [hsz]; rfl
  rw [← hsa, ← hsq, ← hsk, ← hsz] at hend
  rw [← hsa] at f1; rw [← hsz] at f2; rw [← hsq] at f3; rw [← hsk] at f4
  have a5 : (sa ++ sq).size = 8 := by rw [ByteArray.size_append, a1, a2]
  have a6 : (sa ++ sq ++ sk).size = 12 := by rw [ByteArray.size_append, a5, a3]
  have a7 : (sa ++ sq ++ sk ++ sz).size = 20 := by rw [ByteArray.size_append, a6, a4]
  have a8 : (sa ++ sq ++ sk ++ sz ++ o).size = 20 + o.size := by rw [ByteArray.size_append, a7]
  have F1 := hide f1; have F2 := hide f2; have F3 := hide f3; have F4 := hide f4; have HE := hide hend
  clear f1 f2 f3 f4 hend hsa hsq hsk hsz hz hl1 hl2 hs hd hq hkk hw hn hu hob
  go_enter Try.func16, Try.ntmps16
  have d0 := Cells.new w #[.int .u16 s, .int .u16 d, .int .u32 q, .int .u32 k, .int .u8 l, .int .u8 f, .int .u16 wd, .int .u16 n, .int .u16 u, .string o] 25
  go_wp2_with fail
  have SK := hide (fun (zX zY : World) (zh : (Below w.heap.size w zX ∧ zX.cell? ⟨w.heap.size, 0, none⟩ = some (.int .u16 s) ∧ zX.cell? ⟨w.heap.size, 1, none⟩ = some (.int .u16 d) ∧ zX.cell? ⟨w.heap.size, 2, none⟩ = some (.int .u32 q) ∧ zX.cell? ⟨w.heap.size, 3, none⟩ = some (.int .u32 k) ∧ zX.cell? ⟨w.heap.size, 6, none⟩ = some (.int .u16 wd) ∧ zX.cell? ⟨w.heap.size, 7, none⟩ = some (.int .u16 n) ∧ zX.cell? ⟨w.heap.size, 8, none⟩ = some (.int .u16 u) ∧ zX.cell? ⟨w.heap.size, 9, none⟩ = some (.string o) ∧ True)) (zb : Below zX.heap.size zX zY) => (show (Below w.heap.size w zY ∧ zY.cell? ⟨w.heap.size, 0, none⟩ = some (.int .u16 s) ∧ zY.cell? ⟨w.heap.size, 1, none⟩ = some (.int .u16 d) ∧ zY.cell? ⟨w.heap.size, 2, none⟩ = some (.int .u32 q) ∧ zY.cell? ⟨w.heap.size, 3, none⟩ = some (.int .u32 k) ∧ zY.cell? ⟨w.heap.size, 6, none⟩ = some (.int .u16 wd) ∧ zY.cell? ⟨w.heap.size, 7, none⟩ = some (.int .u16 n) ∧ zY.cell? ⟨w.heap.size, 8, none⟩ = some (.int .u16 u) ∧ zY.cell? ⟨w.heap.size, 9, none⟩ = some (.string o) ∧ True) from ⟨bstep zh.1 zb, cellAt zb zh.2.1, cellAt zb zh.2.2.1, cellAt zb zh.2.2.2.1, cellAt zb zh.2.2.2.2.1, cellAt zb zh.2.2.2.2.2.1, cellAt zb zh.2.2.2.2.2.2.1, cellAt zb zh.2.2.2.2.2.2.2.1, cellAt zb zh.2.2.2.2.2.2.2.2.1, trivial⟩))
  have FS := hide (fun (zX : World) (zh : (Below w.heap.size w zX ∧ zX.cell? ⟨w.heap.size, 0, none⟩ = some (.int .u16 s) ∧ zX.cell? ⟨w.heap.size, 1, none⟩ = some (.int .u16 d) ∧ zX.cell? ⟨w.heap.size, 2, none⟩ = some (.int .u32 q) ∧ zX.cell? ⟨w.heap.size, 3, none⟩ = some (.int .u32 k) ∧ zX.cell? ⟨w.heap.size, 6, none⟩ = some (.int .u16 wd) ∧ zX.cell? ⟨w.heap.size, 7, none⟩ = some (.int .u16 n) ∧ zX.cell? ⟨w.heap.size, 8, none⟩ = some (.int .u16 u) ∧ zX.cell? ⟨w.heap.size, 9, none⟩ = some (.string o) ∧ True)) => zh.1)
  have GS := hide (fun (zX : World) (zh : (Below w.heap.size w zX ∧ zX.cell? ⟨w.heap.size, 0, none⟩ = some (.int .u16 s) ∧ zX.cell? ⟨w.heap.size, 1, none⟩ = some (.int .u16 d) ∧ zX.cell? ⟨w.heap.size, 2, none⟩ = some (.int .u32 q) ∧ zX.cell? ⟨w.heap.size, 3, none⟩ = some (.int .u32 k) ∧ zX.cell? ⟨w.heap.size, 6, none⟩ = some (.int .u16 wd) ∧ zX.cell? ⟨w.heap.size, 7, none⟩ = some (.int .u16 n) ∧ zX.cell? ⟨w.heap.size, 8, none⟩ = some (.int .u16 u) ∧ zX.cell? ⟨w.heap.size, 9, none⟩ = some (.string o) ∧ True)) => zh)
  have hS0 : (Below w.heap.size w (w.alloc (.cells #[.int .u16 s, .int .u16 d, .int .u32 q, .int .u32 k, .int .u8 l, .int .u8 f, .int .u16 wd, .int .u16 n, .int .u16 u, .string o] 25)) ∧ (w.alloc (.cells #[.int .u16 s, .int .u16 d, .int .u32 q, .int .u32 k, .int .u8 l, .int .u8 f, .int .u16 wd, .int .u16 n, .int .u16 u, .string o] 25)).cell? ⟨w.heap.size, 0, none⟩ = some (.int .u16 s) ∧ (w.alloc (.cells #[.int .u16 s, .int .u16 d, .int .u32 q, .int .u32 k, .int .u8 l, .int .u8 f, .int .u16 wd, .int .u16 n, .int .u16 u, .string o] 25)).cell? ⟨w.heap.size, 1, none⟩ = some (.int .u16 d) ∧ (w.alloc (.cells #[.int .u16 s, .int .u16 d, .int .u32 q, .int .u32 k, .int .u8 l, .int .u8 f, .int .u16 wd, .int .u16 n, .int .u16 u, .string o] 25)).cell? ⟨w.heap.size, 2, none⟩ = some (.int .u32 q) ∧ (w.alloc (.cells #[.int .u16 s, .int .u16 d, .int .u32 q, .int .u32 k, .int .u8 l, .int .u8 f, .int .u16 wd, .int .u16 n, .int .u16 u, .string o] 25)).cell? ⟨w.heap.size, 3, none⟩ = some (.int .u32 k) ∧ (w.alloc (.cells #[.int .u16 s, .int .u16 d, .int .u32 q, .int .u32 k, .int .u8 l, .int .u8 f, .int .u16 wd, .int .u16 n, .int .u16 u, .string o] 25)).cell? ⟨w.heap.size, 6, none⟩ = some (.int .u16 wd) ∧ (w.alloc (.cells #[.int .u16 s, .int .u16 d, .int .u32 q, .int .u32 k, .int .u8 l, .int .u8 f, .int .u16 wd, .int .u16 n, .int .u16 u, .string o] 25)).cell? ⟨w.heap.size, 7, none⟩ = some (.int .u16 n) ∧ (w.alloc (.cells #[.int .u16 s, .int .u16 d, .int .u32 q, .int .u32 k, .int .u8 l, .int .u8 f, .int .u16 wd, .int .u16 n, .int .u16 u, .string o] 25)).cell? ⟨w.heap.size, 8, none⟩ = some (.int .u16 u) ∧ (w.alloc (.cells #[.int .u16 s, .int .u16 d, .int .u32 q, .int .u32 k, .int .u8 l, .int .u8 f, .int .u16 wd, .int .u16 n, .int .u16 u, .string o] 25)).cell? ⟨w.heap.size, 9, none⟩ = some (.string o) ∧ True) := ⟨(by (repeat' (first | with_reducible exact Below.refl _ _ | with_reducible refine Below.setCell ?_ (by first | exact Nat.le_refl _ | (dsimp only; omega)) _ | with_reducible refine bstep ?_ (fresh_below _ _) | with_reducible refine Below.drew ?_))), d0.at_ 0, d0.at_ 1, d0.at_ 2, d0.at_ 3, d0.at_ 6, d0.at_ 7, d0.at_ 8, d0.at_ 9, trivial⟩
  go_region_held_law (fun w' => (Below w.heap.size w w' ∧ w'.cell? ⟨w.heap.size, 0, none⟩ = some (.int .u16 s) ∧ w'.cell? ⟨w.heap.size, 1, none⟩ = some (.int .u16 d) ∧ w'.cell? ⟨w.heap.size, 2, none⟩ = some (.int .u32 q) ∧ w'.cell? ⟨w.heap.size, 3, none⟩ = some (.int .u32 k) ∧ w'.cell? ⟨w.heap.size, 6, none⟩ = some (.int .u16 wd) ∧ w'.cell? ⟨w.heap.size, 7, none⟩ = some (.int .u16 n) ∧ w'.cell? ⟨w.heap.size, 8, none⟩ = some (.int .u16 u) ∧ w'.cell? ⟨w.heap.size, 9, none⟩ = some (.string o) ∧ True)) (first | assumption | exact SK.out _ _ hS0 (Below.refl _ _).drew | exact SK.out _ _ hS0 (fresh_below _ _).drew | exact SK.out _ _ (by assumption) (fresh_below _ _) | (refine SK.out _ _ ?_ (by assumption); assumption))
    (first | (go_at_call 33; (with_reducible refine (F1.out _ _ (by (repeat' (first | with_reducible refine Row.drawn ?_ | with_reducible exact Row.freshAt _ _ _ _ _ _ (by simp) rfl rfl | (with_reducible refine Row.up ?_ (fresh_below _ _)) | (with_reducible refine Row.up ?_ (by with_reducible assumption)))))).mono ?_); rintro e wq ⟨rfl, bq⟩) | (go_at_call 33; (with_reducible refine (F2.out _ _ (by (repeat' (first | with_reducible refine Row.drawn ?_ | with_reducible exact Row.freshAt _ _ _ _ _ _ (by simp) rfl rfl | (with_reducible refine Row.up ?_ (fresh_below _ _)) | (with_reducible refine Row.up ?_ (by with_reducible assumption)))))).mono ?_); rintro e wq ⟨rfl, bq⟩) | (go_at_call 34; (with_reducible refine (F3.out _).mono ?_); rintro e wq ⟨rfl, bq⟩) | (go_at_call 34; (with_reducible refine (F4.out _).mono ?_); rintro e wq ⟨rfl, bq⟩))
  all_goals
    go_wp2
    go_ret2
    exact ⟨ret_two (v_str HE.out) rfl, (by first | exact FS.out _ (by assumption) | exact bstep (FS.out _ (by assumption)) (fresh_below _ _) | exact bstep (bstep (FS.out _ (by assumption)) (fresh_below _ _)) (fresh_below _ _))⟩
end Go.Proofs.Ytlmpoikjjidgiaa
