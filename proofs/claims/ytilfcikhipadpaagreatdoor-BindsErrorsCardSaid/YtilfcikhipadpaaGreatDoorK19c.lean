/- Several texts of this claim, one behind the other. -/
import Derived.Test.YtilfcikhipadpaaGreatDoorK18b
import Derived.Deep.QuietTactic
import Derived.BigQuiet

section
/- The document's answer for tcp (porterref06) over this program: a segment's bytes. -/
set_option linter.unusedVariables false
namespace Go.Proofs.YtilfcikhipadpaaGreatDoor
open Go.RowKit
attribute [local go_sem] Oper.semAt_some

theorem byt_eq (a b : Int) (h0 : 0 ≤ a) (h1 : 0 ≤ b) (h : a % 256 = b % 256) : byt a = byt b := by
  apply UInt8.toNat_inj.1
  rw [byt_toNat, byt_toNat]; omega
/-- the fifth word's bytes by the document -/
theorem off_bytes (s d q k l f wd n u : Int) (o : ByteArray) (hl : 0 ≤ l ∧ l ≤ 15) (hf : 0 ≤ f ∧ f ≤ 255) (ho : o.size ≤ 40) (h4 : o.size % 4 = 0) :
    put16 (Seg.mk s d q k l f wd n u o).off = [byt (80 + 4 * (o.size : Int) + l), byt f] := by
  have e1 : (Seg.mk s d q k l f wd n u o).off / 256 = 80 + 4 * (o.size : Int) + l := by unfold Seg.off; simp only; omega
  have e2 : byt (Seg.mk s d q k l f wd n u o).off = byt f := byt_eq _ _ (by unfold Seg.off; simp only; omega) hf.1 (by unfold Seg.off; simp only; omega)
  unfold put16
  rw [e1, e2]

set_option maxRecDepth 100000 in
set_option maxHeartbeats 2000000 in
theorem r6_Put_yes (s d q k l f wd n u : Int) (o p : ByteArray) (w : World) (hk : (Seg.mk s d q k l f wd n u o).Ok) (hp : p.size ≤ 140737488351232) (h : (Seg.mk s d q k l f wd n u o).may = true) :
    Calls Tryz.prog 131 #[.agg #[.int .u16 s, .int .u16 d, .int .u32 q, .int .u32 k, .int .u8 l, .int .u8 f, .int .u16 wd, .int .u16 n, .int .u16 u, .string o], .string p] w (Ret (.tuple #[.string (S ((Seg.mk s d q k l f wd n u o).put p)), .int .i64 0]) w) := by
  obtain ⟨hs, hd, hq, hkk, ⟨l0, l1⟩, ⟨f0, f1⟩, hw, hn, hu, ho⟩ := hk
  simp only at hs hd hq hkk l0 l1 f0 f1 hw hn hu ho
  unfold Seg.may at h
  simp only [Bool.and_eq_true, decide_eq_true_eq] at h
  obtain ⟨⟨h1, h2⟩, h3⟩ := h
  have hoff := off_bytes s d q k l f wd n u o ⟨l0, h3⟩ ⟨f0, f1⟩ h1 h2
  have hend : S (putW [s, d]) ++ S (put32 q) ++ S (put32 k) ++ S [byt (80 + 4 * (o.size : Int) + l), byt f] ++ S (putW [wd, n, u]) ++ o ++ p = S ((Seg.mk s d q k l f wd n u o).put p) := by
    apply L_inj
    rw [← hoff]
    simp only [L_append, L_S, Seg.put, Seg.head, List.append_assoc, putW, List.flatMap_cons, List.flatMap_nil, List.append_nil]
  have hl1 : ∀ x ∈ [s, d], 0 ≤ x ∧ x ≤ 65535 := by
    intro x hx
    simp only [List.mem_cons, List.not_mem_nil, or_false] at hx
    rcases hx with rfl | rfl <;> omega
  have hl2 : ∀ x ∈ [wd, n, u], 0 ≤ x ∧ x ≤ 65535 := by
    intro x hx
    simp only [List.mem_cons, List.not_mem_nil, or_false] at hx
    rcases hx with rfl | rfl | rfl <;> omega
  have f1' := fun (A : Option Addr) (W : World) (hr : Row W W.heap.size A 2 (ints16 [s, d])) => r_Word A 2 2 [s, d] W hr hl1 (by omega)
  have f2' := fun (A : Option Addr) (W : World) (hr : Row W W.heap.size A 3 (ints16 [wd, n, u])) => r_Word A 3 3 [wd, n, u] W hr hl2 (by omega)
  have f3 := fun W => r_Put32 q W hq.1 hq.2
  have f4 := fun W => r_Put32 k W hkk.1 hkk.2
  obtain ⟨sa, hsa⟩ : ∃ sa, sa = S (putW [s, d]) := ⟨_, rfl⟩
  obtain ⟨sq, hsq⟩ : ∃ sq, sq = S (put32 q) := ⟨_, rfl⟩
  obtain ⟨sk, hsk⟩ : ∃ sk, sk = S (put32 k) := ⟨_, rfl⟩
  obtain ⟨sf, hsf⟩ : ∃ sf, sf = S [byt (80 + 4 * (o.size : Int) + l), byt f] := ⟨_, rfl⟩
  obtain ⟨sz, hsz⟩ : ∃ sz, sz = S (putW [wd, n, u]) := ⟨_, rfl⟩
  have a1 : sa.size = 4 := by rw [hsa]; rfl
  have a2 : sq.size = 4 := by rw [hsq]; rfl
  have a3 : sk.size = 4 := by rw [hsk]; rfl
  have a4 : sf.size = 2 := by rw [hsf]; rfl
  have a5 : sz.size = 6 := by rw [hsz]; rfl
  rw [← hsa, ← hsq, ← hsk, ← hsf, ← hsz] at hend
  rw [← hsa] at f1'; rw [← hsz] at f2'; rw [← hsq] at f3; rw [← hsk] at f4
  have cv : ∀ (W : World) (b : Nat), W.cell? ⟨b, 0, none⟩ = some (.int .u8 (80 + 4 * (o.size : Int) + l)) → W.cell? ⟨b, 1, none⟩ = some (.int .u8 f) → (convert 237 9 (.slice (some ⟨b, 0, none⟩) 2 2)).run Tryz.prog W = .ok (.string sf) W := fun W b h0 h1 => by
    rw [hsf]
    exact run_convert_bytes_arg (P := Tryz.prog) W 237 5 Tryz.underlying237 Tryz.underlying5 b 0 2 2 [80 + 4 * (o.size : Int) + l, f] rfl
      (fun i hi => by
        match i, hi with
        | 0, _ => exact h0
        | 1, _ => exact h1) 9 Tryz.underlying9
  have b5 : (sa ++ sq).size = 8 := by rw [ByteArray.size_append, a1, a2]
  have b6 : (sa ++ sq ++ sk).size = 12 := by rw [ByteArray.size_append, b5, a3]
  have b7 : (sa ++ sq ++ sk ++ sf).size = 14 := by rw [ByteArray.size_append, b6, a4]
  have b8 : (sa ++ sq ++ sk ++ sf ++ sz).size = 20 := by rw [ByteArray.size_append, b7, a5]
  have b9 : (sa ++ sq ++ sk ++ sf ++ sz ++ o).size = 20 + o.size := by rw [ByteArray.size_append, b8]
  have m1 : decide ((0 : Int) < (o.size : Int) % 4) = false := by simp; omega
  have m2 : ¬ (40 : Int) < (o.size : Int) := by omega
  have F1 := hide f1'; have F2 := hide f2'; have F3 := hide f3; have F4 := hide f4; have HE := hide hend
  clear f1' f2' f3 f4 hend hsa hsq hsk hsf hsz hl1 hl2 hs hd hq hkk hw hn hu hoff
  go_enter Tryz.func131, Tryz.ntmps131
  have d0 := Cells.new w #[.int .u16 s, .int .u16 d, .int .u32 q, .int .u32 k, .int .u8 l, .int .u8 f, .int .u16 wd, .int .u16 n, .int .u16 u, .string o] 180
  go_wp2_with fail
  have SK := hide (fun (zX zY : World) (zh : (Below w.heap.size w zX ∧ zX.cell? ⟨w.heap.size, 0, none⟩ = some (.int .u16 s) ∧ zX.cell? ⟨w.heap.size, 1, none⟩ = some (.int .u16 d) ∧ zX.cell? ⟨w.heap.size, 2, none⟩ = some (.int .u32 q) ∧ zX.cell? ⟨w.heap.size, 3, none⟩ = some (.int .u32 k) ∧ zX.cell? ⟨w.heap.size, 4, none⟩ = some (.int .u8 l) ∧ zX.cell? ⟨w.heap.size, 5, none⟩ = some (.int .u8 f) ∧ zX.cell? ⟨w.heap.size, 6, none⟩ = some (.int .u16 wd) ∧ zX.cell? ⟨w.heap.size, 7, none⟩ = some (.int .u16 n) ∧ zX.cell? ⟨w.heap.size, 8, none⟩ = some (.int .u16 u) ∧ zX.cell? ⟨w.heap.size, 9, none⟩ = some (.string o) ∧ True)) (zb : Below zX.heap.size zX zY) => (show (Below w.heap.size w zY ∧ zY.cell? ⟨w.heap.size, 0, none⟩ = some (.int .u16 s) ∧ zY.cell? ⟨w.heap.size, 1, none⟩ = some (.int .u16 d) ∧ zY.cell? ⟨w.heap.size, 2, none⟩ = some (.int .u32 q) ∧ zY.cell? ⟨w.heap.size, 3, none⟩ = some (.int .u32 k) ∧ zY.cell? ⟨w.heap.size, 4, none⟩ = some (.int .u8 l) ∧ zY.cell? ⟨w.heap.size, 5, none⟩ = some (.int .u8 f) ∧ zY.cell? ⟨w.heap.size, 6, none⟩ = some (.int .u16 wd) ∧ zY.cell? ⟨w.heap.size, 7, none⟩ = some (.int .u16 n) ∧ zY.cell? ⟨w.heap.size, 8, none⟩ = some (.int .u16 u) ∧ zY.cell? ⟨w.heap.size, 9, none⟩ = some (.string o) ∧ True) from ⟨bstep zh.1 zb, cellAt zb zh.2.1, cellAt zb zh.2.2.1, cellAt zb zh.2.2.2.1, cellAt zb zh.2.2.2.2.1, cellAt zb zh.2.2.2.2.2.1, cellAt zb zh.2.2.2.2.2.2.1, cellAt zb zh.2.2.2.2.2.2.2.1, cellAt zb zh.2.2.2.2.2.2.2.2.1, cellAt zb zh.2.2.2.2.2.2.2.2.2.1, cellAt zb zh.2.2.2.2.2.2.2.2.2.2.1, trivial⟩))
  have FS := hide (fun (zX : World) (zh : (Below w.heap.size w zX ∧ zX.cell? ⟨w.heap.size, 0, none⟩ = some (.int .u16 s) ∧ zX.cell? ⟨w.heap.size, 1, none⟩ = some (.int .u16 d) ∧ zX.cell? ⟨w.heap.size, 2, none⟩ = some (.int .u32 q) ∧ zX.cell? ⟨w.heap.size, 3, none⟩ = some (.int .u32 k) ∧ zX.cell? ⟨w.heap.size, 4, none⟩ = some (.int .u8 l) ∧ zX.cell? ⟨w.heap.size, 5, none⟩ = some (.int .u8 f) ∧ zX.cell? ⟨w.heap.size, 6, none⟩ = some (.int .u16 wd) ∧ zX.cell? ⟨w.heap.size, 7, none⟩ = some (.int .u16 n) ∧ zX.cell? ⟨w.heap.size, 8, none⟩ = some (.int .u16 u) ∧ zX.cell? ⟨w.heap.size, 9, none⟩ = some (.string o) ∧ True)) => zh.1)
  have GS := hide (fun (zX : World) (zh : (Below w.heap.size w zX ∧ zX.cell? ⟨w.heap.size, 0, none⟩ = some (.int .u16 s) ∧ zX.cell? ⟨w.heap.size, 1, none⟩ = some (.int .u16 d) ∧ zX.cell? ⟨w.heap.size, 2, none⟩ = some (.int .u32 q) ∧ zX.cell? ⟨w.heap.size, 3, none⟩ = some (.int .u32 k) ∧ zX.cell? ⟨w.heap.size, 4, none⟩ = some (.int .u8 l) ∧ zX.cell? ⟨w.heap.size, 5, none⟩ = some (.int .u8 f) ∧ zX.cell? ⟨w.heap.size, 6, none⟩ = some (.int .u16 wd) ∧ zX.cell? ⟨w.heap.size, 7, none⟩ = some (.int .u16 n) ∧ zX.cell? ⟨w.heap.size, 8, none⟩ = some (.int .u16 u) ∧ zX.cell? ⟨w.heap.size, 9, none⟩ = some (.string o) ∧ True)) => zh)
  have hS0 : (Below w.heap.size w (w.alloc (.cells #[.int .u16 s, .int .u16 d, .int .u32 q, .int .u32 k, .int .u8 l, .int .u8 f, .int .u16 wd, .int .u16 n, .int .u16 u, .string o] 180)) ∧ (w.alloc (.cells #[.int .u16 s, .int .u16 d, .int .u32 q, .int .u32 k, .int .u8 l, .int .u8 f, .int .u16 wd, .int .u16 n, .int .u16 u, .string o] 180)).cell? ⟨w.heap.size, 0, none⟩ = some (.int .u16 s) ∧ (w.alloc (.cells #[.int .u16 s, .int .u16 d, .int .u32 q, .int .u32 k, .int .u8 l, .int .u8 f, .int .u16 wd, .int .u16 n, .int .u16 u, .string o] 180)).cell? ⟨w.heap.size, 1, none⟩ = some (.int .u16 d) ∧ (w.alloc (.cells #[.int .u16 s, .int .u16 d, .int .u32 q, .int .u32 k, .int .u8 l, .int .u8 f, .int .u16 wd, .int .u16 n, .int .u16 u, .string o] 180)).cell? ⟨w.heap.size, 2, none⟩ = some (.int .u32 q) ∧ (w.alloc (.cells #[.int .u16 s, .int .u16 d, .int .u32 q, .int .u32 k, .int .u8 l, .int .u8 f, .int .u16 wd, .int .u16 n, .int .u16 u, .string o] 180)).cell? ⟨w.heap.size, 3, none⟩ = some (.int .u32 k) ∧ (w.alloc (.cells #[.int .u16 s, .int .u16 d, .int .u32 q, .int .u32 k, .int .u8 l, .int .u8 f, .int .u16 wd, .int .u16 n, .int .u16 u, .string o] 180)).cell? ⟨w.heap.size, 4, none⟩ = some (.int .u8 l) ∧ (w.alloc (.cells #[.int .u16 s, .int .u16 d, .int .u32 q, .int .u32 k, .int .u8 l, .int .u8 f, .int .u16 wd, .int .u16 n, .int .u16 u, .string o] 180)).cell? ⟨w.heap.size, 5, none⟩ = some (.int .u8 f) ∧ (w.alloc (.cells #[.int .u16 s, .int .u16 d, .int .u32 q, .int .u32 k, .int .u8 l, .int .u8 f, .int .u16 wd, .int .u16 n, .int .u16 u, .string o] 180)).cell? ⟨w.heap.size, 6, none⟩ = some (.int .u16 wd) ∧ (w.alloc (.cells #[.int .u16 s, .int .u16 d, .int .u32 q, .int .u32 k, .int .u8 l, .int .u8 f, .int .u16 wd, .int .u16 n, .int .u16 u, .string o] 180)).cell? ⟨w.heap.size, 7, none⟩ = some (.int .u16 n) ∧ (w.alloc (.cells #[.int .u16 s, .int .u16 d, .int .u32 q, .int .u32 k, .int .u8 l, .int .u8 f, .int .u16 wd, .int .u16 n, .int .u16 u, .string o] 180)).cell? ⟨w.heap.size, 8, none⟩ = some (.int .u16 u) ∧ (w.alloc (.cells #[.int .u16 s, .int .u16 d, .int .u32 q, .int .u32 k, .int .u8 l, .int .u8 f, .int .u16 wd, .int .u16 n, .int .u16 u, .string o] 180)).cell? ⟨w.heap.size, 9, none⟩ = some (.string o) ∧ True) := ⟨(by (repeat' (first | with_reducible exact Below.refl _ _ | with_reducible refine Below.setCell ?_ (by first | exact Nat.le_refl _ | (dsimp only; omega)) _ | with_reducible refine bstep ?_ (fresh_below _ _) | with_reducible refine Below.drew ?_))), d0.at_ 0, d0.at_ 1, d0.at_ 2, d0.at_ 3, d0.at_ 4, d0.at_ 5, d0.at_ 6, d0.at_ 7, d0.at_ 8, d0.at_ 9, trivial⟩
  go_region_held_law (fun w' => (Below w.heap.size w w' ∧ w'.cell? ⟨w.heap.size, 0, none⟩ = some (.int .u16 s) ∧ w'.cell? ⟨w.heap.size, 1, none⟩ = some (.int .u16 d) ∧ w'.cell? ⟨w.heap.size, 2, none⟩ = some (.int .u32 q) ∧ w'.cell? ⟨w.heap.size, 3, none⟩ = some (.int .u32 k) ∧ w'.cell? ⟨w.heap.size, 4, none⟩ = some (.int .u8 l) ∧ w'.cell? ⟨w.heap.size, 5, none⟩ = some (.int .u8 f) ∧ w'.cell? ⟨w.heap.size, 6, none⟩ = some (.int .u16 wd) ∧ w'.cell? ⟨w.heap.size, 7, none⟩ = some (.int .u16 n) ∧ w'.cell? ⟨w.heap.size, 8, none⟩ = some (.int .u16 u) ∧ w'.cell? ⟨w.heap.size, 9, none⟩ = some (.string o) ∧ True)) (first | assumption | exact SK.out _ _ hS0 (Below.refl _ _).drew | exact SK.out _ _ hS0 (fresh_below _ _).drew | exact SK.out _ _ (by assumption) (fresh_below _ _) | (refine SK.out _ _ ?_ (by assumption); assumption))
    (first | (go_at_call 171; (with_reducible refine (F1.out _ _ (by (repeat' (first | with_reducible refine Row.drawn ?_ | with_reducible exact Row.freshAt _ _ _ _ _ _ (by simp) rfl rfl | (with_reducible refine Row.up ?_ (fresh_below _ _)) | (with_reducible refine Row.up ?_ (by with_reducible assumption)))))).mono ?_); rintro e wq ⟨rfl, bq⟩) | (go_at_call 186; (with_reducible refine (F3.out _).mono ?_); rintro e wq ⟨rfl, bq⟩) | (go_at_call 186; (with_reducible refine (F4.out _).mono ?_); rintro e wq ⟨rfl, bq⟩))
  all_goals
    have gs := GS.out _ (by assumption)
    obtain ⟨gb, g0, g1, g2, g3, g4, g5, g6, g7, g8, g9, _⟩ := gs
    go_wp2_with fail
    have kb : Below w.heap.size w (wq.alloc (.cells #[.int .u8 (80 + 4 * (o.size : Int) + l), .int .u8 f] 5)) := bstep gb (fresh_below _ _)
    have k6 : (wq.alloc (.cells #[.int .u8 (80 + 4 * (o.size : Int) + l), .int .u8 f] 5)).cell? ⟨w.heap.size, 6, none⟩ = some (.int .u16 wd) := cellAt (fresh_below _ _) g6
    have k7 : (wq.alloc (.cells #[.int .u8 (80 + 4 * (o.size : Int) + l), .int .u8 f] 5)).cell? ⟨w.heap.size, 7, none⟩ = some (.int .u16 n) := cellAt (fresh_below _ _) g7
    have k8 : (wq.alloc (.cells #[.int .u8 (80 + 4 * (o.size : Int) + l), .int .u8 f] 5)).cell? ⟨w.heap.size, 8, none⟩ = some (.int .u16 u) := cellAt (fresh_below _ _) g8
    have k9 : (wq.alloc (.cells #[.int .u8 (80 + 4 * (o.size : Int) + l), .int .u8 f] 5)).cell? ⟨w.heap.size, 9, none⟩ = some (.string o) := cellAt (fresh_below _ _) g9
    clear g0 g1 g2 g3 g4 g5 g6 g7 g8 g9 gb
    generalize wq.alloc (.cells #[.int .u8 (80 + 4 * (o.size : Int) + l), .int .u8 f] 5) = W2 at *
    have bkb := kb
    have SK := hide (fun (zX zY : World) (zh : (Below w.heap.size w zX ∧ zX.cell? ⟨w.heap.size, 6, none⟩ = some (.int .u16 wd) ∧ zX.cell? ⟨w.heap.size, 7, none⟩ = some (.int .u16 n) ∧ zX.cell? ⟨w.heap.size, 8, none⟩ = some (.int .u16 u) ∧ zX.cell? ⟨w.heap.size, 9, none⟩ = some (.string o) ∧ True)) (zb : Below zX.heap.size zX zY) => (show (Below w.heap.size w zY ∧ zY.cell? ⟨w.heap.size, 6, none⟩ = some (.int .u16 wd) ∧ zY.cell? ⟨w.heap.size, 7, none⟩ = some (.int .u16 n) ∧ zY.cell? ⟨w.heap.size, 8, none⟩ = some (.int .u16 u) ∧ zY.cell? ⟨w.heap.size, 9, none⟩ = some (.string o) ∧ True) from ⟨bstep zh.1 zb, cellAt zb zh.2.1, cellAt zb zh.2.2.1, cellAt zb zh.2.2.2.1, cellAt zb zh.2.2.2.2.1, trivial⟩))
    have FS := hide (fun (zX : World) (zh : (Below w.heap.size w zX ∧ zX.cell? ⟨w.heap.size, 6, none⟩ = some (.int .u16 wd) ∧ zX.cell? ⟨w.heap.size, 7, none⟩ = some (.int .u16 n) ∧ zX.cell? ⟨w.heap.size, 8, none⟩ = some (.int .u16 u) ∧ zX.cell? ⟨w.heap.size, 9, none⟩ = some (.string o) ∧ True)) => zh.1)
    have GS := hide (fun (zX : World) (zh : (Below w.heap.size w zX ∧ zX.cell? ⟨w.heap.size, 6, none⟩ = some (.int .u16 wd) ∧ zX.cell? ⟨w.heap.size, 7, none⟩ = some (.int .u16 n) ∧ zX.cell? ⟨w.heap.size, 8, none⟩ = some (.int .u16 u) ∧ zX.cell? ⟨w.heap.size, 9, none⟩ = some (.string o) ∧ True)) => zh)
    have hS0 : (Below w.heap.size w W2 ∧ W2.cell? ⟨w.heap.size, 6, none⟩ = some (.int .u16 wd) ∧ W2.cell? ⟨w.heap.size, 7, none⟩ = some (.int .u16 n) ∧ W2.cell? ⟨w.heap.size, 8, none⟩ = some (.int .u16 u) ∧ W2.cell? ⟨w.heap.size, 9, none⟩ = some (.string o) ∧ True) := ⟨(by (repeat' (first | with_reducible exact bkb | with_reducible exact Below.refl _ _ | with_reducible refine Below.setCell ?_ (by first | exact Nat.le_refl _ | (dsimp only; omega)) _ | with_reducible refine bstep ?_ (fresh_below _ _) | with_reducible refine Below.drew ?_))), k6, k7, k8, k9, trivial⟩
    go_region_held_law (fun w' => (Below w.heap.size w w' ∧ w'.cell? ⟨w.heap.size, 6, none⟩ = some (.int .u16 wd) ∧ w'.cell? ⟨w.heap.size, 7, none⟩ = some (.int .u16 n) ∧ w'.cell? ⟨w.heap.size, 8, none⟩ = some (.int .u16 u) ∧ w'.cell? ⟨w.heap.size, 9, none⟩ = some (.string o) ∧ True)) (first | assumption | exact SK.out _ _ hS0 (Below.refl _ _).drew | exact SK.out _ _ hS0 (fresh_below _ _).drew | exact SK.out _ _ (by assumption) (fresh_below _ _) | (refine SK.out _ _ ?_ (by assumption); assumption))
      (first | (go_at_call 171; (with_reducible refine (F2.out _ _ (by (repeat' (first | with_reducible refine Row.drawn ?_ | with_reducible exact Row.freshAt _ _ _ _ _ _ (by simp) rfl rfl | (with_reducible refine Row.up ?_ (fresh_below _ _)) | (with_reducible refine Row.up ?_ (by with_reducible assumption)))))).mono ?_); rintro e wq ⟨rfl, bq⟩))
    all_goals
      go_wp2
      go_ret2
      exact ⟨ret_two (v_str HE.out) rfl, (by first | exact FS.out _ (by assumption) | exact bstep (FS.out _ (by assumption)) (fresh_below _ _) | exact bstep (bstep (FS.out _ (by assumption)) (fresh_below _ _)) (fresh_below _ _))⟩
end Go.Proofs.YtilfcikhipadpaaGreatDoor
end

section
/- A segment's header and its bytes: plain facts. No walk. -/
set_option linter.unusedVariables false
namespace Go.Proofs.YtilfcikhipadpaaGreatDoor
open Go.RowKit

/-- no segment's header -/
def segNone : Seg := ⟨0, 0, 0, 0, 0, 0, 0, 0, 0, { data := #[] }⟩
def segRes (s : ByteArray) : Seg := if tcpIs s = true then segOf s else segNone
def segRest (s : ByteArray) : ByteArray := if tcpIs s = true then s.extract (tcpOwn (L s)).toNat s.size else { data := #[] }
def Seg.text (h : Seg) (p : ByteArray) : ByteArray := if h.may = true then S (h.put p) else { data := #[] }
theorem put16_be (a b : UInt8) : put16 ((a.toNat : Int) * 256 + (b.toNat : Int)) = [a, b] := by
  have ha := a.toNat_lt
  have hb := b.toNat_lt
  unfold put16
  congr 1
  · apply UInt8.toNat_inj.1; rw [byt_toNat]; omega
  · congr 1
    apply UInt8.toNat_inj.1; rw [byt_toNat]; omega
theorem put32_be (a b c d : UInt8) : put32 (((a.toNat : Int) * 256 + (b.toNat : Int)) * 65536 + ((c.toNat : Int) * 256 + (d.toNat : Int))) = [a, b, c, d] := by
  have ha := a.toNat_lt
  have hb := b.toNat_lt
  have hc := c.toNat_lt
  have hd := d.toNat_lt
  unfold put32
  rw [show (((a.toNat : Int) * 256 + (b.toNat : Int)) * 65536 + ((c.toNat : Int) * 256 + (d.toNat : Int))) / 65536 = (a.toNat : Int) * 256 + (b.toNat : Int) from by omega,
    show (((a.toNat : Int) * 256 + (b.toNat : Int)) * 65536 + ((c.toNat : Int) * 256 + (d.toNat : Int))) % 65536 = (c.toNat : Int) * 256 + (d.toNat : Int) from by omega, put16_be, put16_be]
  rfl
theorem bb (n : Int) (h0 : 0 ≤ n) (h1 : n ≤ 65535) : ((byt (n / 256)).toNat : Int) * 256 + ((byt n).toNat : Int) = n := by
  rw [byt_int _ (by omega), byt_int _ h0]; omega

theorem twenty {l : List UInt8} (h : 20 ≤ l.length) : ∃ b0 b1 b2 b3 b4 b5 b6 b7 b8 b9 b10 b11 b12 b13 b14 b15 b16 b17 b18 b19 r, l = b0 :: b1 :: b2 :: b3 :: b4 :: b5 :: b6 :: b7 :: b8 :: b9 :: b10 :: b11 :: b12 :: b13 :: b14 :: b15 :: b16 :: b17 :: b18 :: b19 :: r := by
  obtain ⟨b0, l, rfl⟩ := List.exists_cons_of_length_pos (show 0 < l.length by (try simp only [List.length_cons] at h); omega)
  obtain ⟨b1, l, rfl⟩ := List.exists_cons_of_length_pos (show 0 < l.length by (try simp only [List.length_cons] at h); omega)
  obtain ⟨b2, l, rfl⟩ := List.exists_cons_of_length_pos (show 0 < l.length by (try simp only [List.length_cons] at h); omega)
  obtain ⟨b3, l, rfl⟩ := List.exists_cons_of_length_pos (show 0 < l.length by (try simp only [List.length_cons] at h); omega)
  obtain ⟨b4, l, rfl⟩ := List.exists_cons_of_length_pos (show 0 < l.length by (try simp only [List.length_cons] at h); omega)
  obtain ⟨b5, l, rfl⟩ := List.exists_cons_of_length_pos (show 0 < l.length by (try simp only [List.length_cons] at h); omega)
  obtain ⟨b6, l, rfl⟩ := List.exists_cons_of_length_pos (show 0 < l.length by (try simp only [List.length_cons] at h); omega)
  obtain ⟨b7, l, rfl⟩ := List.exists_cons_of_length_pos (show 0 < l.length by (try simp only [List.length_cons] at h); omega)
  obtain ⟨b8, l, rfl⟩ := List.exists_cons_of_length_pos (show 0 < l.length by (try simp only [List.length_cons] at h); omega)
  obtain ⟨b9, l, rfl⟩ := List.exists_cons_of_length_pos (show 0 < l.length by (try simp only [List.length_cons] at h); omega)
  obtain ⟨b10, l, rfl⟩ := List.exists_cons_of_length_pos (show 0 < l.length by (try simp only [List.length_cons] at h); omega)
  obtain ⟨b11, l, rfl⟩ := List.exists_cons_of_length_pos (show 0 < l.length by (try simp only [List.length_cons] at h); omega)
  obtain ⟨b12, l, rfl⟩ := List.exists_cons_of_length_pos (show 0 < l.length by (try simp only [List.length_cons] at h); omega)
  obtain ⟨b13, l, rfl⟩ := List.exists_cons_of_length_pos (show 0 < l.length by (try simp only [List.length_cons] at h); omega)
  obtain ⟨b14, l, rfl⟩ := List.exists_cons_of_length_pos (show 0 < l.length by (try simp only [List.length_cons] at h); omega)
  obtain ⟨b15, l, rfl⟩ := List.exists_cons_of_length_pos (show 0 < l.length by (try simp only [List.length_cons] at h); omega)
  obtain ⟨b16, l, rfl⟩ := List.exists_cons_of_length_pos (show 0 < l.length by (try simp only [List.length_cons] at h); omega)
  obtain ⟨b17, l, rfl⟩ := List.exists_cons_of_length_pos (show 0 < l.length by (try simp only [List.length_cons] at h); omega)
  obtain ⟨b18, l, rfl⟩ := List.exists_cons_of_length_pos (show 0 < l.length by (try simp only [List.length_cons] at h); omega)
  obtain ⟨b19, l, rfl⟩ := List.exists_cons_of_length_pos (show 0 < l.length by (try simp only [List.length_cons] at h); omega)
  exact ⟨b0, b1, b2, b3, b4, b5, b6, b7, b8, b9, b10, b11, b12, b13, b14, b15, b16, b17, b18, b19, l, rfl⟩

end Go.Proofs.YtilfcikhipadpaaGreatDoor
end

section
/- ip over this program: what stands in a header, how many bytes it and its packet have. -/
set_option linter.unusedVariables false
namespace Go.Proofs.YtilfcikhipadpaaGreatDoor
open Go.RowKit
attribute [local go_sem] Oper.semAt_some

/-- how many bytes a header has, and its packet -/
def ipOwn (l : List UInt8) : Int := at_ l 0 % 16 * 4
def ipAll (l : List UInt8) : Int := get16 l 2
def ipFits (s : ByteArray) : Bool := decide (20 ≤ ipOwn (L s)) && decide (ipOwn (L s) ≤ ipAll (L s)) && decide (ipAll (L s) ≤ s.size) && decide (ipAll (L s) ≤ 2048)

end Go.Proofs.YtilfcikhipadpaaGreatDoor
end

section
/- ip.Parse over this program, of what it does not take. -/
set_option linter.unusedVariables false
namespace Go.Proofs.YtilfcikhipadpaaGreatDoor
open Go.RowKit
attribute [local go_sem] Oper.semAt_some

/-- a packet's header -/
structure Hd where
  t : Int
  i : Int
  f : Bool
  l : Int
  p : Int
  s : Int
  d : Int
  o : ByteArray
def Hd.Ok (h : Hd) : Prop := (0 ≤ h.t ∧ h.t ≤ 255) ∧ (0 ≤ h.i ∧ h.i ≤ 65535) ∧ (0 ≤ h.l ∧ h.l ≤ 255) ∧ (0 ≤ h.p ∧ h.p ≤ 255) ∧ (0 ≤ h.s ∧ h.s ≤ 4294967295) ∧ (0 ≤ h.d ∧ h.d ≤ 4294967295) ∧ h.o.size ≤ 140737488351232
def Hd.cells (h : Hd) : Array Value := #[.int .u8 h.t, .int .u16 h.i, .bool h.f, .int .u8 h.l, .int .u8 h.p, .int .u32 h.s, .int .u32 h.d, .string h.o]
def hdNone : Hd := ⟨0, 0, false, 0, 0, 0, 0, { data := #[] }⟩
/-- why a text is no packet -/
def ipWhy (s : ByteArray) : Int :=
  if s.size < 20 then 1 else if at_ (L s) 0 / 16 ≠ 4 then 2 else if ipFits s = false then 3 else if holds [(L s).take (ipOwn (L s)).toNat] = false then 4
  else if get16 (L s) 6 ≠ 0 ∧ get16 (L s) 6 ≠ 16384 then 5 else 0

end Go.Proofs.YtilfcikhipadpaaGreatDoor
end
