/- The document's answer for hashes (porterref12) over this program: the same words as the package's. -/
import Derived.Test.YtcghhnehmddoeaaHash2
import Derived.Test.YtcghhnehmddoeaaRef01
import Derived.Deep.RegionHeldLaw
set_option linter.unusedVariables false
namespace Go.Proofs.Ytcghhnehmddoeaa
open Go.RowKit
attribute [local go_sem] Oper.semAt_some

theorem r12_add (a b : Int) (w : World) (ha : 0 ≤ a ∧ a < 4294967296) (hb : 0 ≤ b ∧ b < 4294967296) :
    Calls Try.prog 62 #[.int .u64 a, .int .u64 b] w fun e w' => e = .returned (.int .u64 (add32 a b)) ∧ w = w' := by
  obtain ⟨a0, a1⟩ := ha
  obtain ⟨b0, b1⟩ := hb
  have k1 : IntKind.u64.wrap (a + b) = a + b := by simp [IntKind.wrap, IntKind.bits, IntKind.signed]; omega
  go_enter Try.func62, Try.ntmps62
  go_wp2
  go_ret
  exact ⟨ret_int (by unfold add32; omega), rfl⟩

/-- n shifted left, k times -/
def shl (n : Int) : Nat → Int
  | 0 => n
  | k + 1 => 2 * shl n k % 4294967296
theorem shl_bd {n : Int} (h : 0 ≤ n ∧ n < 4294967296) : ∀ k, 0 ≤ shl n k ∧ shl n k < 4294967296
  | 0 => h
  | k + 1 => by unfold shl; omega
def shr (n : Int) : Nat → Int
  | 0 => n
  | k + 1 => shr n k / 2
theorem shr_bd {n : Int} (h : 0 ≤ n ∧ n < 4294967296) : ∀ k, 0 ≤ shr n k ∧ shr n k < 4294967296
  | 0 => h
  | k + 1 => by have := shr_bd h k; unfold shr; omega

theorem r12_shifted (n : Int) (m : Nat) (w : World) (h : 0 ≤ n ∧ n < 4294967296) (hm : m ≤ 100) :
    Calls Try.prog 63 #[.int .u64 n, .int .i64 m] w fun e w' => e = .returned (.int .u64 (shl n m)) ∧ w = w' := by
  have HH := hide h
  clear h
  go_enter Try.func63, Try.ntmps63
  go_wp2_with fail
  go_loopw [0, 5] (fun v i wr => ∃ k : Nat, k ≤ m ∧ i = .int .i64 k ∧ v = .int .u64 (shl n k) ∧ w = wr) (fun _ i _ => m - (intOf i).toNat)
  case atStart => exact ⟨0, Nat.zero_le _, rfl, rfl, rfl⟩
  case round =>
    obtain ⟨k, hk, rfl, rfl, rfl⟩ := hrel
    obtain ⟨p0, p1⟩ := shl_bd HH.out k
    by_cases hlt : k < m
    · obtain ⟨x, hx⟩ : ∃ x, x = shl n k := ⟨_, rfl⟩
      have hend : shl n (k + 1) = 2 * x % 4294967296 := by rw [hx]; rfl
      rw [← hx] at p0 p1 ⊢
      have HE := hide hend
      clear hend hx
      have k1 : IntKind.u64.wrap (2 * x) = 2 * x := by simp [IntKind.wrap, IntKind.bits, IntKind.signed]; omega
      go_wp2_with fail
      go_roundw
      case rel => exact ⟨k + 1, by omega, by go_num, v_int (by rw [HE.out]), trivial⟩
      case measure => simp [intOf]; omega
    · obtain rfl : k = m := by omega
      go_wp2_with fail
      go_ret
      exact ⟨rfl, rfl⟩

theorem r12_right (n : Int) (m : Nat) (w : World) (h : 0 ≤ n ∧ n < 4294967296) (hm : m ≤ 100) :
    Calls Try.prog 64 #[.int .u64 n, .int .i64 m] w fun e w' => e = .returned (.int .u64 (shr n m)) ∧ w = w' := by
  have HH := hide h
  clear h
  go_enter Try.func64, Try.ntmps64
  go_wp2_with fail
  go_loopw [0, 5] (fun v i wr => ∃ k : Nat, k ≤ m ∧ i = .int .i64 k ∧ v = .int .u64 (shr n k) ∧ w = wr) (fun _ i _ => m - (intOf i).toNat)
  case atStart => exact ⟨0, Nat.zero_le _, rfl, rfl, rfl⟩
  case round =>
    obtain ⟨k, hk, rfl, rfl, rfl⟩ := hrel
    obtain ⟨p0, p1⟩ := shr_bd HH.out k
    by_cases hlt : k < m
    · obtain ⟨x, hx⟩ : ∃ x, x = shr n k := ⟨_, rfl⟩
      have hend : shr n (k + 1) = x / 2 := by rw [hx]; rfl
      rw [← hx] at p0 p1 ⊢
      have HE := hide hend
      clear hend hx
      have k1 : x.tdiv 2 = x / 2 := Int.tdiv_eq_ediv_of_nonneg p0
      have k2 : IntKind.u64.wrap (x / 2) = x / 2 := by simp [IntKind.wrap, IntKind.bits, IntKind.signed]; omega
      go_wp2_with fail
      go_roundw
      case rel => exact ⟨k + 1, by omega, by go_num, v_int (by rw [HE.out]), trivial⟩
      case measure => simp [intOf]; omega
    · obtain rfl : k = m := by omega
      go_wp2_with fail
      go_ret
      exact ⟨rfl, rfl⟩

theorem convAt {c : Int} {W : World} {b : Nat} {s : ByteArray} (hs : s = S [byt c]) (h : W.cell? ⟨b, 0, none⟩ = some (.int .u8 c)) : (convert 73 9 (.slice (some ⟨b, 0, none⟩) 1 1)).run Try.prog W = .ok (.string s) W := by
  subst hs
  exact run_convert_bytes_arg (P := Try.prog) W 73 5 Try.underlying73 Try.underlying5 b 0 1 1 [c] rfl
    (fun i hi => by
      match i, hi with
      | 0, _ => exact h) 9 Try.underlying9
set_option maxHeartbeats 2000000 in
theorem r12_Bytes (t : Tup) (ht : t.Ok) (w : World) : Calls Try.prog 61 #[.agg t.cells] w (Ret (.string (S (byt t.p :: t.bytes))) w) := by
  obtain ⟨⟨p0, p1⟩, ⟨si0, si1⟩, ⟨sp0, sp1⟩, ⟨di0, di1⟩, ⟨dp0, dp1⟩⟩ := ht
  have c1 := fun w => r_Put32 t.si w si0 si1
  have c2 := fun w => r_Put16 t.sp w sp0 sp1
  have c3 := fun w => r_Put32 t.di w di0 di1
  have c4 := fun w => r_Put16 t.dp w dp0 dp1
  have hend : S (byt t.p :: t.bytes) = S [byt t.p] ++ S (put32 t.si) ++ S (put16 t.sp) ++ S (put32 t.di) ++ S (put16 t.dp) := by
    simp only [S_append]; rfl
  have s0 : (S [byt t.p]).size = 1 := rfl
  have s1 : (S (put32 t.si)).size = 4 := rfl
  have s2 : (S (put16 t.sp)).size = 2 := rfl
  have s3 : (S (put32 t.di)).size = 4 := rfl
  have s4 : (S (put16 t.dp)).size = 2 := rfl
  obtain ⟨e0, h0⟩ : ∃ x, x = S [byt t.p] := ⟨_, rfl⟩
  obtain ⟨e1, h1⟩ : ∃ x, x = S (put32 t.si) := ⟨_, rfl⟩
  obtain ⟨e2, h2⟩ : ∃ x, x = S (put16 t.sp) := ⟨_, rfl⟩
  obtain ⟨e3, h3⟩ : ∃ x, x = S (put32 t.di) := ⟨_, rfl⟩
  obtain ⟨e4, h4⟩ : ∃ x, x = S (put16 t.dp) := ⟨_, rfl⟩
  have H0 := hide h0; rw [← h0] at s0; rw [← h1] at c1 s1; rw [← h2] at c2 s2; rw [← h3] at c3 s3; rw [← h4] at c4 s4
  rw [← h0, ← h1, ← h2, ← h3, ← h4] at hend
  unfold Tup.cells
  have HE := hide hend; have C1 := hide c1; have C2 := hide c2; have C3 := hide c3; have C4 := hide c4
  clear hend c1 c2 c3 c4 h0 h1 h2 h3 h4
  go_enter Try.func61, Try.ntmps61
  go_wp2_with fail
  have d1 := heap_alloc_new w (.cells t.cells 56)
  have b0 := fresh_below w (.cells t.cells 56)
  unfold Tup.cells at d1 b0
  generalize w.alloc (.cells #[.int .u8 t.p, .int .u32 t.si, .int .u16 t.sp, .int .u32 t.di, .int .u16 t.dp] 56) = W0 at *
  have e := fun i => Lib.cell_of_heap d1 i
  have x0 : W0.cell? ⟨w.heap.size, 0, none⟩ = some (.int .u8 t.p) := e 0
  have x1 : W0.cell? ⟨w.heap.size, 1, none⟩ = some (.int .u32 t.si) := e 1
  have x2 : W0.cell? ⟨w.heap.size, 2, none⟩ = some (.int .u16 t.sp) := e 2
  have x3 : W0.cell? ⟨w.heap.size, 3, none⟩ = some (.int .u32 t.di) := e 3
  have x4 : W0.cell? ⟨w.heap.size, 4, none⟩ = some (.int .u16 t.dp) := e 4
  clear e d1
  have cA : ∀ (W : World) (o : Obj) (p : Addr) (v : Value), W.cell? p = some v → (W.alloc o).drew.cell? p = some v := fun W o p v h => cellAt (fresh_below W o).drew h
  have cB : ∀ (W : World) (o : Obj) (p : Addr) (v : Value), W.cell? p = some v → (W.alloc o).cell? p = some v := fun W o p v h => cellAt (fresh_below W o) h
  have qB : ∀ (W : World) (c : Int), (W.alloc (.cells #[.int .u8 c] 5)).cell? ⟨W.heap.size, 0, none⟩ = some (.int .u8 c) := fun W c => Lib.cell_of_heap (heap_alloc_new W _) 0
  have qA : ∀ (W : World) (c : Int), (W.alloc (.cells #[.int .u8 c] 5)).drew.cell? ⟨W.heap.size, 0, none⟩ = some (.int .u8 c) := fun W c => Lib.cell_of_heap (heap_alloc_new W _) 0
  have kA : ∀ (W : World) (b : Nat), W.cell? ⟨b, 0, none⟩ = some (.int .u8 t.p) → (convert 73 9 (.slice (some ⟨b, 0, none⟩) 1 1)).run Try.prog W = .ok (.string e0) W := fun W b h => convAt H0.out h
  go_region_held_law (fun w' => w'.cell? ⟨w.heap.size, 0, none⟩ = some (.int .u8 t.p) ∧ w'.cell? ⟨w.heap.size, 1, none⟩ = some (.int .u32 t.si) ∧ w'.cell? ⟨w.heap.size, 2, none⟩ = some (.int .u16 t.sp) ∧ w'.cell? ⟨w.heap.size, 3, none⟩ = some (.int .u32 t.di) ∧ w'.cell? ⟨w.heap.size, 4, none⟩ = some (.int .u16 t.dp)) (simp [*])
    (first | (go_at_call 36; (with_reducible refine (C1.out _).mono ?_); clear C1; rintro e w1 ⟨rfl, b1⟩; have z10 := cellAt b1 (show World.cell? _ ⟨w.heap.size, 0, none⟩ = some (.int .u8 t.p) from by simp [*]); have z11 := cellAt b1 (show World.cell? _ ⟨w.heap.size, 1, none⟩ = some (.int .u32 t.si) from by simp [*]); have z12 := cellAt b1 (show World.cell? _ ⟨w.heap.size, 2, none⟩ = some (.int .u16 t.sp) from by simp [*]); have z13 := cellAt b1 (show World.cell? _ ⟨w.heap.size, 3, none⟩ = some (.int .u32 t.di) from by simp [*]); have z14 := cellAt b1 (show World.cell? _ ⟨w.heap.size, 4, none⟩ = some (.int .u16 t.dp) from by simp [*]); try have q1 := cellAt b1 (qA _ _)) | (go_at_call 34; (with_reducible refine (C2.out _).mono ?_); clear C2; rintro e w2 ⟨rfl, b2⟩; have z20 := cellAt b2 (show World.cell? _ ⟨w.heap.size, 0, none⟩ = some (.int .u8 t.p) from by simp [*]); have z21 := cellAt b2 (show World.cell? _ ⟨w.heap.size, 1, none⟩ = some (.int .u32 t.si) from by simp [*]); have z22 := cellAt b2 (show World.cell? _ ⟨w.heap.size, 2, none⟩ = some (.int .u16 t.sp) from by simp [*]); have z23 := cellAt b2 (show World.cell? _ ⟨w.heap.size, 3, none⟩ = some (.int .u32 t.di) from by simp [*]); have z24 := cellAt b2 (show World.cell? _ ⟨w.heap.size, 4, none⟩ = some (.int .u16 t.dp) from by simp [*]); (first | (have q2 := cellAt b2 (qA _ _)) | (have q2 := cellAt b2 (qB _ _)) | (have q2 := cellAt b2 q1) | skip)))
  all_goals
    go_wp2_with fail
    go_region_held_law (fun w' => w'.cell? ⟨w.heap.size, 0, none⟩ = some (.int .u8 t.p) ∧ w'.cell? ⟨w.heap.size, 1, none⟩ = some (.int .u32 t.si) ∧ w'.cell? ⟨w.heap.size, 2, none⟩ = some (.int .u16 t.sp) ∧ w'.cell? ⟨w.heap.size, 3, none⟩ = some (.int .u32 t.di) ∧ w'.cell? ⟨w.heap.size, 4, none⟩ = some (.int .u16 t.dp)) (simp [*])
      (first | (go_at_call 36; (with_reducible refine (C3.out _).mono ?_); clear C3; rintro e w3 ⟨rfl, b3⟩; have z30 := cellAt b3 (show World.cell? _ ⟨w.heap.size, 0, none⟩ = some (.int .u8 t.p) from by simp [*]); have z31 := cellAt b3 (show World.cell? _ ⟨w.heap.size, 1, none⟩ = some (.int .u32 t.si) from by simp [*]); have z32 := cellAt b3 (show World.cell? _ ⟨w.heap.size, 2, none⟩ = some (.int .u16 t.sp) from by simp [*]); have z33 := cellAt b3 (show World.cell? _ ⟨w.heap.size, 3, none⟩ = some (.int .u32 t.di) from by simp [*]); have z34 := cellAt b3 (show World.cell? _ ⟨w.heap.size, 4, none⟩ = some (.int .u16 t.dp) from by simp [*])) | (go_at_call 34; (with_reducible refine (C4.out _).mono ?_); clear C4; rintro e w4 ⟨rfl, b4⟩; have z40 := cellAt b4 (show World.cell? _ ⟨w.heap.size, 0, none⟩ = some (.int .u8 t.p) from by simp [*]); have z41 := cellAt b4 (show World.cell? _ ⟨w.heap.size, 1, none⟩ = some (.int .u32 t.si) from by simp [*]); have z42 := cellAt b4 (show World.cell? _ ⟨w.heap.size, 2, none⟩ = some (.int .u16 t.sp) from by simp [*]); have z43 := cellAt b4 (show World.cell? _ ⟨w.heap.size, 3, none⟩ = some (.int .u32 t.di) from by simp [*]); have z44 := cellAt b4 (show World.cell? _ ⟨w.heap.size, 4, none⟩ = some (.int .u16 t.dp) from by simp [*])))
    go_wp2
    go_ret
    refine ⟨ret_str HE.out.symm, ?_⟩
    repeat' (first | exact b0 | refine bstep ?_ b4 | refine bstep ?_ b3 | refine bstep ?_ b2 | refine bstep ?_ b1 | refine Below.drew ?_ | refine bstep ?_ (fresh_below _ _))
end Go.Proofs.Ytcghhnehmddoeaa
