/- The number of a tuple by the document, and its chain, over this program. -/
import Derived.Test.YtcghhnehmddoeaaRef12
set_option linter.unusedVariables false
namespace Go.Proofs.Ytcghhnehmddoeaa
open Go.RowKit
attribute [local go_sem] Oper.semAt_some

theorem all_eq (t : Tup) (ht : t.Ok) : t.all = byteInts (byt t.p :: t.bytes) := by
  unfold Tup.all byteInts
  rw [List.map_cons, byt_int _ ht.1.1]
  congr 1
  have := ht.1; omega
theorem shl_mul3 (n : Int) (h : 0 ≤ n ∧ n < 4294967296) : add32 n (shl n 3) = mulUp n 8 := by simp only [shl, mulUp, add32]; omega
theorem shl_mul10 (n : Int) (h : 0 ≤ n ∧ n < 4294967296) : add32 n (shl n 10) = mulUp n 1024 := by simp only [shl, mulUp, add32]; omega
theorem shl_mul15 (n : Int) (h : 0 ≤ n ∧ n < 4294967296) : add32 n (shl n 15) = mulUp n 32768 := by simp only [shl, mulUp, add32]; omega
theorem shr_div6 (n : Int) (h : 0 ≤ n ∧ n < 4294967296) : shr n 6 = n / 64 := by simp only [shr]; omega
theorem shr_div11 (n : Int) (h : 0 ≤ n ∧ n < 4294967296) : shr n 11 = n / 2048 := by simp only [shr]; omega
theorem xor64 (a b : Int) (h1 : 0 ≤ a ∧ a < 4294967296) (h2 : 0 ≤ b ∧ b < 4294967296) : bits .xor .u64 a b = xor_ a b := by
  rw [u64_xor a b h1.1 (by omega) h2.1 (by omega)]; rfl
theorem byteInts_take_snoc (l : List UInt8) (k : Nat) (h : k < l.length) : (byteInts l).take (k + 1) = (byteInts l).take k ++ [at_ l k] := by
  rw [take_snoc_int _ _ (by simpa [byteInts] using h), byteInts_getD l k h]

set_option maxHeartbeats 4000000 in
theorem r12_Number (t : Tup) (ht : t.Ok) (w : World) : Calls Try.prog 58 #[.agg t.cells] w (Ret (.int .u64 t.num) w) := by
  have cb := fun w => r12_Bytes t ht w
  have hall := all_eq t ht
  have hlen : (byt t.p :: t.bytes).length = 13 := rfl
  obtain ⟨l, hl⟩ : ∃ l, l = byt t.p :: t.bytes := ⟨_, rfl⟩
  rw [← hl] at cb hall hlen
  have hsz : (S l).size = 13 := by rw [S_size, hlen]
  have hfin : fin_ ((byteInts l).foldl mix 0) = t.num := by unfold Tup.num; rw [hall]
  obtain ⟨s, hs⟩ : ∃ s, s = S l := ⟨_, rfl⟩
  rw [← hs] at cb hsz
  have hLs : L s = l := by rw [hs]; rfl
  have CB := hide cb; have HF := hide hfin; have HL := hide hLs; have HN := hide hlen
  clear cb hfin hLs hlen hs hl hall
  unfold Tup.cells at CB ⊢
  go_enter Try.func58, Try.ntmps58
  go_wp2_with fail
  refine (CB.out _).mono ?_
  rintro e w1 ⟨rfl, b1⟩
  replace b1 := bstep (fresh_below _ _) b1
  go_wp2_with fail
  go_loopw [4, 5] (fun v i wr => ∃ k : Nat, k ≤ 13 ∧ i = .int .i64 k ∧ v = .int .u64 (((byteInts l).take k).foldl mix 0) ∧ wr = w1) (fun _ i _ => 13 - (intOf i).toNat)
  case atStart => exact ⟨0, Nat.zero_le _, rfl, rfl, rfl⟩
  case round =>
    obtain ⟨k, hk, rfl, rfl, rfl⟩ := hrel
    by_cases hlt : k < 13
    · have hsn := byteInts_take_snoc l k (by rw [HN.out]; exact hlt)
      have hfb := foldl_mix_bd ((byteInts l).take k) 0 (by omega)
      obtain ⟨f, hf⟩ : ∃ f, f = ((byteInts l).take k).foldl mix 0 := ⟨_, rfl⟩
      have hk2 : k < s.size := by omega
      have e1 := getElem_L s k hk2
      rw [HL.out] at e1
      have hend : ((byteInts l).take (k + 1)).foldl mix 0 = mix f ((s[k]'hk2).toNat : Int) := by rw [hsn, List.foldl_append, ← hf, e1]; rfl
      rw [← hf] at hfb ⊢
      have c0 : (((s[k]'hk2).toNat : Nat) : Int) ≤ 255 := by have := (s[k]'hk2).toNat_lt; omega
      have k3 : (k : Int) < (s.size : Int) := by omega
      have a1 := fun w => r12_add f ((s[k]'hk2).toNat : Int) w hfb (by omega)
      have hm1 := add32_bd f ((s[k]'hk2).toNat : Int)
      have hd : mix f ((s[k]'hk2).toNat : Int) = xorDn (mulUp (add32 f ((s[k]'hk2).toNat : Int)) 1024) 64 := rfl
      rw [hd] at hend
      obtain ⟨n1, hn1⟩ : ∃ n, n = add32 f ((s[k]'hk2).toNat : Int) := ⟨_, rfl⟩
      rw [← hn1] at a1 hm1 hend
      have a2 := fun w => r12_shifted n1 10 w hm1 (by omega)
      have a3 := fun w => r12_add n1 (shl n1 10) w hm1 (shl_bd hm1 10)
      rw [shl_mul10 n1 hm1] at a3
      have hm2 := mulUp_bd n1 1024
      obtain ⟨n2, hn2⟩ : ∃ n, n = mulUp n1 1024 := ⟨_, rfl⟩
      obtain ⟨n3, hn3⟩ : ∃ n, n = shl n1 10 := ⟨_, rfl⟩
      rw [← hn2] at a3 hm2 hend
      rw [← hn3] at a2 a3
      have a4 := fun w => r12_right n2 6 w hm2 (by omega)
      have hm4 := shr_bd hm2 6
      have hx := xor64 n2 (shr n2 6) hm2 hm4
      have he : xor_ n2 (shr n2 6) = xorDn n2 64 := by rw [shr_div6 n2 hm2]; rfl
      rw [he, ← hend] at hx
      obtain ⟨n4, hn4⟩ : ∃ n, n = shr n2 6 := ⟨_, rfl⟩
      rw [← hn4] at a4 hx
      have HX := hide hx; have A1 := hide a1; have A2 := hide a2; have A3 := hide a3; have A4 := hide a4
      clear hsn hfb hf e1 hend a1 a2 a3 a4 hm1 hm2 hm4 hx he hn1 hn2 hn3 hn4 hd
      go_wp2_with fail
      refine (A1.out _).mono ?_; rintro e w2 ⟨rfl, rfl⟩
      go_wp2_with fail
      refine (A2.out _).mono ?_; rintro e w2 ⟨rfl, rfl⟩
      go_wp2_with fail
      refine (A3.out _).mono ?_; rintro e w2 ⟨rfl, rfl⟩
      go_wp2_with fail
      refine (A4.out _).mono ?_; rintro e w2 ⟨rfl, rfl⟩
      go_wp2_with fail
      go_roundw
      case rel => exact ⟨k + 1, by omega, by go_num, v_int HX.out, trivial⟩
      case measure => simp [intOf]; omega
    · obtain rfl : k = 13 := by omega
      have e : (byteInts l).take 13 = byteInts l := List.take_of_length_le (by simp [byteInts, HN.out])
      have hfb := foldl_mix_bd (byteInts l) 0 (by omega)
      rw [e]
      obtain ⟨f, hf⟩ : ∃ f, f = (byteInts l).foldl mix 0 := ⟨_, rfl⟩
      have hend := HF.out
      rw [← hf] at hfb hend ⊢
      have hd : fin_ f = mulUp (xorDn (mulUp f 8) 2048) 32768 := rfl
      rw [hd] at hend
      have a1 := fun w => r12_shifted f 3 w hfb (by omega)
      have a2 := fun w => r12_add f (shl f 3) w hfb (shl_bd hfb 3)
      rw [shl_mul3 f hfb] at a2
      have hm2 := mulUp_bd f 8
      obtain ⟨n1, hn1⟩ : ∃ n, n = shl f 3 := ⟨_, rfl⟩
      obtain ⟨n2, hn2⟩ : ∃ n, n = mulUp f 8 := ⟨_, rfl⟩
      rw [← hn1] at a1 a2
      rw [← hn2] at a2 hm2 hend
      have a3 := fun w => r12_right n2 11 w hm2 (by omega)
      have hx := xor64 n2 (shr n2 11) hm2 (shr_bd hm2 11)
      have he : xor_ n2 (shr n2 11) = xorDn n2 2048 := by rw [shr_div11 n2 hm2]; rfl
      rw [he] at hx
      have hm3 := xorDn_bd hm2 (show (0 : Int) < 2048 by omega)
      obtain ⟨n3, hn3⟩ : ∃ n, n = shr n2 11 := ⟨_, rfl⟩
      obtain ⟨n4, hn4⟩ : ∃ n, n = xorDn n2 2048 := ⟨_, rfl⟩
      rw [← hn3] at a3 hx
      rw [← hn4] at hx hm3 hend
      have a4 := fun w => r12_shifted n4 15 w hm3 (by omega)
      have a5 := fun w => r12_add n4 (shl n4 15) w hm3 (shl_bd hm3 15)
      rw [shl_mul15 n4 hm3, hend] at a5
      obtain ⟨n5, hn5⟩ : ∃ n, n = shl n4 15 := ⟨_, rfl⟩
      rw [← hn5] at a4 a5
      have HX := hide hx; have A1 := hide a1; have A2 := hide a2; have A3 := hide a3; have A4 := hide a4; have A5 := hide a5
      clear hfb hf e hend a1 a2 a3 a4 a5 hm2 hm3 hx he hn1 hn2 hn3 hn4 hn5 hd
      go_wp2_with fail
      refine (A1.out _).mono ?_; rintro e w2 ⟨rfl, rfl⟩
      go_wp2_with fail
      refine (A2.out _).mono ?_; rintro e w2 ⟨rfl, rfl⟩
      go_wp2_with fail
      refine (A3.out _).mono ?_; rintro e w2 ⟨rfl, rfl⟩
      go_wp2_with fail
      rw [HX.out]
      refine (A4.out _).mono ?_; rintro e w2 ⟨rfl, rfl⟩
      go_wp2_with fail
      refine (A5.out _).mono ?_; rintro e w2 ⟨rfl, rfl⟩
      go_wp2_with fail
      go_ret
      exact ⟨rfl, b1⟩

theorem r12_Of (t : Tup) (ht : t.Ok) (n : Int) (w : World) (hn : -9223372036854775808 ≤ n ∧ n ≤ 9223372036854775807) :
    Calls Try.prog 54 #[.agg t.cells, .int .i64 n] w (Ret (.int .i64 (t.of n)) w) := by
  obtain ⟨n0, n1⟩ := hn
  have cn := fun w => r12_Number t ht w
  have hb := t.num_bd
  unfold Tup.cells at cn ⊢
  obtain ⟨q, hq⟩ : ∃ q, q = t.num := ⟨_, rfl⟩
  unfold Tup.of
  rw [← hq] at cn hb ⊢
  obtain ⟨q0, q1⟩ := hb
  have CN := hide cn
  clear cn hq
  by_cases h : n < 1
  · have hv : (if n < 1 then (0 : Int) else q % n) = 0 := by rw [if_pos h]
    rw [hv]
    clear hv
    go_enter Try.func54, Try.ntmps54
    go_wp2_with fail
    go_ret
    exact ⟨rfl, fresh_below _ _⟩
  · have hv : (if n < 1 then (0 : Int) else q % n) = q % n := by rw [if_neg h]
    rw [hv]
    clear hv
    have h1 : 1 ≤ n := by omega
    have m0 : 0 ≤ q % n := Int.emod_nonneg _ (by omega)
    have m1 : q % n ≤ q := by
      have h1 := Int.emod_add_mul_ediv q n
      have h2 : 0 ≤ n * (q / n) := Int.mul_nonneg (by omega) (Int.ediv_nonneg q0 (by omega))
      omega
    have k1 : IntKind.u64.wrap n = n := by simp [IntKind.wrap, IntKind.bits, IntKind.signed]; omega
    go_enter Try.func54, Try.ntmps54
    go_wp2_with fail
    refine (CN.out _).mono ?_
    rintro e w1 ⟨rfl, b1⟩
    replace b1 := bstep (fresh_below _ _) b1
    go_wp2_with fail
    go_ret
    exact ⟨rfl, b1⟩
end Go.Proofs.Ytcghhnehmddoeaa
