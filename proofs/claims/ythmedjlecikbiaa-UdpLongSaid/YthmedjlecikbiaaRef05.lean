/- The document's answer for udp (porterref05) over this program. -/
import Derived.Test.YthmedjlecikbiaaRef02
import Derived.Test.YthmedjlecikbiaaNum
import Derived.Test.YthmedjlecikbiaaHeap
import Derived.Deep.RegionHeldLaw
import Derived.Deep.RegionHeld3
set_option linter.unusedVariables false
namespace Go.Proofs.Ythmedjlecikbiaa
open Go.RowKit
attribute [local go_sem] Oper.semAt_some

theorem r5_word (s : ByteArray) (i : Int) (w : World) (hs : s.size ≤ maxLen) (h1 : -9223372036854775808 ≤ i ∧ i ≤ 9223372036854775807) :
    Calls Try.prog 19 #[.string s, .int .i64 i] w (Ret (.int .u16 (get16 (L s) i)) w) := by
  have c := fun w => r_Get16 s i w hs h1
  obtain ⟨x, hx⟩ : ∃ x, x = get16 (L s) i := ⟨_, rfl⟩
  obtain ⟨h, hh⟩ : ∃ x, x = has s.size i 2 := ⟨_, rfl⟩
  rw [← hx, ← hh] at c
  rw [← hx]
  have C := hide c
  clear c hx hh
  go_enter Try.func19, Try.ntmps19
  go_wp2_with fail
  refine (C.out _).mono ?_
  rintro e w1 ⟨rfl, b1⟩
  go_wp2_with fail
  go_ret
  exact ⟨rfl, b1⟩

/-- is it a datagram -/
def udpIs (s : ByteArray) : Bool := decide (8 ≤ s.size) && decide (get16 (L s) 4 = s.size)
def udpHead (l : List UInt8) : Value := .agg #[.int .u16 (get16 l 0), .int .u16 (get16 l 2), .int .u16 (get16 l 4), .int .u16 (get16 l 6)]
def udpNone : Value := .agg #[.int .u16 0, .int .u16 0, .int .u16 0, .int .u16 0]

theorem r5_Parse_no (s : ByteArray) (w : World) (hs : s.size ≤ maxLen) (h : udpIs s = false) :
    Calls Try.prog 10 #[.string s] w (Ret (.tuple #[udpNone, .string (S []), .bool false]) w) := by
  unfold maxLen at hs
  by_cases h8 : s.size < 8
  · unfold udpNone
    go_enter Try.func10, Try.ntmps10
    go_wp2_with fail
    (try simp only [Exit.inBlock, Exit.then]); refine bodyPost_ret (by simp [results, Try.results10, go_sem]; try rfl) rfl ?_
    exact ⟨rfl, fresh_below _ _⟩
  · have c := fun w => r5_word s 4 w hs (by omega)
    have hx0 : get16 (L s) 4 ≠ s.size := by unfold udpIs at h; simp at h; exact h (by omega)
    have hb := get16_bd (L s) 4
    obtain ⟨x, hx⟩ : ∃ x, x = get16 (L s) 4 := ⟨_, rfl⟩
    rw [← hx] at c hx0 hb
    have q1 : (x != (s.size : Int)) = true := by simp [hx0]
    have q2 : ¬ (s.size : Int) < 8 := by omega
    have C := hide c
    clear c hx h
    unfold udpNone
    go_enter Try.func10, Try.ntmps10
    go_wp2_with fail
    refine (C.out _).mono ?_
    rintro e w1 ⟨rfl, b1⟩
    have d1 := Cells.below b1 (Cells.new w _ _)
    obtain ⟨⟨x0, x1, x2, x3⟩, f0, f1, f2, f3⟩ := d1.four
    replace b1 := bstep (fresh_below _ _) b1
    go_wp2_with fail
    (try simp only [Exit.inBlock, Exit.then]); refine bodyPost_ret (by simp [results, Try.results10, go_sem, *]; try rfl) rfl ?_
    exact ⟨rfl, (((b1.setCell (p := ⟨w.heap.size, 0, none⟩) (Nat.le_refl _) _).setCell (p := ⟨w.heap.size, 1, none⟩) (Nat.le_refl _) _).setCell (p := ⟨w.heap.size, 2, none⟩) (Nat.le_refl _) _).setCell (p := ⟨w.heap.size, 3, none⟩) (Nat.le_refl _) _⟩

theorem r5_Parse_yes (s : ByteArray) (w : World) (hs : s.size ≤ maxLen) (h : udpIs s = true) :
    Calls Try.prog 10 #[.string s] w (Ret (.tuple #[udpHead (L s), .string (S ((L s).drop 8)), .bool true]) w) := by
  unfold maxLen at hs
  have h' := h
  unfold udpIs at h'
  simp at h'
  obtain ⟨h8, hl⟩ := h'
  have c0 := fun w => r5_word s 0 w hs (by omega)
  have c2 := fun w => r5_word s 2 w hs (by omega)
  have c4 := fun w => r5_word s 4 w hs (by omega)
  have c6 := fun w => r5_word s 6 w hs (by omega)
  have hb := get16_bd (L s) 4
  have he : s.extract 8 s.size = S ((L s).drop 8) := eq_S (L_from s 8)
  unfold udpHead
  obtain ⟨x0, e0⟩ : ∃ x, x = get16 (L s) 0 := ⟨_, rfl⟩
  obtain ⟨x2, e2⟩ : ∃ x, x = get16 (L s) 2 := ⟨_, rfl⟩
  obtain ⟨x4, e4⟩ : ∃ x, x = get16 (L s) 4 := ⟨_, rfl⟩
  obtain ⟨x6, e6⟩ : ∃ x, x = get16 (L s) 6 := ⟨_, rfl⟩
  rw [← e0] at c0 ⊢
  rw [← e2] at c2 ⊢
  rw [← e4] at c4 hl hb ⊢
  rw [← e6] at c6 ⊢
  subst hl
  have q2 : ¬ (s.size : Int) < 8 := by omega
  have C0 := hide c0; have C2 := hide c2; have C4 := hide c4; have C6 := hide c6; have HE := hide he
  clear c0 c2 c4 c6 e0 e2 e4 e6 he h
  go_enter Try.func10, Try.ntmps10
  go_wp2_with fail
  refine (C4.out _).mono ?_
  rintro e w1 ⟨rfl, b1⟩
  have d1 := Cells.below b1 (Cells.new w _ _)
  obtain ⟨⟨x0, x1, x2, x3⟩, f0, f1, f2, f3⟩ := d1.four
  replace b1 := bstep (fresh_below _ _) b1
  go_wp2_with fail
  go_region_held3 (fun _ => True) (trivial)
    (first | (go_at_call 19; (with_reducible refine (C0.out _).mono ?_); rintro e w2 ⟨rfl, b2⟩; have d2 := Cells.below b2 d1; obtain ⟨⟨x0, x1, x2, x3⟩, f0, f1, f2, f3⟩ := d2.four) | (go_at_call 19; (with_reducible refine (C2.out _).mono ?_); rintro e w3 ⟨rfl, b3⟩; have d3 := Cells.below b3 d2; obtain ⟨⟨x0, x1, x2, x3⟩, f0, f1, f2, f3⟩ := d3.four) | (go_at_call 19; (with_reducible refine (C4.out _).mono ?_); rintro e w4 ⟨rfl, b4⟩; have d4 := Cells.below b4 d3; obtain ⟨⟨x0, x1, x2, x3⟩, f0, f1, f2, f3⟩ := d4.four) | (go_at_call 19; (with_reducible refine (C6.out _).mono ?_); rintro e w5 ⟨rfl, b5⟩; have d5 := Cells.below b5 d4; obtain ⟨⟨x0, x1, x2, x3⟩, f0, f1, f2, f3⟩ := d5.four))
  go_wp2
  (try simp only [Exit.inBlock, Exit.then]); refine bodyPost_ret (by simp [results, Try.results10, go_sem, *]; try rfl) rfl ?_
  exact ⟨by rw [HE.out], ((((bstep (bstep (bstep (bstep b1.drew b2) b3) b4) b5).setCell (p := ⟨w.heap.size, 0, none⟩) (Nat.le_refl _) _).setCell (p := ⟨w.heap.size, 1, none⟩) (Nat.le_refl _) _).setCell (p := ⟨w.heap.size, 2, none⟩) (Nat.le_refl _) _).setCell (p := ⟨w.heap.size, 3, none⟩) (Nat.le_refl _) _⟩

/-- the words of a datagram's header -/
def udpWords (a b c d : Int) : List UInt8 := putW [a, b, c, d]
set_option maxHeartbeats 1000000 in
theorem r5_Put (a b n d : Int) (p : ByteArray) (w : World) (ha : 0 ≤ a ∧ a ≤ 65535) (hb : 0 ≤ b ∧ b ≤ 65535) (hd : 0 ≤ d ∧ d ≤ 65535) (hp : p.size ≤ 140737488351232) :
    Calls Try.prog 12 #[.agg #[.int .u16 a, .int .u16 b, .int .u16 n, .int .u16 d], .string p] w (Ret (.string (S (udpWords a b ((8 + p.size) % 65536) d ++ L p))) w) := by
  have hl : ∀ x ∈ [a, b, (8 + (p.size : Int)) % 65536, d], 0 ≤ x ∧ x ≤ 65535 := by
    intro x hx
    simp only [List.mem_cons, List.not_mem_nil, or_false] at hx
    rcases hx with rfl | rfl | rfl | rfl <;> omega
  have c1 := fun W => r_Word (some ⟨w.heap.size + 1, 0, none⟩) 4 4 [a, b, (8 + (p.size : Int)) % 65536, d] ((w.alloc W).alloc (.cells #[.int .u16 a, .int .u16 b, .int .u16 ((8 + (p.size : Int)) % 65536), .int .u16 d] 22)) (Row.freshAt (w.alloc W) #[.int .u16 a, .int .u16 b, .int .u16 ((8 + (p.size : Int)) % 65536), .int .u16 d] 22 (w.heap.size + 1) _ _ (by simp) rfl rfl) hl (by omega)
  obtain ⟨s, hs⟩ : ∃ s, s = S (putW [a, b, (8 + (p.size : Int)) % 65536, d]) := ⟨_, rfl⟩
  have hz : s.size = 8 := by rw [hs]; rfl
  have hend : S (udpWords a b ((8 + p.size) % 65536) d ++ L p) = s ++ p := by rw [hs, udpWords, ← S_append, S_L]
  rw [← hs] at c1
  obtain ⟨a0, a1⟩ := ha
  obtain ⟨b0, b1⟩ := hb
  obtain ⟨d0, d1⟩ := hd
  have C1 := hide c1; have HE := hide hend
  clear c1 hend hl hs
  go_enter Try.func12, Try.ntmps12
  go_wp2_with fail
  refine (C1.out _).mono ?_
  rintro e w1 ⟨rfl, k1⟩
  replace k1 := bstep (bstep (fresh_below w _) (fresh_below _ _)) k1
  go_wp2_with fail
  go_ret
  exact ⟨ret_str HE.out.symm, k1⟩

set_option maxHeartbeats 1000000 in
theorem udp_Put (a b n d : Int) (p : ByteArray) (w : World) (ha : 0 ≤ a ∧ a ≤ 65535) (hb : 0 ≤ b ∧ b ≤ 65535) (hd : 0 ≤ d ∧ d ≤ 65535) (hp : p.size ≤ 140737488351232) :
    Calls Try.prog 11 #[.agg #[.int .u16 a, .int .u16 b, .int .u16 n, .int .u16 d], .string p] w (Ret (.string (S (udpWords a b ((8 + p.size) % 65536) d ++ L p))) w) := by
  have hl : ∀ x ∈ [a, b, (8 + (p.size : Int)) % 65536, d], 0 ≤ x ∧ x ≤ 65535 := by
    intro x hx
    simp only [List.mem_cons, List.not_mem_nil, or_false] at hx
    rcases hx with rfl | rfl | rfl | rfl <;> omega
  have c1 := fun W => Word (some ⟨w.heap.size + 1, 0, none⟩) 4 4 [a, b, (8 + (p.size : Int)) % 65536, d] ((w.alloc W).alloc (.cells #[.int .u16 a, .int .u16 b, .int .u16 ((8 + (p.size : Int)) % 65536), .int .u16 d] 22)) (Row.freshAt (w.alloc W) #[.int .u16 a, .int .u16 b, .int .u16 ((8 + (p.size : Int)) % 65536), .int .u16 d] 22 (w.heap.size + 1) _ _ (by simp) rfl rfl) hl (by omega)
  obtain ⟨s, hs⟩ : ∃ s, s = S (putW [a, b, (8 + (p.size : Int)) % 65536, d]) := ⟨_, rfl⟩
  have hz : s.size = 8 := by rw [hs]; rfl
  have hend : S (udpWords a b ((8 + p.size) % 65536) d ++ L p) = s ++ p := by rw [hs, udpWords, ← S_append, S_L]
  rw [← hs] at c1
  obtain ⟨a0, a1⟩ := ha
  obtain ⟨b0, b1⟩ := hb
  obtain ⟨d0, d1⟩ := hd
  have C1 := hide c1; have HE := hide hend
  clear c1 hend hl hs
  go_enter Try.func11, Try.ntmps11
  go_wp2_with fail
  refine (C1.out _).mono ?_
  rintro e w1 ⟨rfl, k1⟩
  replace k1 := bstep (bstep (fresh_below w _) (fresh_below _ _)) k1
  go_wp2_with fail
  go_ret
  exact ⟨ret_str HE.out.symm, k1⟩

end Go.Proofs.Ythmedjlecikbiaa
