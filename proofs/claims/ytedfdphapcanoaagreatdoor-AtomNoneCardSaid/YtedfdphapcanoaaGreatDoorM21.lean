/- Several texts of this claim, one behind the other. -/
import Derived.Test.YtedfdphapcanoaaGreatDoorM15
import Derived.Test.YtedfdphapcanoaaGreatDoorM20
import Derived.Test.YtedfdphapcanoaaGreatDoorM0
import Derived.Test.YtedfdphapcanoaaGreatDoorM1
import Derived.Deep.RegionHeldLaw
import Derived.Deep.RegionHeld3

section
/- The document's answer for sums (porterref02) over this program: the same words as the package's. -/
set_option linter.unusedVariables false
namespace Go.Proofs.YtedfdphapcanoaaGreatDoor
open Go.RowKit

theorem r_Add (a b : Int) (w : World) (ha : 0 ≤ a ∧ a ≤ 65535) (hb : 0 ≤ b ∧ b ≤ 65535) :
    Calls Tryz.prog 232 #[.int .u16 a, .int .u16 b] w fun e w' => e = .returned (.int .u16 (add1 a b)) ∧ w = w' := by
  obtain ⟨a0, a1⟩ := ha
  obtain ⟨b0, b1⟩ := hb
  by_cases h : 65535 < a + b
  · go_enter Tryz.func232, Tryz.ntmps232
    go_wp2
    go_ret
    exact ⟨ret_int (by unfold add1; rw [if_pos h]), rfl⟩
  · go_enter Tryz.func232, Tryz.ntmps232
    go_wp2
    go_ret
    exact ⟨ret_int (by unfold add1; rw [if_neg (by omega)]), rfl⟩

theorem word_len (l : List UInt8) (k : Nat) : k < (words l).length ↔ 2 * k < l.length := by
  have h := even_length l
  unfold even at h
  split at h
  · rw [List.length_append] at h; simp at h; omega
  · omega
theorem word_zero {l : List UInt8} {k : Nat} (hk : k < (words l).length) : get16 (l ++ [0]) (2 * (k : Int)) = (words l).getD k 0 := by
  have h2 := (word_len l k).1 hk
  rw [show 2 * (k : Int) = ((2 * k : Nat) : Int) from by omega, get16_nat (by simp; omega), ← even_word l k hk]
  unfold even
  split
  · rfl
  · rw [be16_left (by omega)]

theorem r_WordAt (s : ByteArray) (k : Nat) (w : World) (hs : s.size ≤ 140737488351232) (hk : k < (words (L s)).length) :
    Calls Tryz.prog 233 #[.string s, .int .i64 (2 * (k : Int))] w (Ret (.int .u16 ((words (L s)).getD k 0)) w) := by
  have h2 := (word_len (L s) k).1 hk
  rw [L_length] at h2
  have hz : (s ++ { data := #[0] }).size = s.size + 1 := by rw [ByteArray.size_append]; rfl
  have hl : L (s ++ { data := #[0] }) = L s ++ [0] := by rw [L_append]; rfl
  have hh : has (s ++ { data := #[0] }).size (2 * (k : Int)) 2 = true := has_true (by omega) (by rw [hz]; omega)
  have c1 := fun w => r_Get16 (s ++ { data := #[0] }) (2 * (k : Int)) w (by rw [hz]; unfold maxLen; omega) (by omega)
  rw [hh, hl, word_zero hk] at c1
  obtain ⟨x, hx⟩ : ∃ x, x = (words (L s)).getD k 0 := ⟨_, rfl⟩
  rw [← hx] at c1 ⊢
  have C1 := hide c1
  clear c1 hh hl hz hx
  go_enter Tryz.func233, Tryz.ntmps233
  go_wp2_with fail
  refine (C1.out _).mono ?_
  rintro e w1 ⟨rfl, b1⟩
  go_wp2_with fail
  go_ret
  exact ⟨rfl, b1⟩

set_option maxHeartbeats 2000000 in
theorem r_Sum (A : Option Addr) (n c : Nat) (ss : List ByteArray) (w : World) (hr : Row w w.heap.size A n (ss.map Value.string)) (hsz : ∀ s ∈ ss, s.size ≤ 140737488351232) (hn : n ≤ 9223372036854775807) :
    Calls Tryz.prog 161 #[.slice A n c] w (Ret (.int .u16 (sumL (ss.map L))) w) := by
  have hlen : ss.length = n := by simpa using hr.1
  have HN := hide hlen
  have HS := hide hsz
  clear hlen hsz
  go_enter Tryz.func161, Tryz.ntmps161
  go_wp2
  go_loopw [3, 4] (fun v i wr => ∃ k : Nat, k ≤ n ∧ i = .int .i64 k ∧ v = .int .u16 (part ss k) ∧ Below w.heap.size w wr) (fun _ i _ => n - (intOf i).toNat)
  case atStart => exact ⟨0, Nat.zero_le _, rfl, rfl, Below.refl _ _⟩
  case round =>
    obtain ⟨k, hk, rfl, rfl, hbel⟩ := hrel
    obtain ⟨p0, p1⟩ := part_bd ss k
    by_cases hlt : k < n
    · obtain ⟨b, o, rfl, hbo, hc⟩ := hr.at_ (by omega)
      obtain ⟨s, hs⟩ : ∃ s, s = ss.getD k ByteArray.empty := ⟨_, rfl⟩
      have hcs := hc k _ (strs_at (by rw [HN.out]; exact hlt))
      rw [← hs] at hcs
      have hsz : s.size ≤ 140737488351232 := by rw [hs]; exact HS.out _ (getD_mem_s (by rw [HN.out]; exact hlt))
      have hps := part_succ ss k (by rw [HN.out]; exact hlt)
      rw [← hs] at hps
      have HP := hide hps
      have HC := hide hcs
      clear hps hs hc hcs
      obtain ⟨wo, rfl⟩ : ∃ wo : World, wo = wr := ⟨_, rfl⟩
      go_wp2_with fail
      go_loopw [3, 5] (fun v i wr => ∃ j : Nat, j ≤ (words (L s)).length ∧ i = .int .i64 (2 * (j : Int)) ∧ v = .int .u16 (fold1 (part ss k) ((words (L s)).take j)) ∧ Below w.heap.size w wr) (fun _ i _ => s.size + 2 - (intOf i).toNat)
      case atStart => exact ⟨0, Nat.zero_le _, rfl, rfl, hbel⟩
      case round =>
        obtain ⟨j, hj, rfl, rfl, hbj⟩ := hrel
        have hcell : wr.cell? ⟨b, o + k, none⟩ = some (.string s) := (hbj.cell (p := ⟨b, o + k, none⟩) hbo).trans HC.out
        have hwl := word_len (L s) j
        rw [L_length] at hwl
        by_cases hjl : j < (words (L s)).length
        · have h2 := hwl.1 hjl
          have hfb := fold1_bd ((words (L s)).take j) (part ss k) ⟨p0, p1⟩ (fun x hx => words_bd _ x (List.mem_of_mem_take hx))
          have hxb := words_bd (L s) _ (getD_mem hjl)
          have hsn := take_snoc_int (words (L s)) j hjl
          have c1 := fun w => r_WordAt s j w hsz hjl
          obtain ⟨x, hx⟩ : ∃ x, x = (words (L s)).getD j 0 := ⟨_, rfl⟩
          obtain ⟨f, hf⟩ : ∃ f, f = fold1 (part ss k) ((words (L s)).take j) := ⟨_, rfl⟩
          have hend : fold1 (part ss k) ((words (L s)).take (j + 1)) = add1 f x := by rw [hsn, fold1_append, hf, hx]; rfl
          rw [← hx] at c1 hxb
          rw [← hf] at hfb ⊢
          have HE := hide hend; have C1 := hide c1; have HF := hide hfb; have HX := hide hxb
          clear hwl hsn hend c1 hx hf hfb hxb
          go_wp2_with fail
          refine (C1.out _).mono ?_
          rintro e w1 ⟨rfl, b1⟩
          replace b1 := bstep hbj b1
          go_wp2_with fail
          refine (r_Add _ _ _ HF.out HX.out).mono ?_
          rintro e w2 ⟨rfl, rfl⟩
          go_wp2_with fail
          go_roundw
          case rel => exact ⟨j + 1, by omega, by go_num, v_int HE.out.symm, b1⟩
          case measure => simp [intOf]; omega
        · obtain rfl : j = (words (L s)).length := by omega
          have h2 : ¬ 2 * (words (L s)).length < s.size := fun h => hjl (hwl.2 h)
          have e : (words (L s)).take (words (L s)).length = words (L s) := List.take_length
          have E := hide e
          clear hwl e
          go_wp2_with fail
          go_roundw
          case rel => exact ⟨k + 1, by omega, by go_num, v_int (by rw [HP.out, E.out]), hbj⟩
          case measure => simp [intOf]; omega
    · obtain rfl : k = n := by omega
      have hfin := part_all ss k HN.out.symm
      have HF := hide hfin
      clear hfin
      go_wp2_with fail
      go_ret
      exact ⟨ret_int HF.out, hbel⟩

theorem r_Holds (A : Option Addr) (n c : Nat) (ss : List ByteArray) (w : World) (hr : Row w w.heap.size A n (ss.map Value.string)) (hsz : ∀ s ∈ ss, s.size ≤ 140737488351232) (hn : n ≤ 9223372036854775807) :
    Calls Tryz.prog 253 #[.slice A n c] w (Ret (.bool (holds (ss.map L))) w) := by
  go_enter Tryz.func253, Tryz.ntmps253
  go_wp2_with fail
  refine (r_Sum A n c ss _ hr hsz hn).mono ?_
  rintro e w1 ⟨rfl, b1⟩
  go_wp2_with fail
  go_ret
  exact ⟨rfl, b1⟩

theorem r_Update (n a b : Int) (w : World) (hn : 0 ≤ n ∧ n ≤ 65535) (ha : 0 ≤ a ∧ a ≤ 65535) (hb : 0 ≤ b ∧ b ≤ 65535) :
    Calls Tryz.prog 277 #[.int .u16 n, .int .u16 a, .int .u16 b] w fun e w' => e = .returned (.int .u16 (upd n a b)) ∧ w = w' := by
  obtain ⟨n0, n1⟩ := hn
  obtain ⟨a0, a1⟩ := ha
  have h1 := add1_bd (a := 65535 - n) (b := 65535 - a) (by omega) (by omega)
  have h2 := add1_bd h1 hb
  obtain ⟨p0, p1⟩ := h2
  go_enter Tryz.func277, Tryz.ntmps277
  go_wp2_with fail
  refine (r_Add _ _ _ (by omega) (by omega)).mono ?_
  rintro e w1 ⟨rfl, rfl⟩
  go_wp2_with fail
  refine (r_Add _ _ _ h1 hb).mono ?_
  rintro e w1 ⟨rfl, rfl⟩
  go_wp2_with fail
  go_ret
  exact ⟨rfl, rfl⟩

theorem zip_take_snoc {xs ys : List Int} {k : Nat} (h1 : k < xs.length) (h2 : k < ys.length) : (xs.zip ys).take (k + 1) = (xs.zip ys).take k ++ [(xs.getD k 0, ys.getD k 0)] := by
  rw [List.take_succ_eq_append_getElem (by simp; omega), List.getElem_zip]
  simp [List.getD_eq_getElem?_getD, List.getElem?_eq_getElem h1, List.getElem?_eq_getElem h2]

set_option maxHeartbeats 1000000 in
theorem r_Updates_yes (n : Int) (a b : ByteArray) (w : World) (hn : 0 ≤ n ∧ n ≤ 65535) (ha : a.size ≤ 140737488351232) (hb : b.size ≤ 140737488351232) (h1 : a.size = b.size) (h2 : a.size % 2 = 0) :
    Calls Tryz.prog 244 #[.int .u16 n, .string a, .string b] w (Ret (.int .u16 (updF n ((words (L a)).zip (words (L b))))) w) := by
  have q1 : (((a.size : Nat) : Int) != ((b.size : Nat) : Int)) = false := by simp [h1]
  have q2 : (((a.size : Nat) : Int) % 2 == 1) = false := by simp; omega
  have wa := words_length (l := L a) (by rw [L_length]; exact h2)
  have wb := words_length (l := L b) (by rw [L_length]; omega)
  rw [L_length] at wa wb
  have WA := hide wa; have WB := hide wb; have H1 := hide h1; have HNB := hide hn
  clear wa wb h1 h2 hn
  go_enter Tryz.func244, Tryz.ntmps244
  go_wp2_with fail
  go_loopw [0, 7] (fun v i wr => ∃ k : Nat, k ≤ (words (L a)).length ∧ i = .int .i64 (2 * (k : Int)) ∧ v = .int .u16 (updF n (((words (L a)).zip (words (L b))).take k)) ∧ Below w.heap.size w wr) (fun _ i _ => a.size + 2 - (intOf i).toNat)
  case atStart => exact ⟨0, Nat.zero_le _, rfl, rfl, Below.refl _ _⟩
  case round =>
    obtain ⟨k, hk, rfl, rfl, hbel⟩ := hrel
    have wa := WA.out
    have wb := WB.out
    have e1 := H1.out
    by_cases hlt : k < (words (L a)).length
    · have hlb : k < (words (L b)).length := by omega
      have hsn := zip_take_snoc hlt hlb
      have hfb := updF_bd (((words (L a)).zip (words (L b))).take k) n HNB.out (fun p hp => zip_bd p (List.mem_of_mem_take hp))
      have hxb := words_bd (L a) _ (getD_mem hlt)
      have hyb := words_bd (L b) _ (getD_mem hlb)
      have c1 := fun w => r_WordAt a k w ha hlt
      have c2 := fun w => r_WordAt b k w hb hlb
      have k2 : 2 * (k : Int) < (a.size : Int) := by omega
      obtain ⟨x, hx⟩ : ∃ x, x = (words (L a)).getD k 0 := ⟨_, rfl⟩
      obtain ⟨y, hy⟩ : ∃ y, y = (words (L b)).getD k 0 := ⟨_, rfl⟩
      obtain ⟨f, hf⟩ : ∃ f, f = updF n (((words (L a)).zip (words (L b))).take k) := ⟨_, rfl⟩
      have hend : updF n (((words (L a)).zip (words (L b))).take (k + 1)) = upd f x y := by rw [hsn, hf, hx, hy]; simp [updF]
      rw [← hx] at c1 hxb
      rw [← hy] at c2 hyb
      rw [← hf] at hfb ⊢
      have HE := hide hend; have C1 := hide c1; have C2 := hide c2; have HF := hide hfb; have HX := hide hxb; have HY := hide hyb
      clear hsn hend c1 c2 hx hy hf hfb hxb hyb wa wb e1
      go_wp2_with fail
      refine (C1.out _).mono ?_
      rintro e w1 ⟨rfl, b1⟩
      replace b1 := bstep hbel b1
      go_wp2_with fail
      refine (C2.out _).mono ?_
      rintro e w2 ⟨rfl, b2⟩
      replace b2 := bstep b1 b2
      go_wp2_with fail
      refine (r_Update _ _ _ _ HF.out HX.out HY.out).mono ?_
      rintro e w3 ⟨rfl, rfl⟩
      go_wp2_with fail
      go_roundw
      case rel => exact ⟨k + 1, by omega, by go_num, v_int HE.out.symm, b2⟩
      case measure => simp [intOf]; omega
    · have hkk : k = (words (L a)).length := by omega
      have e : ((words (L a)).zip (words (L b))).take k = (words (L a)).zip (words (L b)) := List.take_of_length_le (by simp; omega)
      have k2 : ¬ 2 * (k : Int) < (a.size : Int) := by omega
      have E := hide e
      clear e hkk wa wb e1
      go_wp2_with fail
      go_ret
      exact ⟨ret_int (by rw [E.out]), hbel⟩

theorem r_Updates (n : Int) (a b : ByteArray) (w : World) (hn : 0 ≤ n ∧ n ≤ 65535) (ha : a.size ≤ 140737488351232) (hb : b.size ≤ 140737488351232) :
    Calls Tryz.prog 244 #[.int .u16 n, .string a, .string b] w (Ret (.int .u16 (updates n (L a) (L b))) w) := by
  unfold updates
  rw [L_length, L_length]
  by_cases h : a.size ≠ b.size ∨ a.size % 2 = 1
  · rw [if_pos h]
    by_cases h1 : a.size = b.size
    · have h2 : a.size % 2 = 1 := by omega
      have q1 : (((a.size : Nat) : Int) != ((b.size : Nat) : Int)) = false := by simp [h1]
      have q2 : (((a.size : Nat) : Int) % 2 == 1) = true := by simp; omega
      clear h h1 h2
      go_enter Tryz.func244, Tryz.ntmps244
      go_wp2_with fail
      go_ret
      exact ⟨rfl, Below.refl _ _⟩
    · have q1 : (((a.size : Nat) : Int) != ((b.size : Nat) : Int)) = true := by simp; omega
      clear h h1
      go_enter Tryz.func244, Tryz.ntmps244
      go_wp2_with fail
      go_ret
      exact ⟨rfl, Below.refl _ _⟩
  · rw [if_neg h]; exact r_Updates_yes n a b w hn ha hb (by omega) (by omega)
end Go.Proofs.YtedfdphapcanoaaGreatDoor
end

section
/- The document's answer for udp (porterref05) over this program. -/
set_option linter.unusedVariables false
namespace Go.Proofs.YtedfdphapcanoaaGreatDoor
open Go.RowKit
attribute [local go_sem] Oper.semAt_some

theorem r5_word (s : ByteArray) (i : Int) (w : World) (hs : s.size ≤ maxLen) (h1 : -9223372036854775808 ≤ i ∧ i ≤ 9223372036854775807) :
    Calls Tryz.prog 257 #[.string s, .int .i64 i] w (Ret (.int .u16 (get16 (L s) i)) w) := by
  have c := fun w => r_Get16 s i w hs h1
  obtain ⟨x, hx⟩ : ∃ x, x = get16 (L s) i := ⟨_, rfl⟩
  obtain ⟨h, hh⟩ : ∃ x, x = has s.size i 2 := ⟨_, rfl⟩
  rw [← hx, ← hh] at c
  rw [← hx]
  have C := hide c
  clear c hx hh
  go_enter Tryz.func257, Tryz.ntmps257
  go_wp2_with fail
  refine (C.out _).mono ?_
  rintro e w1 ⟨rfl, b1⟩
  go_wp2_with fail
  go_ret
  exact ⟨rfl, b1⟩

/-- is it a datagram -/
def udpIs (s : ByteArray) : Bool := decide (8 ≤ s.size) && decide (get16 (L s) 4 = s.size)
def udpHead (l : List UInt8) : Value := .agg #[.int .u16 (get16 l 0), .int .u16 (get16 l 2), .int .u16 (get16 l 4), .int .u16 (get16 l 6)]
def udpNone : Value := .agg #[.int .u16 0, .int .u16 0, .int .u16 0, .int .u16 0]

theorem r5_Parse_no (s : ByteArray) (w : World) (hs : s.size ≤ maxLen) (h : udpIs s = false) :
    Calls Tryz.prog 195 #[.string s] w (Ret (.tuple #[udpNone, .string (S []), .bool false]) w) := by
  unfold maxLen at hs
  by_cases h8 : s.size < 8
  · unfold udpNone
    go_enter Tryz.func195, Tryz.ntmps195
    go_wp2_with fail
    (try simp only [Exit.inBlock, Exit.then]); refine bodyPost_ret (by simp [results, Tryz.results195, go_sem]; try rfl) rfl ?_
    exact ⟨rfl, fresh_below _ _⟩
  · have c := fun w => r5_word s 4 w hs (by omega)
    have hx0 : get16 (L s) 4 ≠ s.size := by unfold udpIs at h; simp at h; exact h (by omega)
    have hb := get16_bd (L s) 4
    obtain ⟨x, hx⟩ : ∃ x, x = get16 (L s) 4 := ⟨_, rfl⟩
    rw [← hx] at c hx0 hb
    have q1 : (x != (s.size : Int)) = true := by simp [hx0]
    have q2 : ¬ (s.size : Int) < 8 := by omega
    have C := hide c
    clear c hx h
    unfold udpNone
    go_enter Tryz.func195, Tryz.ntmps195
    go_wp2_with fail
    refine (C.out _).mono ?_
    rintro e w1 ⟨rfl, b1⟩
    have d1 := Cells.below b1 (Cells.new w _ _)
    obtain ⟨⟨x0, x1, x2, x3⟩, f0, f1, f2, f3⟩ := d1.four
    replace b1 := bstep (fresh_below _ _) b1
    go_wp2_with fail
    (try simp only [Exit.inBlock, Exit.then]); refine bodyPost_ret (by simp [results, Tryz.results195, go_sem, *]; try rfl) rfl ?_
    exact ⟨rfl, (((b1.setCell (p := ⟨w.heap.size, 0, none⟩) (Nat.le_refl _) _).setCell (p := ⟨w.heap.size, 1, none⟩) (Nat.le_refl _) _).setCell (p := ⟨w.heap.size, 2, none⟩) (Nat.le_refl _) _).setCell (p := ⟨w.heap.size, 3, none⟩) (Nat.le_refl _) _⟩

theorem r5_Parse_yes (s : ByteArray) (w : World) (hs : s.size ≤ maxLen) (h : udpIs s = true) :
    Calls Tryz.prog 195 #[.string s] w (Ret (.tuple #[udpHead (L s), .string (S ((L s).drop 8)), .bool true]) w) := by
  unfold maxLen at hs
  have h' := h
  unfold udpIs at h'
  simp at h'
  obtain ⟨h8, hl⟩ := h'
  have c0 := fun w => r5_word s 0 w hs (by omega)
  have c2 := fun w => r5_word s 2 w hs (by omega)
  have c4 := fun w => r5_word s 4 w hs (by omega)
  have c6 := fun w => r5_word s 6 w hs (by omega)
  have hb := get16_bd (L s) 4
  have he : s.extract 8 s.size = S ((L s).drop 8) := eq_S (L_from s 8)
  unfold udpHead
  obtain ⟨x0, e0⟩ : ∃ x, x = get16 (L s) 0 := ⟨_, rfl⟩
  obtain ⟨x2, e2⟩ : ∃ x, x = get16 (L s) 2 := ⟨_, rfl⟩
  obtain ⟨x4, e4⟩ : ∃ x, x = get16 (L s) 4 := ⟨_, rfl⟩
  obtain ⟨x6, e6⟩ : ∃ x, x = get16 (L s) 6 := ⟨_, rfl⟩
  rw [← e0] at c0 ⊢
  rw [← e2] at c2 ⊢
  rw [← e4] at c4 hl hb ⊢
  rw [← e6] at c6 ⊢
  subst hl
  have q2 : ¬ (s.size : Int) < 8 := by omega
  have C0 := hide c0; have C2 := hide c2; have C4 := hide c4; have C6 := hide c6; have HE := hide he
  clear c0 c2 c4 c6 e0 e2 e4 e6 he h
  go_enter Tryz.func195, Tryz.ntmps195
  go_wp2_with fail
  refine (C4.out _).mono ?_
  rintro e w1 ⟨rfl, b1⟩
  have d1 := Cells.below b1 (Cells.new w _ _)
  obtain ⟨⟨x0, x1, x2, x3⟩, f0, f1, f2, f3⟩ := d1.four
  replace b1 := bstep (fresh_below _ _) b1
  go_wp2_with fail
  go_region_held3 (fun _ => True) (trivial)
    (first | (go_at_call 257; (with_reducible refine (C0.out _).mono ?_); rintro e w2 ⟨rfl, b2⟩; have d2 := Cells.below b2 d1; obtain ⟨⟨x0, x1, x2, x3⟩, f0, f1, f2, f3⟩ := d2.four) | (go_at_call 257; (with_reducible refine (C2.out _).mono ?_); rintro e w3 ⟨rfl, b3⟩; have d3 := Cells.below b3 d2; obtain ⟨⟨x0, x1, x2, x3⟩, f0, f1, f2, f3⟩ := d3.four) | (go_at_call 257; (with_reducible refine (C4.out _).mono ?_); rintro e w4 ⟨rfl, b4⟩; have d4 := Cells.below b4 d3; obtain ⟨⟨x0, x1, x2, x3⟩, f0, f1, f2, f3⟩ := d4.four) | (go_at_call 257; (with_reducible refine (C6.out _).mono ?_); rintro e w5 ⟨rfl, b5⟩; have d5 := Cells.below b5 d4; obtain ⟨⟨x0, x1, x2, x3⟩, f0, f1, f2, f3⟩ := d5.four))
  go_wp2
  (try simp only [Exit.inBlock, Exit.then]); refine bodyPost_ret (by simp [results, Tryz.results195, go_sem, *]; try rfl) rfl ?_
  exact ⟨by rw [HE.out], ((((bstep (bstep (bstep (bstep b1.drew b2) b3) b4) b5).setCell (p := ⟨w.heap.size, 0, none⟩) (Nat.le_refl _) _).setCell (p := ⟨w.heap.size, 1, none⟩) (Nat.le_refl _) _).setCell (p := ⟨w.heap.size, 2, none⟩) (Nat.le_refl _) _).setCell (p := ⟨w.heap.size, 3, none⟩) (Nat.le_refl _) _⟩

/-- the words of a datagram's header -/
def udpWords (a b c d : Int) : List UInt8 := putW [a, b, c, d]
set_option maxHeartbeats 1000000 in
theorem r5_Put (a b n d : Int) (p : ByteArray) (w : World) (ha : 0 ≤ a ∧ a ≤ 65535) (hb : 0 ≤ b ∧ b ≤ 65535) (hd : 0 ≤ d ∧ d ≤ 65535) (hp : p.size ≤ 140737488351232) :
    Calls Tryz.prog 166 #[.agg #[.int .u16 a, .int .u16 b, .int .u16 n, .int .u16 d], .string p] w (Ret (.string (S (udpWords a b ((8 + p.size) % 65536) d ++ L p))) w) := by
  have hl : ∀ x ∈ [a, b, (8 + (p.size : Int)) % 65536, d], 0 ≤ x ∧ x ≤ 65535 := by
    intro x hx
    simp only [List.mem_cons, List.not_mem_nil, or_false] at hx
    rcases hx with rfl | rfl | rfl | rfl <;> omega
  have c1 := fun W => r_Word (some ⟨w.heap.size + 1, 0, none⟩) 4 4 [a, b, (8 + (p.size : Int)) % 65536, d] ((w.alloc W).alloc (.cells #[.int .u16 a, .int .u16 b, .int .u16 ((8 + (p.size : Int)) % 65536), .int .u16 d] 28)) (Row.freshAt (w.alloc W) #[.int .u16 a, .int .u16 b, .int .u16 ((8 + (p.size : Int)) % 65536), .int .u16 d] 28 (w.heap.size + 1) _ _ (by simp) rfl rfl) hl (by omega)
  obtain ⟨s, hs⟩ : ∃ s, s = S (putW [a, b, (8 + (p.size : Int)) % 65536, d]) := ⟨_, rfl⟩
  have hz : s.size = 8 := by rw [hs]; rfl
  have hend : S (udpWords a b ((8 + p.size) % 65536) d ++ L p) = s ++ p := by rw [hs, udpWords, ← S_append, S_L]
  rw [← hs] at c1
  obtain ⟨a0, a1⟩ := ha
  obtain ⟨b0, b1⟩ := hb
  obtain ⟨d0, d1⟩ := hd
  have C1 := hide c1; have HE := hide hend
  clear c1 hend hl hs
  go_enter Tryz.func166, Tryz.ntmps166
  go_wp2_with fail
  refine (C1.out _).mono ?_
  rintro e w1 ⟨rfl, k1⟩
  replace k1 := bstep (bstep (fresh_below w _) (fresh_below _ _)) k1
  go_wp2_with fail
  go_ret
  exact ⟨ret_str HE.out.symm, k1⟩

end Go.Proofs.YtedfdphapcanoaaGreatDoor
end
