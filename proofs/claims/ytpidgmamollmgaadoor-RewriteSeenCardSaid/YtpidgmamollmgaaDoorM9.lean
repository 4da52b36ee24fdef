/- Several texts of this claim, one behind the other. -/
import Derived.Test.YtpidgmamollmgaaDoorM3
import Derived.Test.YtpidgmamollmgaaDoorM8
import Derived.Test.YtpidgmamollmgaaDoorM1
import Derived.Test.YtpidgmamollmgaaDoorM4
import Derived.Deep.RegionHeldLaw
import Derived.Deep.RegionHeld3

section
/- The document's answer for sums (porterref02) over this program: the same words as the package's. -/
set_option linter.unusedVariables false
namespace Go.Proofs.YtpidgmamollmgaaDoor
open Go.RowKit

theorem r_Add (a b : Int) (w : World) (ha : 0 ≤ a ∧ a ≤ 65535) (hb : 0 ≤ b ∧ b ≤ 65535) :
    Calls Tryd.prog 66 #[.int .u16 a, .int .u16 b] w fun e w' => e = .returned (.int .u16 (add1 a b)) ∧ w = w' := by
  obtain ⟨a0, a1⟩ := ha
  obtain ⟨b0, b1⟩ := hb
  by_cases h : 65535 < a + b
  · go_enter Tryd.func66, Tryd.ntmps66
    go_wp2
    go_ret
    exact ⟨ret_int (by unfold add1; rw [if_pos h]), rfl⟩
  · go_enter Tryd.func66, Tryd.ntmps66
    go_wp2
    go_ret
    exact ⟨ret_int (by unfold add1; rw [if_neg (by omega)]), rfl⟩

theorem word_len (l : List UInt8) (k : Nat) : k < (words l).length ↔ 2 * k < l.length := by
  have h := even_length l
  unfold even at h
  split at h
  · rw [List.length_append] at h; simp at h; omega
  · omega
theorem word_zero {l : List UInt8} {k : Nat} (hk : k < (words l).length) : get16 (l ++ [0]) (2 * (k : Int)) = (words l).getD k 0 := by
  have h2 := (word_len l k).1 hk
  rw [show 2 * (k : Int) = ((2 * k : Nat) : Int) from by omega, get16_nat (by simp; omega), ← even_word l k hk]
  unfold even
  split
  · rfl
  · rw [be16_left (by omega)]

theorem r_WordAt (s : ByteArray) (k : Nat) (w : World) (hs : s.size ≤ 140737488351232) (hk : k < (words (L s)).length) :
    Calls Tryd.prog 67 #[.string s, .int .i64 (2 * (k : Int))] w (Ret (.int .u16 ((words (L s)).getD k 0)) w) := by
  have h2 := (word_len (L s) k).1 hk
  rw [L_length] at h2
  have hz : (s ++ { data := #[0] }).size = s.size + 1 := by rw [ByteArray.size_append]; rfl
  have hl : L (s ++ { data := #[0] }) = L s ++ [0] := by rw [L_append]; rfl
  have hh : has (s ++ { data := #[0] }).size (2 * (k : Int)) 2 = true := has_true (by omega) (by rw [hz]; omega)
  have c1 := fun w => r_Get16 (s ++ { data := #[0] }) (2 * (k : Int)) w (by rw [hz]; unfold maxLen; omega) (by omega)
  rw [hh, hl, word_zero hk] at c1
  obtain ⟨x, hx⟩ : ∃ x, x = (words (L s)).getD k 0 := ⟨_, rfl⟩
  rw [← hx] at c1 ⊢
  have C1 := hide c1
  clear c1 hh hl hz hx
  go_enter Tryd.func67, Tryd.ntmps67
  go_wp2_with fail
  refine (C1.out _).mono ?_
  rintro e w1 ⟨rfl, b1⟩
  go_wp2_with fail
  go_ret
  exact ⟨rfl, b1⟩

set_option maxHeartbeats 2000000 in
theorem r_Sum (A : Option Addr) (n c : Nat) (ss : List ByteArray) (w : World) (hr : Row w w.heap.size A n (ss.map Value.string)) (hsz : ∀ s ∈ ss, s.size ≤ 140737488351232) (hn : n ≤ 9223372036854775807) :
    Calls Tryd.prog 37 #[.slice A n c] w (Ret (.int .u16 (sumL (ss.map L))) w) := by
  have hlen : ss.length = n := by simpa using hr.1
  have HN := hide hlen
  have HS := hide hsz
  clear hlen hsz
  go_enter Tryd.func37, Tryd.ntmps37
  go_wp2
  go_loopw [3, 4] (fun v i wr => ∃ k : Nat, k ≤ n ∧ i = .int .i64 k ∧ v = .int .u16 (part ss k) ∧ Below w.heap.size w wr) (fun _ i _ => n - (intOf i).toNat)
  case atStart => exact ⟨0, Nat.zero_le _, rfl, rfl, Below.refl _ _⟩
  case round =>
    obtain ⟨k, hk, rfl, rfl, hbel⟩ := hrel
    obtain ⟨p0, p1⟩ := part_bd ss k
    by_cases hlt : k < n
    · obtain ⟨b, o, rfl, hbo, hc⟩ := hr.at_ (by omega)
      obtain ⟨s, hs⟩ : ∃ s, s = ss.getD k ByteArray.empty := ⟨_, rfl⟩
      have hcs := hc k _ (strs_at (by rw [HN.out]; exact hlt))
      rw [← hs] at hcs
      have hsz : s.size ≤ 140737488351232 := by rw [hs]; exact HS.out _ (getD_mem_s (by rw [HN.out]; exact hlt))
      have hps := part_succ ss k (by rw [HN.out]; exact hlt)
      rw [← hs] at hps
      have HP := hide hps
      have HC := hide hcs
      clear hps hs hc hcs
      obtain ⟨wo, rfl⟩ : ∃ wo : World, wo = wr := ⟨_, rfl⟩
      go_wp2_with fail
      go_loopw [3, 5] (fun v i wr => ∃ j : Nat, j ≤ (words (L s)).length ∧ i = .int .i64 (2 * (j : Int)) ∧ v = .int .u16 (fold1 (part ss k) ((words (L s)).take j)) ∧ Below w.heap.size w wr) (fun _ i _ => s.size + 2 - (intOf i).toNat)
      case atStart => exact ⟨0, Nat.zero_le _, rfl, rfl, hbel⟩
      case round =>
        obtain ⟨j, hj, rfl, rfl, hbj⟩ := hrel
        have hcell : wr.cell? ⟨b, o + k, none⟩ = some (.string s) := (hbj.cell (p := ⟨b, o + k, none⟩) hbo).trans HC.out
        have hwl := word_len (L s) j
        rw [L_length] at hwl
        by_cases hjl : j < (words (L s)).length
        · have h2 := hwl.1 hjl
          have hfb := fold1_bd ((words (L s)).take j) (part ss k) ⟨p0, p1⟩ (fun x hx => words_bd _ x (List.mem_of_mem_take hx))
          have hxb := words_bd (L s) _ (getD_mem hjl)
          have hsn := take_snoc_int (words (L s)) j hjl
          have c1 := fun w => r_WordAt s j w hsz hjl
          obtain ⟨x, hx⟩ : ∃ x, x = (words (L s)).getD j 0 := ⟨_, rfl⟩
          obtain ⟨f, hf⟩ : ∃ f, f = fold1 (part ss k) ((words (L s)).take j) := ⟨_, rfl⟩
          have hend : fold1 (part ss k) ((words (L s)).take (j + 1)) = add1 f x := by rw [hsn, fold1_append, hf, hx]; rfl
          rw [← hx] at c1 hxb
          rw [← hf] at hfb ⊢
          have HE := hide hend; have C1 := hide c1; have HF := hide hfb; have HX := hide hxb
          clear hwl hsn hend c1 hx hf hfb hxb
          go_wp2_with fail
          refine (C1.out _).mono ?_
          rintro e w1 ⟨rfl, b1⟩
          replace b1 := bstep hbj b1
          go_wp2_with fail
          refine (r_Add _ _ _ HF.out HX.out).mono ?_
          rintro e w2 ⟨rfl, rfl⟩
          go_wp2_with fail
          go_roundw
          case rel => exact ⟨j + 1, by omega, by go_num, v_int HE.out.symm, b1⟩
          case measure => simp [intOf]; omega
        · obtain rfl : j = (words (L s)).length := by omega
          have h2 : ¬ 2 * (words (L s)).length < s.size := fun h => hjl (hwl.2 h)
          have e : (words (L s)).take (words (L s)).length = words (L s) := List.take_length
          have E := hide e
          clear hwl e
          go_wp2_with fail
          go_roundw
          case rel => exact ⟨k + 1, by omega, by go_num, v_int (by rw [HP.out, E.out]), hbj⟩
          case measure => simp [intOf]; omega
    · obtain rfl : k = n := by omega
      have hfin := part_all ss k HN.out.symm
      have HF := hide hfin
      clear hfin
      go_wp2_with fail
      go_ret
      exact ⟨ret_int HF.out, hbel⟩

theorem zip_take_snoc {xs ys : List Int} {k : Nat} (h1 : k < xs.length) (h2 : k < ys.length) : (xs.zip ys).take (k + 1) = (xs.zip ys).take k ++ [(xs.getD k 0, ys.getD k 0)] := by
  rw [List.take_succ_eq_append_getElem (by simp; omega), List.getElem_zip]
  simp [List.getD_eq_getElem?_getD, List.getElem?_eq_getElem h1, List.getElem?_eq_getElem h2]

end Go.Proofs.YtpidgmamollmgaaDoor
end

section
/- The document's answer for udp (porterref05) over this program. -/
set_option linter.unusedVariables false
namespace Go.Proofs.YtpidgmamollmgaaDoor
open Go.RowKit
attribute [local go_sem] Oper.semAt_some

/-- is it a datagram -/
def udpIs (s : ByteArray) : Bool := decide (8 ≤ s.size) && decide (get16 (L s) 4 = s.size)
def udpHead (l : List UInt8) : Value := .agg #[.int .u16 (get16 l 0), .int .u16 (get16 l 2), .int .u16 (get16 l 4), .int .u16 (get16 l 6)]
def udpNone : Value := .agg #[.int .u16 0, .int .u16 0, .int .u16 0, .int .u16 0]

/-- the words of a datagram's header -/
def udpWords (a b c d : Int) : List UInt8 := putW [a, b, c, d]
set_option maxHeartbeats 1000000 in
theorem r5_Put (a b n d : Int) (p : ByteArray) (w : World) (ha : 0 ≤ a ∧ a ≤ 65535) (hb : 0 ≤ b ∧ b ≤ 65535) (hd : 0 ≤ d ∧ d ≤ 65535) (hp : p.size ≤ 140737488351232) :
    Calls Tryd.prog 42 #[.agg #[.int .u16 a, .int .u16 b, .int .u16 n, .int .u16 d], .string p] w (Ret (.string (S (udpWords a b ((8 + p.size) % 65536) d ++ L p))) w) := by
  have hl : ∀ x ∈ [a, b, (8 + (p.size : Int)) % 65536, d], 0 ≤ x ∧ x ≤ 65535 := by
    intro x hx
    simp only [List.mem_cons, List.not_mem_nil, or_false] at hx
    rcases hx with rfl | rfl | rfl | rfl <;> omega
  have c1 := fun W => r_Word (some ⟨w.heap.size + 1, 0, none⟩) 4 4 [a, b, (8 + (p.size : Int)) % 65536, d] ((w.alloc W).alloc (.cells #[.int .u16 a, .int .u16 b, .int .u16 ((8 + (p.size : Int)) % 65536), .int .u16 d] 24)) (Row.freshAt (w.alloc W) #[.int .u16 a, .int .u16 b, .int .u16 ((8 + (p.size : Int)) % 65536), .int .u16 d] 24 (w.heap.size + 1) _ _ (by simp) rfl rfl) hl (by omega)
  obtain ⟨s, hs⟩ : ∃ s, s = S (putW [a, b, (8 + (p.size : Int)) % 65536, d]) := ⟨_, rfl⟩
  have hz : s.size = 8 := by rw [hs]; rfl
  have hend : S (udpWords a b ((8 + p.size) % 65536) d ++ L p) = s ++ p := by rw [hs, udpWords, ← S_append, S_L]
  rw [← hs] at c1
  obtain ⟨a0, a1⟩ := ha
  obtain ⟨b0, b1⟩ := hb
  obtain ⟨d0, d1⟩ := hd
  have C1 := hide c1; have HE := hide hend
  clear c1 hend hl hs
  go_enter Tryd.func42, Tryd.ntmps42
  go_wp2_with fail
  refine (C1.out _).mono ?_
  rintro e w1 ⟨rfl, k1⟩
  replace k1 := bstep (bstep (fresh_below w _) (fresh_below _ _)) k1
  go_wp2_with fail
  go_ret
  exact ⟨ret_str HE.out.symm, k1⟩

end Go.Proofs.YtpidgmamollmgaaDoor
end
