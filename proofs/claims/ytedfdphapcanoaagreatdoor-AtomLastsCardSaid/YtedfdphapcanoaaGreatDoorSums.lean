/- The package sums over this program: Add, the words of a text, Sum, Holds, Update, Updates. Conditions: texts below 2^46 bytes. -/
import Derived.Test.YtedfdphapcanoaaGreatDoorFields
import Derived.Test.YtedfdphapcanoaaGreatDoorNum
import Derived.Test.YtedfdphapcanoaaGreatDoorRange
set_option linter.unusedVariables false
namespace Go.Proofs.YtedfdphapcanoaaGreatDoor
open Go.RowKit Go.Shelf
attribute [local go_sem] Oper.semAt_some

/-- two numbers, added, what runs over coming in again -/
def add1 (a b : Int) : Int := if 65535 < a + b then a + b - 65535 else a + b
theorem add1_bd {a b : Int} (h0 : 0 ≤ a ∧ a ≤ 65535) (h1 : 0 ≤ b ∧ b ≤ 65535) : 0 ≤ add1 a b ∧ add1 a b ≤ 65535 := by
  unfold add1; split <;> omega
/-- a text's words; an odd one has a byte 0 behind it -/
def words : List UInt8 → List Int
  | [] => []
  | [a] => [(a.toNat : Int) * 256]
  | a :: b :: t => ((a.toNat : Int) * 256 + (b.toNat : Int)) :: words t
def fold1 (n : Int) (l : List Int) : Int := l.foldl add1 n
theorem words_bd : ∀ (l : List UInt8), ∀ x ∈ words l, 0 ≤ x ∧ x ≤ 65535
  | [], x, h => by cases h
  | [a], x, h => by
    simp [words] at h; subst h
    have := a.toNat_lt; omega
  | a :: b :: t, x, h => by
    rcases List.mem_cons.1 h with rfl | h
    · have := a.toNat_lt; have := b.toNat_lt; omega
    · exact words_bd t x h
theorem fold1_bd : ∀ (l : List Int) (n : Int), 0 ≤ n ∧ n ≤ 65535 → (∀ x ∈ l, 0 ≤ x ∧ x ≤ 65535) → 0 ≤ fold1 n l ∧ fold1 n l ≤ 65535
  | [], n, h, _ => h
  | x :: l, n, h, hl => fold1_bd l (add1 n x) (add1_bd h (hl x (by simp))) (fun y hy => hl y (by simp [hy]))
theorem fold1_append (n : Int) (a b : List Int) : fold1 n (a ++ b) = fold1 (fold1 n a) b := by simp [fold1]
/-- the text with a byte 0 behind it, if it is odd -/
def even (l : List UInt8) : List UInt8 := if l.length % 2 = 1 then l ++ [0] else l
theorem even_cons (a b : UInt8) (t : List UInt8) : even (a :: b :: t) = a :: b :: even t := by
  have h : (t.length + 1 + 1) % 2 = t.length % 2 := by omega
  unfold even
  simp only [List.length_cons, h]
  split <;> rfl
theorem even_length : ∀ (l : List UInt8), (even l).length = 2 * (words l).length
  | [] => rfl
  | [a] => rfl
  | a :: b :: t => by
    rw [even_cons]
    have := even_length t
    simp only [words, List.length_cons, this]; omega
theorem even_word : ∀ (l : List UInt8) (k : Nat), k < (words l).length → be16 (even l) (2 * k) = (words l).getD k 0
  | [], k, h => by simp [words] at h
  | [a], k, h => by
    have : k = 0 := by simp [words] at h; omega
    subst this
    show ((a.toNat : Int)) * 256 + 0 = _
    simp [words]
  | a :: b :: t, 0, h => by
    rw [even_cons]; rfl
  | a :: b :: t, k + 1, h => by
    rw [even_cons]
    have := even_word t k (by simpa [words] using h)
    simp only [words, List.getD_cons_succ]
    rw [← this, show 2 * (k + 1) = 2 * k + 2 from by omega]
    rfl

theorem Add (a b : Int) (w : World) (ha : 0 ≤ a ∧ a ≤ 65535) (hb : 0 ≤ b ∧ b ≤ 65535) :
    Calls Tryz.prog 248 #[.int .u16 a, .int .u16 b] w fun e w' => e = .returned (.int .u16 (add1 a b)) ∧ w = w' := by
  obtain ⟨a0, a1⟩ := ha
  obtain ⟨b0, b1⟩ := hb
  have q1 : bits .and .u32 (a + b) 65535 = (a + b) % 65536 := by
    rw [u32_and _ _ (by omega) (by omega) (by omega) (by omega)]
    show ((((a + b).toNat &&& 65535 : Nat)) : Int) = _
    rw [show (65535 : Nat) = 2 ^ 16 - 1 from rfl, Nat.and_two_pow_sub_one_eq_mod]
    omega
  have q2 : (a + b) % 65536 + (a + b) / 65536 = add1 a b := by unfold add1; split <;> omega
  have Q2 := hide q2
  clear q2
  go_enter Tryz.func248, Tryz.ntmps248
  go_wp2
  go_ret
  exact ⟨ret_int Q2.out, rfl⟩

/-- words(s): a box that holds the text, and the iterator over it -/
theorem words_any (s : ByteArray) (w : World) :
    Calls Tryz.prog 222 #[.string s] w fun e w' => e = .returned (.func (.func 267) #[] #[.pointer (some ⟨w.heap.size, 0, none⟩)]) ∧ w' = w.alloc (.cells #[.string s] 9) := by
  go_enter Tryz.func222, Tryz.ntmps222
  go_wp2
  go_ret
  exact ⟨rfl, rfl⟩

theorem take_snoc_i {xs : List Int} {k : Nat} (h : k < xs.length) : xs.take k ++ [xs.getD k 0] = xs.take (k + 1) := (take_snoc_int xs k h).symm
theorem split_at {xs : List Int} {k : Nat} (h : k < xs.length) : xs = xs.take k ++ xs.getD k 0 :: xs.drop (k + 1) := by
  rw [List.getD_eq_getElem?_getD, List.getElem?_eq_getElem h]
  simp [← List.drop_eq_getElem_cons h]

set_option maxHeartbeats 1000000 in
theorem words1_stops (s : ByteArray) (w : World) (B : Nat) (hs : s.size ≤ 140737488351232) (hB : Boxed w B 9 (.string s)) :
    SeqAll Fence.wide 2 Tryz.prog 267 #[.pointer (some ⟨B, 0, none⟩)] (fun x : Int => #[.int .u16 x]) B (words (L s)) w := by
  intro l J W hbw hJ hJB hY h0
  have hBW : Boxed W B 9 (.string s) := (hbw.block B hB.lt).trans hB
  have hd : ∀ st A n, J st A → J st (A.drewN n) := fun st A n h => hJ st A (A.drewN n) none h ⟨rfl, rfl, rfl, Nat.le_refl _, fun _ _ _ => rfl⟩ (fun r e => by cases e)
  have hc := hBW.cell
  have hf := hBW.frozen
  have HY := hide hY
  have HD := hide hd
  clear hY hd hJ hbw
  obtain ⟨xs, hxs⟩ : ∃ xs, xs = words (L s) := ⟨_, rfl⟩
  obtain ⟨t, ht⟩ : ∃ t, t = S (even (L s)) := ⟨_, rfl⟩
  have lt : L t = even (L s) := by rw [ht, L_S]
  have zt : t.size = 2 * xs.length := by rw [← L_length, lt, even_length, hxs]
  have hm : t.size ≤ 140737488351233 := by
    rw [← L_length, lt]; unfold even; split
    · rw [List.length_append, L_length]; simp; omega
    · rw [L_length]; omega
  have hw : ∀ k, k < xs.length → be16 (L t) (2 * k) = xs.getD k 0 := fun k hk => by rw [lt, hxs]; exact even_word _ k (by rw [← hxs]; exact hk)
  have hbd : ∀ x ∈ xs, 0 ≤ x ∧ x ≤ 65535 := by rw [hxs]; exact words_bd _
  rw [← hxs] at HY ⊢
  have HW := hide hw
  have HBD := hide hbd
  have HXS := hide hxs
  have start : (J [] W ∧ Boxed W B 9 (.string t) ∧ s.size % 2 = 0) ∨ (J [] (W.setCell ⟨B, 0, none⟩ (.string (s ++ { data := #[0] }))) ∧ Boxed (W.setCell ⟨B, 0, none⟩ (.string (s ++ { data := #[0] }))) B 9 (.string t) ∧ s.size % 2 = 1) := by
    by_cases hodd : s.size % 2 = 1
    · right
      refine ⟨hJB _ _ _ h0, ?_, hodd⟩
      have e : s ++ { data := #[0] } = t := L_inj (by rw [L_append, lt]; unfold even; rw [if_pos (by rw [L_length]; exact hodd)]; rfl)
      rw [e]
      exact hBW.set _
    · left
      have e : s = t := L_inj (by rw [lt]; unfold even; rw [if_neg (by rw [L_length]; exact hodd)])
      exact ⟨h0, by rw [← e]; exact hBW, by omega⟩
  clear hw hbd hxs ht lt hJB h0
  rcases start with ⟨hJ0, hB0, hodd⟩ | ⟨hJ0, hB0, hodd⟩
  all_goals
    have hlt : s.size ≤ 140737488351232 := hs
    refine callsIn_of_wp Tryz.func267 rfl trivial ?_ rfl
    simp only [Tryz.ntmps267, List.size_toArray, List.length_cons, List.length_nil, Nat.reduceAdd, Nat.reduceSub, Array.replicate_succ, Array.replicate_zero, List.push_toArray, List.append_toArray, List.nil_append, List.cons_append]
    gi_wp2
    gi_loopw [3] (fun i wr => ∃ k : Nat, k ≤ xs.length ∧ i = .int .i64 (2 * (k : Int)) ∧ J (xs.take k) wr ∧ Boxed wr B 9 (.string t)) (fun i _ => 2 * xs.length + 2 - (intOf i).toNat)
    case atStart => exact ⟨0, Nat.zero_le _, rfl, hJ0, hB0⟩
    case round =>
      obtain ⟨k, hk, rfl, hJk, hBk⟩ := hrel
      have hck := hBk.cell
      by_cases hlt : k < xs.length
      · obtain ⟨x, hx⟩ : ∃ x, x = xs.getD k 0 := ⟨_, rfl⟩
        have e1 := HW.out k hlt
        have hsp := split_at hlt
        obtain ⟨x0, x1⟩ := HBD.out _ (getD_mem hlt)
        have hsn := take_snoc_i hlt
        rw [← hx] at e1 hsp x0 x1 hsn
        have E1 := hide e1; have HSN := hide hsn; have HSP := hide hsp
        clear e1 hsn hsp hx
        gi_wp2_with fail
        refine ⟨trivial, ?_⟩
        rw [show 2 * (k : Int) = ((2 * k : Nat) : Int) from by omega]
        refine (callsIn_wide.2 (Get16_in t (2 * k) _ (by unfold maxLen; omega) (by omega))).mono ?_
        rintro e w1 ⟨rfl, n1, rfl⟩
        rw [E1.out]
        obtain ⟨fn, tmps, assign, body, hy, hR⟩ := HY.out (xs.take k) x (xs.drop (k + 1)) (wr.drewN n1) HSP.out (HD.out _ _ _ hJk)
        gi_wp2
        refine hR.mono ?_
        rintro e W' ⟨rfl, hJ', hk'⟩
        have hB' : Boxed W' B 9 (.string t) := hk'.trans hBk
        rw [HSN.out] at hJ'
        gi_wp2
        go_roundw
        case rel => exact ⟨k + 1, by omega, by go_num, hJ', hB'⟩
        case measure => simp [intOf]; omega
      · obtain rfl : k = xs.length := by omega
        rw [List.take_length] at hJk
        have hh : has t.size (2 * (xs.length : Int)) 2 = false := has_false (by omega)
        have hg : get16 (L t) (2 * (xs.length : Int)) = 0 := by unfold get16; rw [L_length, hh]; rfl
        have c1 := fun w => Get16_q t (2 * (xs.length : Int)) w (by unfold maxLen; omega) (by omega)
        rw [hh, hg] at c1
        have C1 := hide c1
        clear hh hg c1
        gi_wp2_with fail
        refine ⟨trivial, ?_⟩
        refine (callsIn_wide.2 (C1.out _)).mono ?_
        rintro e w1 ⟨rfl, n1, rfl⟩
        gi_wp2_with fail
        refine ⟨fun _ h => (by cases h), ?_⟩
        gi_wp2
        refine bodyPost_ret (results_none rfl _ _ _) rfl ?_
        exact ⟨⟨_, rfl⟩, HD.out _ _ _ hJk⟩

/-- the sum of some texts -/
def sumL (ls : List (List UInt8)) : Int := 65535 - fold1 0 (ls.flatMap words)
theorem flat_bd (ls : List (List UInt8)) : ∀ x ∈ ls.flatMap words, 0 ≤ x ∧ x ≤ 65535 := by
  intro x hx
  obtain ⟨l, _, hl⟩ := List.mem_flatMap.1 hx
  exact words_bd l x hl
theorem take_snoc_s (l : List ByteArray) (k : Nat) (h : k < l.length) : l.take (k + 1) = l.take k ++ [l.getD k ByteArray.empty] := by
  rw [List.take_succ_eq_append_getElem h, List.getD_eq_getElem?_getD, List.getElem?_eq_getElem h]; rfl
theorem strs_at {l : List ByteArray} {j : Nat} (h : j < l.length) : (l.map Value.string)[j]? = some (.string (l.getD j ByteArray.empty)) := by
  simp [List.getD_eq_getElem?_getD, List.getElem?_eq_getElem h]
theorem getD_mem_s {l : List ByteArray} {k : Nat} (h : k < l.length) : l.getD k ByteArray.empty ∈ l := by
  rw [List.getD_eq_getElem?_getD, List.getElem?_eq_getElem h]; exact List.getElem_mem h
/-- what the first k texts come to -/
def part (ss : List ByteArray) (k : Nat) : Int := fold1 0 ((ss.take k).flatMap fun s => words (L s))
theorem part_bd (ss : List ByteArray) (k : Nat) : 0 ≤ part ss k ∧ part ss k ≤ 65535 :=
  fold1_bd _ 0 (by omega) (fun x hx => by
    obtain ⟨l, _, hl⟩ := List.mem_flatMap.1 hx
    exact words_bd _ x hl)
theorem part_succ (ss : List ByteArray) (k : Nat) (h : k < ss.length) : part ss (k + 1) = fold1 (part ss k) (words (L (ss.getD k ByteArray.empty))) := by
  unfold part; rw [take_snoc_s ss k h, List.flatMap_append, fold1_append]; simp
theorem part_all (ss : List ByteArray) (k : Nat) (h : k = ss.length) : 65535 - part ss k = sumL (ss.map L) := by
  unfold part sumL; rw [h, List.take_length, List.flatMap_map]

end Go.Proofs.YtedfdphapcanoaaGreatDoor
