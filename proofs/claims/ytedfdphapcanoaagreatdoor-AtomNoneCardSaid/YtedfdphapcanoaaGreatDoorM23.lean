/- Several texts of this claim, one behind the other. -/
import Derived.Test.YtedfdphapcanoaaGreatDoorM15

section
/- Plain facts on sums: what a fold of 'add, what runs over coming in again' comes to. No program. -/
set_option linter.unusedVariables false
namespace Go.Proofs.YtedfdphapcanoaaGreatDoor
open Go.RowKit

def tot (l : List Int) : Int := l.foldr (· + ·) 0
theorem tot_cons (x : Int) (l : List Int) : tot (x :: l) = x + tot l := rfl
theorem tot_nil : tot [] = 0 := rfl
theorem tot_append (a b : List Int) : tot (a ++ b) = tot a + tot b := by
  induction a with
  | nil => simp [tot]
  | cons x a ih => rw [List.cons_append, tot_cons, tot_cons, ih]; omega
theorem tot_nonneg {l : List Int} (h : ∀ x ∈ l, 0 ≤ x ∧ x ≤ 65535) : 0 ≤ tot l := by
  induction l with
  | nil => simp [tot]
  | cons x l ih => have := ih (fun y hy => h y (by simp [hy])); have := h x (by simp); rw [tot_cons]; omega
theorem tot_zero {l : List Int} (h : ∀ x ∈ l, 0 ≤ x ∧ x ≤ 65535) : tot l = 0 ↔ ∀ x ∈ l, x = 0 := by
  induction l with
  | nil => simp [tot]
  | cons x l ih =>
    have h0 := tot_nonneg (l := l) (fun y hy => h y (by simp [hy]))
    have h1 := h x (by simp)
    have h2 := ih (fun y hy => h y (by simp [hy]))
    rw [tot_cons]
    constructor
    · intro e y hy
      rcases List.mem_cons.1 hy with rfl | hy
      · omega
      · exact h2.1 (by omega) y hy
    · intro e
      have := e x (by simp)
      have := h2.2 (fun y hy => e y (by simp [hy]))
      omega

/-- the one number of 0 to 65535 that a sum comes to -/
def rep (t : Int) : Int := if t = 0 then 0 else (t - 1) % 65535 + 1
theorem rep_bd {t : Int} (h : 0 ≤ t) : 0 ≤ rep t ∧ rep t ≤ 65535 := by unfold rep; split <;> omega
theorem rep_small {n : Int} (h : 0 ≤ n ∧ n ≤ 65535) : rep n = n := by unfold rep; split <;> omega
theorem add1_rep {t x : Int} (ht : 0 ≤ t) (hx : 0 ≤ x ∧ x ≤ 65535) : add1 (rep t) x = rep (t + x) := by
  unfold add1 rep
  split <;> split <;> split <;> omega
theorem fold1_rep : ∀ (l : List Int) (t : Int), 0 ≤ t → (∀ x ∈ l, 0 ≤ x ∧ x ≤ 65535) → fold1 (rep t) l = rep (t + tot l)
  | [], t, _, _ => by simp [fold1, tot]
  | x :: l, t, ht, hl => by
    have hx := hl x (by simp)
    show fold1 (add1 (rep t) x) l = _
    rw [add1_rep ht hx, fold1_rep l (t + x) (by omega) (fun y hy => hl y (by simp [hy])), tot_cons, Int.add_assoc]
theorem fold1_zero {l : List Int} (hl : ∀ x ∈ l, 0 ≤ x ∧ x ≤ 65535) : fold1 0 l = rep (tot l) := by
  have := fold1_rep l 0 (by omega) hl
  simpa [rep] using this
theorem sumL_rep (ls : List (List UInt8)) : sumL ls = 65535 - rep (tot (ls.flatMap words)) := by
  unfold sumL; rw [fold1_zero (flat_bd ls)]

theorem words_put (n : Int) (r : List UInt8) (h : 0 ≤ n ∧ n ≤ 65535) : words (put16 n ++ r) = n :: words r := by
  show (((byt (n / 256)).toNat : Int) * 256 + ((byt n).toNat : Int)) :: words r = _
  rw [byt_int _ (by omega), byt_int _ (by omega)]
  congr 1; omega
theorem words_putW {l : List Int} (hl : ∀ x ∈ l, 0 ≤ x ∧ x ≤ 65535) (r : List UInt8) : words (putW l ++ r) = l ++ words r := by
  induction l with
  | nil => rfl
  | cons x l ih =>
    show words ((put16 x ++ putW l) ++ r) = _
    rw [List.append_assoc, words_put x _ (hl x (by simp)), ih (fun y hy => hl y (by simp [hy]))]; rfl
theorem words_putW' {l : List Int} (hl : ∀ x ∈ l, 0 ≤ x ∧ x ≤ 65535) : words (putW l) = l := by
  have := words_putW hl []
  simpa [words] using this

/-! ### both bytes of each word change places -/
def swap (x : Int) : Int := x % 256 * 256 + x / 256
theorem swap_bd {x : Int} (h : 0 ≤ x ∧ x ≤ 65535) : 0 ≤ swap x ∧ swap x ≤ 65535 := by unfold swap; omega
theorem swap_zero {x : Int} (h : 0 ≤ x ∧ x ≤ 65535) : swap x = 0 ↔ x = 0 := by unfold swap; omega
theorem swap_mod {x : Int} (h : 0 ≤ x ∧ x ≤ 65535) : ∃ k, swap x = 256 * x - 65535 * k := ⟨x / 256, by unfold swap; omega⟩
theorem tot_swap {l : List Int} (h : ∀ x ∈ l, 0 ≤ x ∧ x ≤ 65535) : ∃ k, tot (l.map swap) = 256 * tot l - 65535 * k := by
  induction l with
  | nil => exact ⟨0, by simp [tot]⟩
  | cons x l ih =>
    obtain ⟨k, hk⟩ := ih (fun y hy => h y (by simp [hy]))
    obtain ⟨j, hj⟩ := swap_mod (h x (by simp))
    exact ⟨k + j, by rw [List.map_cons, tot_cons, tot_cons, hk, hj]; omega⟩
theorem rep_swap {l : List Int} (h : ∀ x ∈ l, 0 ≤ x ∧ x ≤ 65535) : rep (tot (l.map swap)) = swap (rep (tot l)) := by
  have hs : ∀ x ∈ l.map swap, 0 ≤ x ∧ x ≤ 65535 := by
    intro x hx
    obtain ⟨y, hy, rfl⟩ := List.mem_map.1 hx
    exact swap_bd (h y hy)
  have h1 := tot_nonneg h
  have h2 := tot_nonneg hs
  obtain ⟨k, hk⟩ := tot_swap h
  have hz : tot (l.map swap) = 0 ↔ tot l = 0 := by
    rw [tot_zero hs, tot_zero h]
    constructor
    · intro e x hx
      exact (swap_zero (h x hx)).1 (e _ (List.mem_map.2 ⟨x, hx, rfl⟩))
    · intro e x hx
      obtain ⟨y, hy, rfl⟩ := List.mem_map.1 hx
      exact (swap_zero (h y hy)).2 (e y hy)
  by_cases h0 : tot l = 0
  · rw [hz.2 h0, h0]; rfl
  · have h3 : tot (l.map swap) ≠ 0 := fun e => h0 (hz.1 e)
    unfold rep
    rw [if_neg h3, if_neg h0]
    obtain ⟨q, hq⟩ : ∃ q, q = (tot l - 1) % 65535 + 1 := ⟨_, rfl⟩
    have hqb : 1 ≤ q ∧ q ≤ 65535 := by omega
    have hqm : ∃ m, tot l = q + 65535 * m := ⟨(tot l - 1) / 65535, by omega⟩
    obtain ⟨m, hm⟩ := hqm
    rw [← hq]
    obtain ⟨j, hj⟩ := swap_mod (x := q) (by omega)
    have hb := swap_bd (x := q) (by omega)
    have hn : swap q ≠ 0 := fun e => by have := (swap_zero (x := q) (by omega)).1 e; omega
    have : tot (l.map swap) = swap q + 65535 * (256 * m - k + j) := by rw [hk, hj, hm]; omega
    omega
theorem swap_not {x : Int} (h : 0 ≤ x ∧ x ≤ 65535) : 65535 - swap x = swap (65535 - x) := by unfold swap; omega

/-- a text, both bytes of each word having changed places -/
def turnB : List UInt8 → List UInt8
  | a :: b :: t => b :: a :: turnB t
  | l => l
theorem turnB_put (n : Int) (r : List UInt8) : turnB (put16 n ++ r) = byt n :: byt (n / 256) :: turnB r := rfl
theorem words_turn {l : List Int} (hl : ∀ x ∈ l, 0 ≤ x ∧ x ≤ 65535) : words (turnB (putW l)) = l.map swap := by
  induction l with
  | nil => rfl
  | cons x l ih =>
    have hx := hl x (by simp)
    show words (turnB (put16 x ++ putW l)) = _
    rw [turnB_put, List.map_cons, ← ih (fun y hy => hl y (by simp [hy]))]
    show (((byt x).toNat : Int) * 256 + ((byt (x / 256)).toNat : Int)) :: words (turnB (putW l)) = _
    rw [byt_int _ (by omega), byt_int _ (by omega)]
    congr 1
    unfold swap; omega

/-! ### updates -/
theorem upd_mod {n a b : Int} (hn : 0 ≤ n ∧ n ≤ 65535) (ha : 0 ≤ a ∧ a ≤ 65535) (hb : 0 ≤ b ∧ b ≤ 65535) : (upd n a b - (n + a - b)) % 65535 = 0 := by
  unfold upd add1
  split <;> split <;> omega
theorem updF_mod : ∀ (l : List (Int × Int)) (n : Int), 0 ≤ n ∧ n ≤ 65535 → (∀ p ∈ l, (0 ≤ p.1 ∧ p.1 ≤ 65535) ∧ (0 ≤ p.2 ∧ p.2 ≤ 65535)) → (updF n l - (n + tot (l.map (·.1)) - tot (l.map (·.2)))) % 65535 = 0
  | [], n, _, _ => by simp [updF, tot]
  | p :: l, n, hn, hl => by
    have hp := hl p (by simp)
    have h1 := upd_mod hn hp.1 hp.2
    have h2 := updF_mod l (upd n p.1 p.2) (upd_bd hn hp.1 hp.2) (fun q hq => hl q (by simp [hq]))
    show (updF (upd n p.1 p.2) l - _) % 65535 = 0
    rw [List.map_cons, List.map_cons, tot_cons, tot_cons]
    omega
theorem rep_mod {t : Int} (h : 0 ≤ t) : (rep t - t) % 65535 = 0 := by unfold rep; split <;> omega
theorem zip_fst : ∀ {a b : List Int}, a.length = b.length → (a.zip b).map (·.1) = a
  | [], [], _ => rfl
  | x :: a, y :: b, h => by simp only [List.zip_cons_cons, List.map_cons, zip_fst (show a.length = b.length by simpa using h)]
theorem zip_snd : ∀ {a b : List Int}, a.length = b.length → (a.zip b).map (·.2) = b
  | [], [], _ => rfl
  | x :: a, y :: b, h => by simp only [List.zip_cons_cons, List.map_cons, zip_snd (show a.length = b.length by simpa using h)]
/-- updates of a text's sum, from its words to another's, is the other's but for what 0 and 65535 are -/
theorem updates_new {a b : List UInt8} (hz : a.length = b.length) (h2 : a.length % 2 = 0) :
    (updates (sumL [a]) a b - sumL [b]) % 65535 = 0 := by
  have hl : (words a).length = (words b).length := by
    have := words_length h2
    have := words_length (l := b) (by omega)
    omega
  unfold updates
  rw [if_neg (by omega)]
  have h1 := updF_mod ((words a).zip (words b)) (sumL [a]) (sumL_bd _) zip_bd
  rw [zip_fst hl, zip_snd hl] at h1
  have ea : ([a].flatMap words) = words a := by simp
  have eb : ([b].flatMap words) = words b := by simp
  have sa := sumL_rep [a]
  have sb := sumL_rep [b]
  rw [ea] at sa
  rw [eb] at sb
  have ra := rep_mod (tot_nonneg (words_bd a))
  have rb := rep_mod (tot_nonneg (words_bd b))
  omega
theorem updates_bd {n : Int} {a b : List UInt8} (hn : 0 ≤ n ∧ n ≤ 65535) : 0 ≤ updates n a b ∧ updates n a b ≤ 65535 := by
  unfold updates
  split
  · exact hn
  · exact updF_bd _ n hn zip_bd
end Go.Proofs.YtedfdphapcanoaaGreatDoor
end

section
/- Plain facts on sums: a text that is sealed holds; with one bit turned it does not. No program. -/
set_option linter.unusedVariables false
namespace Go.Proofs.YtedfdphapcanoaaGreatDoor
open Go.RowKit

theorem holds_iff (ls : List (List UInt8)) : holds ls = true ↔ tot (ls.flatMap words) % 65535 = 0 ∧ tot (ls.flatMap words) ≠ 0 := by
  have h := tot_nonneg (flat_bd ls)
  unfold holds
  rw [sumL_rep, beq_iff_eq]
  unfold rep
  split <;> omega
theorem words_even : ∀ (a b : List UInt8), a.length % 2 = 0 → words (a ++ b) = words a ++ words b
  | [], b, _ => rfl
  | [x], b, h => by simp at h
  | x :: y :: t, b, h => by
    show _ :: words (t ++ b) = _ :: (words t ++ words b)
    rw [words_even t b (by simp at h; omega)]
theorem tot_set : ∀ (l : List UInt8) (i : Nat) (x : UInt8), i < l.length →
    tot (words (l.set i x)) = tot (words l) + ((x.toNat : Int) - at_ l i) * (if i % 2 = 0 then 256 else 1)
  | [], i, x, h => by simp at h
  | [a], i, x, h => by
    have : i = 0 := by simp at h; omega
    subst this
    simp [words, tot, at_]; omega
  | a :: b :: t, 0, x, h => by
    show ((x.toNat : Int) * 256 + (b.toNat : Int)) + tot (words t) = ((a.toNat : Int) * 256 + (b.toNat : Int)) + tot (words t) + ((x.toNat : Int) - (a.toNat : Int)) * 256
    omega
  | a :: b :: t, 1, x, h => by
    show ((a.toNat : Int) * 256 + (x.toNat : Int)) + tot (words t) = ((a.toNat : Int) * 256 + (b.toNat : Int)) + tot (words t) + ((x.toNat : Int) - (b.toNat : Int)) * 1
    omega
  | a :: b :: t, i + 2, x, h => by
    have ih := tot_set t i x (by simp at h; omega)
    show _ + tot (words (t.set i x)) = _ + tot (words t) + ((x.toNat : Int) - at_ t i) * (if (i + 2) % 2 = 0 then 256 else 1)
    rw [ih, show (i + 2) % 2 = i % 2 from by omega]; omega

/-- a number with one bit turned -/
def fl (a : Int) (j : Nat) : Int := if a / 2 ^ j % 2 = 0 then a + 2 ^ j else a - 2 ^ j
theorem fl_eq (a : Int) (j : Nat) : fl a j = a + 2 ^ j ∨ fl a j = a - 2 ^ j := by unfold fl; split <;> simp
theorem lt8 {j : Nat} (h : j < 8) : j = 0 ∨ j = 1 ∨ j = 2 ∨ j = 3 ∨ j = 4 ∨ j = 5 ∨ j = 6 ∨ j = 7 := by omega
theorem fl_bd {a : Int} {j : Nat} (ha : 0 ≤ a ∧ a ≤ 255) (hj : j < 8) : 0 ≤ fl a j ∧ fl a j ≤ 255 := by
  unfold fl
  rcases lt8 hj with rfl | rfl | rfl | rfl | rfl | rfl | rfl | rfl <;> simp only [Int.reducePow, Int.pow_zero] <;> split <;> omega
theorem xor_fin : ∀ (x : Fin 256) (j : Fin 8), bits .xor .u8 ((x.val : Nat) : Int) (2 ^ j.val % 256) = fl ((x.val : Nat) : Int) j.val := by decide +kernel
theorem xor_fl {x : Int} {j : Nat} (hx : 0 ≤ x ∧ x ≤ 255) (hj : j < 8) : bits .xor .u8 x (2 ^ j % 256) = fl x j := by
  have h := xor_fin ⟨x.toNat, by omega⟩ ⟨j, hj⟩
  simp only [Int.toNat_of_nonneg hx.1] at h
  exact h
/-- a text with bit k turned -/
def flip (l : List UInt8) (k : Nat) : List UInt8 := l.set (k / 8) (byt (fl (at_ l (k / 8)) (k % 8)))
theorem flip_length (l : List UInt8) (k : Nat) : (flip l k).length = l.length := by simp [flip]
theorem flip_tot (l : List UInt8) (k : Nat) (h : k < 8 * l.length) : (tot (words (flip l k)) - tot (words l)) % 65535 ≠ 0 := by
  have hb := fl_bd (at_bd l (k / 8)) (show k % 8 < 8 by omega)
  unfold flip
  rw [tot_set _ _ _ (by omega), byt_int _ hb.1]
  have he := fl_eq (at_ l (k / 8)) (k % 8)
  obtain ⟨j, hj⟩ : ∃ j, j = k % 8 := ⟨_, rfl⟩
  rw [← hj] at he hb ⊢
  generalize fl (at_ l (k / 8)) j = y at *
  generalize at_ l (k / 8) = x at *
  rcases lt8 (show j < 8 by omega) with rfl | rfl | rfl | rfl | rfl | rfl | rfl | rfl <;> simp only [Int.reducePow, Int.pow_zero] at he <;> split <;> omega

theorem holds_flip (ps : List (List UInt8)) (l : List UInt8) (k : Nat) (hk : k < 8 * l.length) (h : holds (ps ++ [l]) = true) : holds (ps ++ [flip l k]) = false := by
  have h1 := (holds_iff _).1 h
  have h2 := flip_tot l k hk
  rw [Bool.eq_false_iff]
  intro h3
  have h4 := (holds_iff _).1 h3
  simp only [List.flatMap_append, List.flatMap_cons, List.flatMap_nil, List.append_nil, tot_append] at h1 h4
  omega

/-! ### a sum in its place -/
def lay (l : List UInt8) (k : Nat) (n : Int) : List UInt8 := l.take k ++ put16 n ++ l.drop (k + 2)
theorem lay_length {l : List UInt8} {k : Nat} {n : Int} (h : k + 2 ≤ l.length) : (lay l k n).length = l.length := by
  unfold lay; simp [put16]; omega
theorem lay_take {l : List UInt8} {k : Nat} {n : Int} (h : k + 2 ≤ l.length) : (lay l k n).take k = l.take k := by
  unfold lay
  rw [List.append_assoc, List.take_append_of_le_length (by simp; omega), List.take_take, Nat.min_self]
theorem lay_rest {l : List UInt8} {k : Nat} {n : Int} (h : k + 2 ≤ l.length) : (lay l k n).drop k = put16 n ++ l.drop (k + 2) := by
  unfold lay
  rw [List.append_assoc, List.drop_append_of_le_length (by simp; omega), List.drop_eq_nil_of_le (by simp; omega), List.nil_append]
theorem lay_mid {l : List UInt8} {k : Nat} {n : Int} (h : k + 2 ≤ l.length) : ((lay l k n).drop k).take 2 = put16 n := by
  rw [lay_rest h]; rfl
theorem lay_drop {l : List UInt8} {k : Nat} {n : Int} (h : k + 2 ≤ l.length) : (lay l k n).drop (k + 2) = l.drop (k + 2) := by
  rw [← List.drop_drop, lay_rest h]; rfl
theorem lay_lay {l : List UInt8} {k : Nat} {n m : Int} (h : k + 2 ≤ l.length) : lay (lay l k n) k m = lay l k m := by
  show (lay l k n).take k ++ put16 m ++ (lay l k n).drop (k + 2) = _
  rw [lay_take h, lay_drop h]; rfl
theorem lay_at {l : List UInt8} {k : Nat} {n : Int} (h : k + 2 ≤ l.length) (hn : 0 ≤ n ∧ n ≤ 65535) : be16 (lay l k n) k = n := by
  have e : be16 ((lay l k n).drop k) 0 = n := by rw [lay_rest h]; exact be16_put n _ hn.1 hn.2
  rwa [be16_drop] at e
theorem lay_other {l : List UInt8} {k i : Nat} {n : Int} (h : k + 2 ≤ l.length) (hi : i + 1 < k ∨ k + 2 ≤ i) : be16 (lay l k n) i = be16 l i := by
  rcases hi with hi | hi
  · rw [← be16_take (n := k) hi, lay_take h, be16_take hi]
  · have e1 : be16 ((lay l k n).drop (k + 2)) (i - (k + 2)) = be16 (l.drop (k + 2)) (i - (k + 2)) := by rw [lay_drop h]
    rw [be16_drop, be16_drop] at e1
    rwa [show k + 2 + (i - (k + 2)) = i from by omega] at e1
theorem lay_tot {l : List UInt8} {k : Nat} {n : Int} (h : k + 2 ≤ l.length) (h2 : k % 2 = 0) (hn : 0 ≤ n ∧ n ≤ 65535) : tot (words (lay l k n)) = tot (words (lay l k 0)) + n := by
  have hz : (l.take k).length % 2 = 0 := by simp; omega
  unfold lay
  rw [List.append_assoc, List.append_assoc, words_even _ _ hz, words_even _ _ hz, words_put n _ hn, words_put 0 _ (by omega), tot_append, tot_append, tot_cons, tot_cons]; omega
/-- what is sealed holds -/
theorem lay_holds (ps : List (List UInt8)) {l : List UInt8} {k : Nat} {n : Int} (h : k + 2 ≤ l.length) (h2 : k % 2 = 0) (hn : n = sumL (ps ++ [lay l k 0]) ∨ n = 65535 ∧ sumL (ps ++ [lay l k 0]) = 0)
    : holds (ps ++ [lay l k n]) = true := by
  have hb := sumL_bd (ps ++ [lay l k 0])
  have hnb : 0 ≤ n ∧ n ≤ 65535 := by omega
  rw [holds_iff]
  have hr := sumL_rep (ps ++ [lay l k 0])
  have hp := tot_nonneg (flat_bd (ps ++ [lay l k 0]))
  have hm := rep_mod hp
  have hz : rep 0 = 0 := rfl
  simp only [List.flatMap_append, List.flatMap_cons, List.flatMap_nil, List.append_nil, tot_append] at hr hm hp ⊢
  rw [lay_tot h h2 hnb, ← Int.add_assoc]
  generalize tot (ps.flatMap words) + tot (words (lay l k 0)) = T at *
  have hT : T = 0 → rep T = 0 := fun e => by rw [e]; rfl
  omega
end Go.Proofs.YtedfdphapcanoaaGreatDoor
end
