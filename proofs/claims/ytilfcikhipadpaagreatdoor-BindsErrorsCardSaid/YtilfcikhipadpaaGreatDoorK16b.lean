/- Several texts of this claim, one behind the other. -/
import Derived.Test.YtilfcikhipadpaaGreatDoorK15b

section
/- udp over this program: what stands in a datagram's head, and whether it is one. -/
set_option linter.unusedVariables false
namespace Go.Proofs.YtilfcikhipadpaaGreatDoor
open Go.RowKit
attribute [local go_sem] Oper.semAt_some

/-- the first k words of a head, the others 0 -/
def headTo (l : List UInt8) (k : Nat) : Array Value := #[.int .u16 (if 0 < k then get16 l 0 else 0), .int .u16 (if 1 < k then get16 l 2 else 0), .int .u16 (if 2 < k then get16 l 4 else 0), .int .u16 (if 3 < k then get16 l 6 else 0)]

set_option maxHeartbeats 1000000 in
theorem udp_take (s : ByteArray) (w : World) (hs : s.size ≤ maxLen) :
    Calls Tryz.prog 205 #[.string s] w (Ret (udpHead (L s)) w) := by
  have HS := hide hs
  go_enter Tryz.func205, Tryz.ntmps205
  go_wp2_with fail
  go_loopw [4] (fun i wr => ∃ k : Nat, k ≤ 4 ∧ i = .int .i64 k ∧ Cells wr w.heap.size (headTo (L s) k) 96 ∧ Below w.heap.size w wr) (fun i _ => 4 - (intOf i).toNat)
  case atStart => exact ⟨0, by omega, rfl, Cells.new w _ _, fresh_below _ _⟩
  case round =>
    obtain ⟨k, hk, rfl, hC, hbl⟩ := hrel
    by_cases hlt : k < 4
    · have c1 := fun W => Get16 s (2 * (k : Int)) W HS.out (by omega)
      obtain ⟨x, hx⟩ : ∃ x, x = get16 (L s) (2 * (k : Int)) := ⟨_, rfl⟩
      obtain ⟨y, hy⟩ : ∃ y, y = has s.size (2 * (k : Int)) 2 := ⟨_, rfl⟩
      rw [← hx, ← hy] at c1
      have hnext : ∀ W, Cells W w.heap.size (headTo (L s) k) 96 → Cells (W.setCell ⟨w.heap.size, k, none⟩ (.int .u16 x)) w.heap.size (headTo (L s) (k + 1)) 96 := by
        intro W hW
        have h2 := hW.set_ k (.int .u16 x)
        rw [hx] at h2 ⊢
        clear hx c1 hW
        match k, hlt, h2 with
        | 0, _, h2 => exact h2
        | 1, _, h2 => exact h2
        | 2, _, h2 => exact h2
        | 3, _, h2 => exact h2
      have hat : ∃ v, (headTo (L s) k)[k]? = some v := ⟨_, Array.getElem?_eq_getElem (by simpa [headTo] using hlt)⟩
      obtain ⟨v, hv⟩ := hat
      have k1 : (k : Int) < 4 := by omega
      have k2 : IntKind.i64.wrap (2 * (k : Int)) = 2 * (k : Int) := IntWalk.i64_in _ (by omega)
      have C1 := hide c1; have HN := hide hnext; have HV := hide hv; have HC := hide hC
      clear c1 hnext hv hx hy hC
      go_wp2_with fail
      refine (C1.out _).mono ?_
      rintro e w1 ⟨rfl, b1⟩
      have d1 := Cells.below b1 HC.out
      have x1 : w1.cell? ⟨w.heap.size, k, none⟩ = some v := (d1.at_ k).trans HV.out
      have f1 : w1.frozen? ⟨w.heap.size, k, none⟩ = false := d1.free k
      have hd := HN.out _ d1
      replace b1 := bstep hbl b1
      have hb2 := b1.setCell (p := ⟨w.heap.size, k, none⟩) (Nat.le_refl _) (.int .u16 x)
      have HD := hide hd
      clear hd d1
      go_wp2_with fail
      go_roundw
      case rel => exact ⟨k + 1, by omega, by go_num, HD.out, hb2⟩
      case measure => simp [intOf]; omega
    · obtain rfl : k = 4 := by omega
      obtain ⟨⟨x0, x1, x2, x3⟩, f0, f1, f2, f3⟩ := Cells.four (show Cells wr w.heap.size #[.int .u16 (get16 (L s) 0), .int .u16 (get16 (L s) 2), .int .u16 (get16 (L s) 4), .int .u16 (get16 (L s) 6)] 96 from hC)
      obtain ⟨v0, e0⟩ : ∃ x, x = get16 (L s) 0 := ⟨_, rfl⟩
      obtain ⟨v2, e2⟩ : ∃ x, x = get16 (L s) 2 := ⟨_, rfl⟩
      obtain ⟨v4, e4⟩ : ∃ x, x = get16 (L s) 4 := ⟨_, rfl⟩
      obtain ⟨v6, e6⟩ : ∃ x, x = get16 (L s) 6 := ⟨_, rfl⟩
      rw [← e0] at x0
      rw [← e2] at x1
      rw [← e4] at x2
      rw [← e6] at x3
      have he : Value.agg #[.int .u16 v0, .int .u16 v2, .int .u16 v4, .int .u16 v6] = udpHead (L s) := by rw [e0, e2, e4, e6]; rfl
      have HE := hide he
      clear he
      clear hC e0 e2 e4 e6
      go_wp2_with fail
      (try simp only [Exit.inBlock, Exit.then]); refine bodyPost_ret (by simp [results, Tryz.results205, go_sem, *]; try rfl) rfl ?_
      exact ⟨by rw [HE.out], (((hbl.setCell (p := ⟨w.heap.size, 0, none⟩) (Nat.le_refl _) _).setCell (p := ⟨w.heap.size, 1, none⟩) (Nat.le_refl _) _).setCell (p := ⟨w.heap.size, 2, none⟩) (Nat.le_refl _) _).setCell (p := ⟨w.heap.size, 3, none⟩) (Nat.le_refl _) _⟩

set_option maxHeartbeats 1000000 in
theorem udp_Parse_no (s : ByteArray) (w : World) (hs : s.size ≤ maxLen) (h : udpIs s = false) :
    Calls Tryz.prog 181 #[.string s] w (Ret (.tuple #[udpNone, .string (S []), .bool false]) w) := by
  have hs' := hs
  unfold maxLen at hs'
  by_cases h8 : s.size < 8
  · have q2 : (s.size : Int) < 8 := by omega
    unfold udpNone
    go_enter Tryz.func181, Tryz.ntmps181
    go_wp2_with fail
    (try simp only [Exit.inBlock, Exit.then]); refine bodyPost_ret (by simp [results, Tryz.results181, go_sem]; try rfl) rfl ?_
    exact ⟨rfl, fresh_below _ _⟩
  · have hx0 : get16 (L s) 4 ≠ s.size := by unfold udpIs at h; simp at h; exact h (by omega)
    have c := fun w => udp_take s w hs
    have hb := get16_bd (L s) 4
    unfold udpHead at c
    obtain ⟨v0, e0⟩ : ∃ x, x = get16 (L s) 0 := ⟨_, rfl⟩
    obtain ⟨v2, e2⟩ : ∃ x, x = get16 (L s) 2 := ⟨_, rfl⟩
    obtain ⟨x, hx⟩ : ∃ x, x = get16 (L s) 4 := ⟨_, rfl⟩
    obtain ⟨v6, e6⟩ : ∃ x, x = get16 (L s) 6 := ⟨_, rfl⟩
    rw [← e0, ← e2, ← hx, ← e6] at c
    rw [← hx] at hx0 hb
    have q1 : (x != (s.size : Int)) = true := by simp [hx0]
    have q2 : ¬ (s.size : Int) < 8 := by omega
    have C := hide c
    clear c hx h e0 e2 e6
    unfold udpNone
    go_enter Tryz.func181, Tryz.ntmps181
    go_wp2_with fail
    refine (C.out _).mono ?_
    rintro e w1 ⟨rfl, b1⟩
    have d1 := Cells.below b1 (Cells.new w _ _)
    have z1 : w.heap.size < w1.heap.size := by have := b1.size; rw [World.size_alloc] at this; omega
    have d2 := Cells.below (fresh_below w1 (.cells #[.int .u16 v0, .int .u16 v2, .int .u16 x, .int .u16 v6] 96)) d1
    have a2 := Cells.new w1 #[.int .u16 v0, .int .u16 v2, .int .u16 x, .int .u16 v6] 96
    obtain ⟨⟨x0, x1, x2, x3⟩, f0, f1, f2, f3⟩ := d2.four
    obtain ⟨⟨u0, u1, u2, u3⟩, o0, o1, o2, o3⟩ := d1.four
    have n1 : w1.heap.size ≠ w.heap.size := by omega
    have n2 : w.heap.size ≠ w1.heap.size := by omega
    obtain ⟨⟨y0, y1, y2, y3⟩, g0, g1, g2, g3⟩ := a2.four
    replace b1 := bstep (fresh_below _ _) b1
    go_wp2_with fail
    (try simp only [Exit.inBlock, Exit.then]); refine bodyPost_ret (by simp [results, Tryz.results181, go_sem, *]; try rfl) rfl ?_
    exact ⟨rfl, bstep ((((b1.setCell (p := ⟨w.heap.size, 0, none⟩) (Nat.le_refl _) _).setCell (p := ⟨w.heap.size, 1, none⟩) (Nat.le_refl _) _).setCell (p := ⟨w.heap.size, 2, none⟩) (Nat.le_refl _) _).setCell (p := ⟨w.heap.size, 3, none⟩) (Nat.le_refl _) _) (fresh_below _ _)⟩

set_option maxHeartbeats 1000000 in
theorem udp_Parse_yes (s : ByteArray) (w : World) (hs : s.size ≤ maxLen) (h : udpIs s = true) :
    Calls Tryz.prog 181 #[.string s] w (Ret (.tuple #[udpHead (L s), .string (S ((L s).drop 8)), .bool true]) w) := by
  have hs' := hs
  unfold maxLen at hs'
  have h' := h
  unfold udpIs at h'
  simp at h'
  obtain ⟨h8, hl⟩ := h'
  have c := fun w => udp_take s w hs
  have hb := get16_bd (L s) 4
  have he : s.extract 8 s.size = S ((L s).drop 8) := eq_S (L_from s 8)
  unfold udpHead at c ⊢
  obtain ⟨v0, e0⟩ : ∃ x, x = get16 (L s) 0 := ⟨_, rfl⟩
  obtain ⟨v2, e2⟩ : ∃ x, x = get16 (L s) 2 := ⟨_, rfl⟩
  obtain ⟨x, hx⟩ : ∃ x, x = get16 (L s) 4 := ⟨_, rfl⟩
  obtain ⟨v6, e6⟩ : ∃ x, x = get16 (L s) 6 := ⟨_, rfl⟩
  rw [← e0, ← e2, ← hx, ← e6] at c ⊢
  rw [← hx] at hl hb
  subst hl
  have q2 : ¬ (s.size : Int) < 8 := by omega
  have C := hide c; have HE := hide he
  clear c hx h e0 e2 e6 he
  go_enter Tryz.func181, Tryz.ntmps181
  go_wp2_with fail
  refine (C.out _).mono ?_
  rintro e w1 ⟨rfl, b1⟩
  have d1 := Cells.below b1 (Cells.new w _ _)
  have z1 : w.heap.size < w1.heap.size := by have := b1.size; rw [World.size_alloc] at this; omega
  have d2 := Cells.below (fresh_below w1 (.cells #[.int .u16 v0, .int .u16 v2, .int .u16 s.size, .int .u16 v6] 96)) d1
  have a2 := Cells.new w1 #[.int .u16 v0, .int .u16 v2, .int .u16 s.size, .int .u16 v6] 96
  obtain ⟨⟨x0, x1, x2, x3⟩, f0, f1, f2, f3⟩ := d2.four
  obtain ⟨⟨u0, u1, u2, u3⟩, o0, o1, o2, o3⟩ := d1.four
  have n1 : w1.heap.size ≠ w.heap.size := by omega
  have n2 : w.heap.size ≠ w1.heap.size := by omega
  obtain ⟨⟨y0, y1, y2, y3⟩, g0, g1, g2, g3⟩ := a2.four
  replace b1 := bstep (bstep (fresh_below _ _) b1) (fresh_below w1 (.cells #[.int .u16 v0, .int .u16 v2, .int .u16 s.size, .int .u16 v6] 96))
  go_wp2_with fail
  generalize w1.alloc (.cells #[.int .u16 v0, .int .u16 v2, .int .u16 s.size, .int .u16 v6] 96) = W at *
  have cS : ∀ (X : World) (i j : Nat) (v u : Value), X.cell? ⟨w1.heap.size, i, none⟩ = some u → (X.setCell ⟨w.heap.size, j, none⟩ v).cell? ⟨w1.heap.size, i, none⟩ = some u := fun X i j v u h => by
    have := h
    simp only [World.cell?] at this ⊢
    rw [Below.heap_setCell X ⟨w.heap.size, j, none⟩ v w1.heap.size n1]
    exact this
  have i1 : (8 : Int) ≤ (s.size : Int) := by omega
  go_region_held3 (fun w' => w'.cell? ⟨w1.heap.size, 0, none⟩ = some (.int .u16 v0) ∧ w'.cell? ⟨w1.heap.size, 1, none⟩ = some (.int .u16 v2) ∧ w'.cell? ⟨w1.heap.size, 2, none⟩ = some (.int .u16 s.size) ∧ w'.cell? ⟨w1.heap.size, 3, none⟩ = some (.int .u16 v6)) (first | (simp [*]; done) | exact ⟨cS _ _ _ _ _ (cS _ _ _ _ _ (cS _ _ _ _ _ (cS _ _ _ _ _ y0))), cS _ _ _ _ _ (cS _ _ _ _ _ (cS _ _ _ _ _ (cS _ _ _ _ _ y1))), cS _ _ _ _ _ (cS _ _ _ _ _ (cS _ _ _ _ _ (cS _ _ _ _ _ y2))), cS _ _ _ _ _ (cS _ _ _ _ _ (cS _ _ _ _ _ (cS _ _ _ _ _ y3)))⟩) (first | fail)
  go_wp2
  (try simp only [Exit.inBlock, Exit.then]); refine bodyPost_ret (by simp [results, Tryz.results181, go_sem, *]; try rfl) rfl ?_
  exact ⟨by rw [HE.out], (((b1.drew.setCell (p := ⟨w.heap.size, 0, none⟩) (Nat.le_refl _) _).setCell (p := ⟨w.heap.size, 1, none⟩) (Nat.le_refl _) _).setCell (p := ⟨w.heap.size, 2, none⟩) (Nat.le_refl _) _).setCell (p := ⟨w.heap.size, 3, none⟩) (Nat.le_refl _) _⟩
end Go.Proofs.YtilfcikhipadpaaGreatDoor
end

section
/- udp's sums over this program: what is summed of a datagram of one part. -/
set_option linter.unusedVariables false
namespace Go.Proofs.YtilfcikhipadpaaGreatDoor
open Go.RowKit
attribute [local go_sem] Oper.semAt_some

/-- what is summed ahead of so many bytes -/
def pseudo (src dst proto : Int) (size : Nat) : List UInt8 := put32 src ++ put32 dst ++ putW [proto, (size : Int) % 65536]
set_option maxHeartbeats 1000000 in
theorem r5_Pseudo (a b p : Int) (n : Nat) (w : World) (ha : 0 ≤ a ∧ a ≤ 4294967295) (hb : 0 ≤ b ∧ b ≤ 4294967295) (hp : 0 ≤ p ∧ p ≤ 255) (hn : n ≤ 140737488351232) :
    Calls Tryz.prog 187 #[.int .u32 a, .int .u32 b, .int .u8 p, .int .i64 n] w (Ret (.string (S (pseudo a b p n))) w) := by
  have c1 := fun w => r_Put32 a w ha.1 ha.2
  have c2 := fun w => r_Put32 b w hb.1 hb.2
  have hl : ∀ x ∈ [p, (n : Int) % 65536], 0 ≤ x ∧ x ≤ 65535 := by
    intro x hx
    simp only [List.mem_cons, List.not_mem_nil, or_false] at hx
    rcases hx with rfl | rfl <;> omega
  have c3 := fun W => r_Word (some ⟨W.heap.size, 0, none⟩) 2 2 [p, (n : Int) % 65536] (W.alloc (.cells #[.int .u16 p, .int .u16 ((n : Int) % 65536)] 29)) (Row.freshAt W #[.int .u16 p, .int .u16 ((n : Int) % 65536)] 29 W.heap.size _ _ rfl rfl rfl) hl (by omega)
  obtain ⟨s1, e1⟩ : ∃ s, s = S (put32 a) := ⟨_, rfl⟩
  obtain ⟨s2, e2⟩ : ∃ s, s = S (put32 b) := ⟨_, rfl⟩
  obtain ⟨s3, e3⟩ : ∃ s, s = S (putW [p, (n : Int) % 65536]) := ⟨_, rfl⟩
  have z1 : s1.size = 4 := by rw [e1]; rfl
  have z2 : s2.size = 4 := by rw [e2]; rfl
  have z3 : s3.size = 4 := by rw [e3]; rfl
  have hend : s1 ++ s2 ++ s3 = S (pseudo a b p n) := by rw [e1, e2, e3, S_append, S_append]; rfl
  rw [← e1] at c1
  rw [← e2] at c2
  rw [← e3] at c3
  obtain ⟨p0, p1⟩ := hp
  have C1 := hide c1; have C2 := hide c2; have C3 := hide c3; have HE := hide hend
  clear c1 c2 c3 hend e1 e2 e3 hl
  go_enter Tryz.func187, Tryz.ntmps187
  go_wp2_with fail
  refine (C1.out _).mono ?_
  rintro e w1 ⟨rfl, b1⟩
  go_wp2_with fail
  refine (C2.out _).mono ?_
  rintro e w2 ⟨rfl, b2⟩
  replace b2 := bstep b1 b2
  go_wp2_with fail
  refine (C3.out _).mono ?_
  rintro e w3 ⟨rfl, b3⟩
  replace b3 := bstep (bstep b2 (fresh_below _ _)) b3
  go_wp2_with fail
  go_ret
  exact ⟨ret_str HE.out, b3⟩

/-- a datagram with its sum -/
def udpSum (a b : Int) (l : List UInt8) : Int := let n := sumL [pseudo a b 17 l.length, l.take 6 ++ [0, 0] ++ l.drop 8]; if n = 0 then 65535 else n
def udpSeal (a b : Int) (l : List UInt8) : List UInt8 := if l.length < 8 then l else l.take 6 ++ put16 (udpSum a b l) ++ l.drop 8
theorem udpSum_bd (a b : Int) (l : List UInt8) : 1 ≤ udpSum a b l ∧ udpSum a b l ≤ 65535 := by
  have := sumL_bd [pseudo a b 17 l.length, l.take 6 ++ [0, 0] ++ l.drop 8]
  unfold udpSum; dsimp only; split <;> omega
end Go.Proofs.YtilfcikhipadpaaGreatDoor
end

section
/- Plain facts on sums: what a fold of 'add, what runs over coming in again' comes to. No program. -/
set_option linter.unusedVariables false
namespace Go.Proofs.YtilfcikhipadpaaGreatDoor
open Go.RowKit

def tot (l : List Int) : Int := l.foldr (· + ·) 0
theorem tot_cons (x : Int) (l : List Int) : tot (x :: l) = x + tot l := rfl
theorem tot_append (a b : List Int) : tot (a ++ b) = tot a + tot b := by
  induction a with
  | nil => simp [tot]
  | cons x a ih => rw [List.cons_append, tot_cons, tot_cons, ih]; omega
theorem tot_nonneg {l : List Int} (h : ∀ x ∈ l, 0 ≤ x ∧ x ≤ 65535) : 0 ≤ tot l := by
  induction l with
  | nil => simp [tot]
  | cons x l ih => have := ih (fun y hy => h y (by simp [hy])); have := h x (by simp); rw [tot_cons]; omega
/-- the one number of 0 to 65535 that a sum comes to -/
def rep (t : Int) : Int := if t = 0 then 0 else (t - 1) % 65535 + 1
theorem add1_rep {t x : Int} (ht : 0 ≤ t) (hx : 0 ≤ x ∧ x ≤ 65535) : add1 (rep t) x = rep (t + x) := by
  unfold add1 rep
  split <;> split <;> split <;> omega
theorem fold1_rep : ∀ (l : List Int) (t : Int), 0 ≤ t → (∀ x ∈ l, 0 ≤ x ∧ x ≤ 65535) → fold1 (rep t) l = rep (t + tot l)
  | [], t, _, _ => by simp [fold1, tot]
  | x :: l, t, ht, hl => by
    have hx := hl x (by simp)
    show fold1 (add1 (rep t) x) l = _
    rw [add1_rep ht hx, fold1_rep l (t + x) (by omega) (fun y hy => hl y (by simp [hy])), tot_cons, Int.add_assoc]
theorem fold1_zero {l : List Int} (hl : ∀ x ∈ l, 0 ≤ x ∧ x ≤ 65535) : fold1 0 l = rep (tot l) := by
  have := fold1_rep l 0 (by omega) hl
  simpa [rep] using this
theorem sumL_rep (ls : List (List UInt8)) : sumL ls = 65535 - rep (tot (ls.flatMap words)) := by
  unfold sumL; rw [fold1_zero (flat_bd ls)]

theorem words_put (n : Int) (r : List UInt8) (h : 0 ≤ n ∧ n ≤ 65535) : words (put16 n ++ r) = n :: words r := by
  show (((byt (n / 256)).toNat : Int) * 256 + ((byt n).toNat : Int)) :: words r = _
  rw [byt_int _ (by omega), byt_int _ (by omega)]
  congr 1; omega
/-! ### both bytes of each word change places -/
/-! ### updates -/
theorem upd_mod {n a b : Int} (hn : 0 ≤ n ∧ n ≤ 65535) (ha : 0 ≤ a ∧ a ≤ 65535) (hb : 0 ≤ b ∧ b ≤ 65535) : (upd n a b - (n + a - b)) % 65535 = 0 := by
  unfold upd add1
  split <;> split <;> omega
theorem updF_mod : ∀ (l : List (Int × Int)) (n : Int), 0 ≤ n ∧ n ≤ 65535 → (∀ p ∈ l, (0 ≤ p.1 ∧ p.1 ≤ 65535) ∧ (0 ≤ p.2 ∧ p.2 ≤ 65535)) → (updF n l - (n + tot (l.map (·.1)) - tot (l.map (·.2)))) % 65535 = 0
  | [], n, _, _ => by simp [updF, tot]
  | p :: l, n, hn, hl => by
    have hp := hl p (by simp)
    have h1 := upd_mod hn hp.1 hp.2
    have h2 := updF_mod l (upd n p.1 p.2) (upd_bd hn hp.1 hp.2) (fun q hq => hl q (by simp [hq]))
    show (updF (upd n p.1 p.2) l - _) % 65535 = 0
    rw [List.map_cons, List.map_cons, tot_cons, tot_cons]
    omega
theorem rep_mod {t : Int} (h : 0 ≤ t) : (rep t - t) % 65535 = 0 := by unfold rep; split <;> omega
theorem zip_fst : ∀ {a b : List Int}, a.length = b.length → (a.zip b).map (·.1) = a
  | [], [], _ => rfl
  | x :: a, y :: b, h => by simp only [List.zip_cons_cons, List.map_cons, zip_fst (show a.length = b.length by simpa using h)]
theorem zip_snd : ∀ {a b : List Int}, a.length = b.length → (a.zip b).map (·.2) = b
  | [], [], _ => rfl
  | x :: a, y :: b, h => by simp only [List.zip_cons_cons, List.map_cons, zip_snd (show a.length = b.length by simpa using h)]
theorem updates_bd {n : Int} {a b : List UInt8} (hn : 0 ≤ n ∧ n ≤ 65535) : 0 ≤ updates n a b ∧ updates n a b ≤ 65535 := by
  unfold updates
  split
  · exact hn
  · exact updF_bd _ n hn zip_bd
end Go.Proofs.YtilfcikhipadpaaGreatDoor
end

section
/- Plain facts on sums: a text that is sealed holds; with one bit turned it does not. No program. -/
set_option linter.unusedVariables false
namespace Go.Proofs.YtilfcikhipadpaaGreatDoor
open Go.RowKit

theorem holds_iff (ls : List (List UInt8)) : holds ls = true ↔ tot (ls.flatMap words) % 65535 = 0 ∧ tot (ls.flatMap words) ≠ 0 := by
  have h := tot_nonneg (flat_bd ls)
  unfold holds
  rw [sumL_rep, beq_iff_eq]
  unfold rep
  split <;> omega
theorem words_even : ∀ (a b : List UInt8), a.length % 2 = 0 → words (a ++ b) = words a ++ words b
  | [], b, _ => rfl
  | [x], b, h => by simp at h
  | x :: y :: t, b, h => by
    show _ :: words (t ++ b) = _ :: (words t ++ words b)
    rw [words_even t b (by simp at h; omega)]
/-- a number with one bit turned -/
def fl (a : Int) (j : Nat) : Int := if a / 2 ^ j % 2 = 0 then a + 2 ^ j else a - 2 ^ j
/-! ### a sum in its place -/
def lay (l : List UInt8) (k : Nat) (n : Int) : List UInt8 := l.take k ++ put16 n ++ l.drop (k + 2)
theorem lay_length {l : List UInt8} {k : Nat} {n : Int} (h : k + 2 ≤ l.length) : (lay l k n).length = l.length := by
  unfold lay; simp [put16]; omega
theorem lay_take {l : List UInt8} {k : Nat} {n : Int} (h : k + 2 ≤ l.length) : (lay l k n).take k = l.take k := by
  unfold lay
  rw [List.append_assoc, List.take_append_of_le_length (by simp; omega), List.take_take, Nat.min_self]
theorem lay_rest {l : List UInt8} {k : Nat} {n : Int} (h : k + 2 ≤ l.length) : (lay l k n).drop k = put16 n ++ l.drop (k + 2) := by
  unfold lay
  rw [List.append_assoc, List.drop_append_of_le_length (by simp; omega), List.drop_eq_nil_of_le (by simp; omega), List.nil_append]
theorem lay_drop {l : List UInt8} {k : Nat} {n : Int} (h : k + 2 ≤ l.length) : (lay l k n).drop (k + 2) = l.drop (k + 2) := by
  rw [← List.drop_drop, lay_rest h]; rfl
theorem lay_lay {l : List UInt8} {k : Nat} {n m : Int} (h : k + 2 ≤ l.length) : lay (lay l k n) k m = lay l k m := by
  show (lay l k n).take k ++ put16 m ++ (lay l k n).drop (k + 2) = _
  rw [lay_take h, lay_drop h]; rfl
theorem lay_at {l : List UInt8} {k : Nat} {n : Int} (h : k + 2 ≤ l.length) (hn : 0 ≤ n ∧ n ≤ 65535) : be16 (lay l k n) k = n := by
  have e : be16 ((lay l k n).drop k) 0 = n := by rw [lay_rest h]; exact be16_put n _ hn.1 hn.2
  rwa [be16_drop] at e
theorem lay_other {l : List UInt8} {k i : Nat} {n : Int} (h : k + 2 ≤ l.length) (hi : i + 1 < k ∨ k + 2 ≤ i) : be16 (lay l k n) i = be16 l i := by
  rcases hi with hi | hi
  · rw [← be16_take (n := k) hi, lay_take h, be16_take hi]
  · have e1 : be16 ((lay l k n).drop (k + 2)) (i - (k + 2)) = be16 (l.drop (k + 2)) (i - (k + 2)) := by rw [lay_drop h]
    rw [be16_drop, be16_drop] at e1
    rwa [show k + 2 + (i - (k + 2)) = i from by omega] at e1
theorem lay_tot {l : List UInt8} {k : Nat} {n : Int} (h : k + 2 ≤ l.length) (h2 : k % 2 = 0) (hn : 0 ≤ n ∧ n ≤ 65535) : tot (words (lay l k n)) = tot (words (lay l k 0)) + n := by
  have hz : (l.take k).length % 2 = 0 := by simp; omega
  unfold lay
  rw [List.append_assoc, List.append_assoc, words_even _ _ hz, words_even _ _ hz, words_put n _ hn, words_put 0 _ (by omega), tot_append, tot_append, tot_cons, tot_cons]; omega
/-- what is sealed holds -/
theorem lay_holds (ps : List (List UInt8)) {l : List UInt8} {k : Nat} {n : Int} (h : k + 2 ≤ l.length) (h2 : k % 2 = 0) (hn : n = sumL (ps ++ [lay l k 0]) ∨ n = 65535 ∧ sumL (ps ++ [lay l k 0]) = 0)
    : holds (ps ++ [lay l k n]) = true := by
  have hb := sumL_bd (ps ++ [lay l k 0])
  have hnb : 0 ≤ n ∧ n ≤ 65535 := by omega
  rw [holds_iff]
  have hr := sumL_rep (ps ++ [lay l k 0])
  have hp := tot_nonneg (flat_bd (ps ++ [lay l k 0]))
  have hm := rep_mod hp
  have hz : rep 0 = 0 := rfl
  simp only [List.flatMap_append, List.flatMap_cons, List.flatMap_nil, List.append_nil, tot_append] at hr hm hp ⊢
  rw [lay_tot h h2 hnb, ← Int.add_assoc]
  generalize tot (ps.flatMap words) + tot (words (lay l k 0)) = T at *
  have hT : T = 0 → rep T = 0 := fun e => by rw [e]; rfl
  omega
end Go.Proofs.YtilfcikhipadpaaGreatDoor
end
