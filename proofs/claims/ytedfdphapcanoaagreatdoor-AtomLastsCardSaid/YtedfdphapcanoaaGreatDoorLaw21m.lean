/- AtomLasts: its walk. -/
import Derived.Test.YtedfdphapcanoaaGreatDoorLaw21l
set_option linter.unusedVariables false
set_option linter.unusedSimpArgs false
namespace Go.Proofs.YtedfdphapcanoaaGreatDoor
open Go.RowKit Go.Lib Rx

theorem first_of (p : Nat → Prop) : ∀ n, p n → ∃ k, k ≤ n ∧ p k ∧ ∀ j, j < k → ¬ p j := by
  intro n
  induction n using Nat.strongRecOn with
  | _ n ih =>
    intro h
    by_cases hx : ∃ m, m < n ∧ p m
    · obtain ⟨m, hm, hp⟩ := hx
      obtain ⟨k, h1, h2, h3⟩ := ih m hm hp
      exact ⟨k, by omega, h2, h3⟩
    · exact ⟨n, Nat.le_refl _, h, fun j hj hp => hx ⟨j, hj, hp⟩⟩
def bothS (s : Nat → Bool) : Nat → Bool
  | 0 => false
  | i + 1 => bothS s i || s i
def nowS (z : Nat → Int) : Nat → Int
  | 0 => 0
  | i + 1 => nowS z i + z i % 400
theorem nowS_bd (z : Nat → Int) : ∀ i, 0 ≤ nowS z i ∧ nowS z i ≤ 399 * (i : Int)
  | 0 => by simp [nowS]
  | i + 1 => by
    have := nowS_bd z i
    simp only [nowS]
    omega
theorem RealA.real {X : Option Addr} (h : RealA X) (n c : Nat) : real (.slice X n c) = true := by
  rcases h with rfl | ⟨b, o, rfl⟩ <;> rfl
theorem Row.cellAt {w W : World} {X : Option Addr} {n : Nat} {vs : List Value} (h : Row w w.heap.size X n vs) {i : Nat} (hi : i < n) {v : Value} (hv : vs[i]? = some v) : ∃ b o, X = some ⟨b, o, none⟩ ∧ ∀ W, (Amb.of w).S W → W.cell? ⟨b, o + i * 1, none⟩ = some v := by
  obtain ⟨b, o, h1, h2, h3⟩ := h.at_ (by omega)
  refine ⟨b, o, h1, fun W hW => ?_⟩
  rw [Nat.mul_one, Below.cell (p := ⟨b, o + i, none⟩) hW h2]
  exact h3 i v hv
/-- the rounds -/
theorem lasts_loop {w : World} (hM : TabOK (Amb.of w)) {X Y : Option Addr} {n c n2 c2 : Nat} {zs : List Int} {bs : List Bool} (hr : Row w w.heap.size X n (zs.map (Value.int .u16))) (hz : ∀ x ∈ zs, 0 ≤ x ∧ x ≤ 65535) (hX : RealA X) (hr2 : Row w w.heap.size Y n2 (bs.map Value.bool)) (hY : RealA Y) :
    CodeJ Tryz.prog (Amb.of w) (.loop (loopOf Tryz.prog 3)) 113 (laV X n c Y n2 c2 false 0) (laM 8 false 0) 10 .ret [(4, .bool true)] [] (10 + 0) ∨
    CodeJ Tryz.prog (Amb.of w) (.loop (loopOf Tryz.prog 3)) 113 (laV X n c Y n2 c2 false 0) (laM 8 false 0) 10 (.ex 0) [(10, .int .i64 0)] [] (10 + 0) := by
  have hl1 : zs.length = n := by simpa using hr.1
  have hl2 : bs.length = n2 := by simpa using hr2.1
  obtain ⟨z, hzd⟩ : ∃ z : Nat → Int, z = fun i => zs.getD i 0 := ⟨_, rfl⟩
  obtain ⟨s, hsd⟩ : ∃ s : Nat → Bool, s = fun i => decide (i < n2) && bs.getD i false := ⟨_, rfl⟩
  have hzc : ∀ i, i < n → ∃ b o, X = some ⟨b, o, none⟩ ∧ (∀ W, (Amb.of w).S W → W.cell? ⟨b, o + i * 1, none⟩ = some (.int .u16 (z i))) ∧ 0 ≤ z i ∧ z i ≤ 65535 := fun i hi => by
    have he : zs[i]? = some (z i) := by rw [hzd]; show zs[i]? = some (zs.getD i 0); rw [List.getD_eq_getElem?_getD, List.getElem?_eq_getElem (by omega)]; rfl
    obtain ⟨b, o, h1, h2⟩ := Row.cellAt (W := w) hr hi (v := .int .u16 (z i)) (by rw [List.getElem?_map, he]; rfl)
    exact ⟨b, o, h1, h2, hz _ (List.mem_of_getElem? he)⟩
  have hsc : ∀ i, i < n2 → ∃ b o, Y = some ⟨b, o, none⟩ ∧ (∀ W, (Amb.of w).S W → W.cell? ⟨b, o + i * 1, none⟩ = some (.bool (s i))) := fun i hi => by
    have he : bs[i]? = some (s i) := by rw [hsd]; simp only [hi, decide_true, Bool.true_and]; rw [List.getD_eq_getElem?_getD, List.getElem?_eq_getElem (by omega)]; rfl
    exact Row.cellAt (W := w) hr2 hi (by rw [List.getElem?_map, he]; rfl)
  have hs0 : ∀ i, ¬ i < n2 → s i = false := fun i hi => by rw [hsd]; simp [hi]
  clear hzd hsd
  obtain ⟨k, k1, k2, k3⟩ := first_of (fun j => ¬ (j < n ∧ j < 20 ∧ z j % 400 < lastV (bothS s j))) 20 (fun h => absurd h.2.1 (by omega))
  have hon : ∀ i, i < k → CodeR Tryz.prog (Amb.of w) (loopOf Tryz.prog 3) 113 (laV X n c Y n2 c2 (bothS s i) i) (laM 10 (bothS s i) (nowS z i)) [0, 1, 2, 3, 4, 5, 7, 8] 10 1 .nrm (laV X n c Y n2 c2 (bothS s (i + 1)) (i + 1)) (laM 10 (bothS s (i + 1)) (nowS z (i + 1))) 1 := fun i hi => by
    obtain ⟨h1, h2, h3⟩ := Decidable.not_not.1 (k3 i hi)
    obtain ⟨b, o, rfl, hc, hx⟩ := hzc i h1
    have hb := nowS_bd z i
    have hn : 0 ≤ nowS z i ∧ nowS z i ≤ 90000 := by omega
    by_cases h4 : i < n2
    · obtain ⟨b2, o2, rfl, hc2⟩ := hsc i h4
      cases hs : s i
      · rw [hs] at hc2
        have e : bothS s (i + 1) = bothS s i := by simp [bothS, hs]
        rw [e]
        exact round_F2 hM _ h1 h2 hc hx hn h3 h4 hc2
      · rw [hs] at hc2
        have e : bothS s (i + 1) = true := by simp [bothS, hs]
        rw [e]
        exact round_B hM _ h1 h2 hc hx hn h3 h4 hc2
    · have e : bothS s (i + 1) = bothS s i := by simp [bothS, hs0 i h4]
      rw [e]
      exact round_F hM hY _ h1 h2 hc hx hn h3 h4
  have hb := nowS_bd z k
  have hn : 0 ≤ nowS z k ∧ nowS z k ≤ 90000 := by omega
  by_cases hE : k < n ∧ k < 20
  · left
    obtain ⟨b, o, rfl, hc, hx⟩ := hzc k hE.1
    have hl : ¬ z k % 400 < lastV (bothS s k) := fun h => k2 ⟨hE.1, hE.2, h⟩
    have he := round_E (b := b) (o := o) (n := n) (c := c) (n2 := n2) (c2 := c2) hM hY (bothS s k) hE.1 hE.2 hc hx hn hl
    rcases hY with rfl | ⟨b2, o2, rfl⟩
    · exact loopR (fun i => laV (some ⟨b, o, none⟩) n c none n2 c2 (bothS s i) i) (fun i => laM 10 (bothS s i) (nowS z i)) [8] k hon he
    · exact loopR (fun i => laV (some ⟨b, o, none⟩) n c (some ⟨b2, o2, none⟩) n2 c2 (bothS s i) i) (fun i => laM 10 (bothS s i) (nowS z i)) [8] k hon he
  · right
    have he := round_X (A := Amb.of w) (now := nowS z k) hX hY (n := n) (c := c) (n2 := n2) (c2 := c2) (i := k) (bothS s k) (by omega)
    rcases hX with rfl | ⟨b, o, rfl⟩ <;> rcases hY with rfl | ⟨b2, o2, rfl⟩
    · exact loopR (fun i => laV none n c none n2 c2 (bothS s i) i) (fun i => laM 10 (bothS s i) (nowS z i)) [8] k hon he
    · exact loopR (fun i => laV none n c (some ⟨b2, o2, none⟩) n2 c2 (bothS s i) i) (fun i => laM 10 (bothS s i) (nowS z i)) [8] k hon he
    · exact loopR (fun i => laV (some ⟨b, o, none⟩) n c none n2 c2 (bothS s i) i) (fun i => laM 10 (bothS s i) (nowS z i)) [8] k hon he
    · exact loopR (fun i => laV (some ⟨b, o, none⟩) n c (some ⟨b2, o2, none⟩) n2 c2 (bothS s i) i) (fun i => laM 10 (bothS s i) (nowS z i)) [8] k hon he
theorem AtomLasts_walk (X : Option Addr) (n c : Nat) (zs : List Int) (Y : Option Addr) (n2 c2 : Nat) (bs : List Bool) (w : World) (hT : Lasts w ∧ Wds w) (hr : Row w w.heap.size X n (zs.map (Value.int .u16))) (hz : ∀ x ∈ zs, 0 ≤ x ∧ x ≤ 65535) (hn : n ≤ 9223372036854775807) (hX : RealA X)
    (hr2 : Row w w.heap.size Y n2 (bs.map Value.bool)) (hn2 : n2 ≤ 9223372036854775807) (hY : RealA Y) : Calls Tryz.prog 3 #[.slice X n c, .slice Y n2 c2] w (Ret (.bool true) w) := by
  have hM := tabOK_of hT.1 hT.2
  have ha : [Value.slice X n c, .slice Y n2 c2].all real = true := by simp only [List.all_cons, List.all_nil, hX.real, hY.real, Bool.and_true]
  rcases lasts_loop (c := c) (c2 := c2) hM hr hz hX hr2 hY with h | h
  · exact run (args := [.slice X n c, .slice Y n2 c2]) [calls 1 0 3 made_J, does 18 (args := [oneV, farV]) fun W _ => dg_A W, calls 22 7 2 ((pk_1 hM).at (d := 2) [0, 1, 2, 6] 7), loops 32 10 0 h] (ha := ha)
  · exact run (args := [.slice X n c, .slice Y n2 c2]) [calls 1 0 3 made_J, does 18 (args := [oneV, farV]) fun W _ => dg_A W, calls 22 7 2 ((pk_1 hM).at (d := 2) [0, 1, 2, 6] 7), loops 32 10 0 h, does 35 (args := []) fun W k => boxed_w W (hM W k).1 (hM W k).2] (ha := ha)
end Go.Proofs.YtedfdphapcanoaaGreatDoor
