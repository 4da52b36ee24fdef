/- Several texts of this claim, one behind the other. -/
import Derived.Test.YtpidgmamollmgaaGreatDoorM33
import Derived.Test.YtpidgmamollmgaaGreatDoorM4
import Derived.Test.YtpidgmamollmgaaGreatDoorM6
import Derived.Test.YtpidgmamollmgaaGreatDoorM26

section
/- udp.Check and udp.Seal over this program. -/
set_option linter.unusedVariables false
namespace Go.Proofs.YtpidgmamollmgaaGreatDoor
open Go.RowKit
attribute [local go_sem] Oper.semAt_some

theorem udp_summed1 (a b : Int) (p : ByteArray) (ha : 0 ≤ a ∧ a ≤ 4294967295) (hb : 0 ≤ b ∧ b ≤ 4294967295) (hp : p.size ≤ 140737488351232) (W : World) :
    Calls Tryz.prog 70 #[.int .u32 a, .int .u32 b, .slice (some ⟨W.heap.size, 0, none⟩) 1 1] (W.alloc (.cells #[.string p] 9)) (Two (S (pseudo a b 17 p.size)) p (W.alloc (.cells #[.string p] 9))) :=
  udp_summed a b p _ 1 _ (Row.freshN W #[.string p] 9 _ _ rfl rfl) ha hb hp

set_option maxHeartbeats 1000000 in
theorem udp_Check (a b : Int) (s : ByteArray) (w : World) (ha : 0 ≤ a ∧ a ≤ 4294967295) (hb : 0 ≤ b ∧ b ≤ 4294967295) (hs : s.size ≤ 140737488351232) :
    Calls Tryz.prog 25 #[.int .u32 a, .int .u32 b, .string s] w (Ret (.bool (udpOk a b s)) w) := by
  by_cases h8 : s.size < 8
  · have hv : udpOk a b s = false := by unfold udpOk; simp; omega
    rw [hv]
    have q2 : (s.size : Int) < 8 := by omega
    clear hv
    go_enter Tryz.func25, Tryz.ntmps25
    go_wp2_with fail
    go_ret
    exact ⟨rfl, Below.refl _ _⟩
  · have c1 := fun w => udp_take s w (reach_max hs)
    have q2 : ¬ (s.size : Int) < 8 := by omega
    unfold udpHead at c1
    obtain ⟨x0, e0⟩ : ∃ x, x = get16 (L s) 0 := ⟨_, rfl⟩
    obtain ⟨x2, e2⟩ : ∃ x, x = get16 (L s) 2 := ⟨_, rfl⟩
    obtain ⟨x4, e4⟩ : ∃ x, x = get16 (L s) 4 := ⟨_, rfl⟩
    rw [← e0, ← e2, ← e4] at c1
    by_cases h6 : get16 (L s) 6 = 0
    · have hv : udpOk a b s = true := by unfold udpOk; simp [h6]; omega
      rw [hv]
      rw [h6] at c1
      have C1 := hide c1
      clear c1 hv h6 e0 e2 e4
      have i3 : ∀ w, (Instr.index 124 (.agg #[.int .u16 x0, .int .u16 x2, .int .u16 x4, .int .u16 0]) (.int .i64 3)).run Tryz.prog w = .ok (.int .u16 0) w := fun _ => by kernel_rfl
      go_enter Tryz.func25, Tryz.ntmps25
      go_wp2_with fail
      refine (C1.out _).mono ?_
      rintro e w1 ⟨rfl, b1⟩
      go_wp2_with fail
      go_ret
      exact ⟨rfl, b1⟩
    · have hv : udpOk a b s = holds [pseudo a b 17 s.size, L s] := by unfold udpOk; simp [h6]; omega
      rw [hv]
      have c2 := fun W => udp_summed1 a b s ha hb hs W
      obtain ⟨p, hp⟩ : ∃ p, p = S (pseudo a b 17 s.size) := ⟨_, rfl⟩
      have zp : p.size = 12 := by rw [hp]; rfl
      rw [← hp] at c2
      have c3 := fun A c W hr => Holds A 2 c [p, s] W hr (by
        intro x hx
        simp only [List.mem_cons, List.not_mem_nil, or_false] at hx
        rcases hx with rfl | rfl <;> omega) (by omega)
      have hm : [p, s].map L = [pseudo a b 17 s.size, L s] := by rw [hp]; rfl
      rw [hm] at c3
      obtain ⟨v, hv2⟩ : ∃ v, v = holds [pseudo a b 17 s.size, L s] := ⟨_, rfl⟩
      rw [← hv2] at c3 ⊢
      obtain ⟨x, hx⟩ : ∃ x, x = get16 (L s) 6 := ⟨_, rfl⟩
      rw [← hx] at c1 h6
      have q3 : (x == 0) = false := by simp [h6]
      have q4 : decide (x = 0) = false := by simp [h6]
      have C1 := hide c1; have C2 := hide c2; have C3 := hide c3
      clear c1 c2 c3 hv hv2 hx hp hm e0 e2 e4
      have i3 : ∀ w, (Instr.index 124 (.agg #[.int .u16 x0, .int .u16 x2, .int .u16 x4, .int .u16 x]) (.int .i64 3)).run Tryz.prog w = .ok (.int .u16 x) w := fun _ => by kernel_rfl
      go_enter Tryz.func25, Tryz.ntmps25
      go_wp2_with fail
      refine (C1.out _).mono ?_
      rintro e w1 ⟨rfl, b1⟩
      go_wp2_with fail
      refine (C2.out _).mono ?_
      rintro e w2 ⟨A', c', rfl, hr, b2⟩
      replace b2 := bstep (bstep b1 (fresh_below _ _)) b2
      go_wp2_with fail
      refine (C3.out _ _ _ hr).mono ?_
      rintro e w3 ⟨rfl, b3⟩
      replace b3 := bstep b2 b3
      go_wp2_with fail
      go_ret
      exact ⟨rfl, b3⟩

theorem udpSeal_lay (a b : Int) {l : List UInt8} (h : 8 ≤ l.length) : udpSeal a b l = lay l 6 (udpSum a b l) := by
  unfold udpSeal; rw [if_neg (by omega)]; rfl

end Go.Proofs.YtpidgmamollmgaaGreatDoor
end

section
/- strings.Trim at the byte 0: when nothing is left of a text. -/
set_option linter.unusedVariables false
namespace Go.Proofs.YtpidgmamollmgaaGreatDoor
open Go.RowKit

/-- what is left of a text without the bytes 0 at its ends -/
def trim0 (s : ByteArray) : ByteArray := ⟨(Lib.trimB s.data.toList 0).toArray⟩
theorem dropZ {l : List UInt8} : l.dropWhile (· == (0 : UInt8)) = [] ↔ ∀ x ∈ l, x = 0 := by
  induction l with
  | nil => simp
  | cons a t ih =>
    by_cases h : a = 0
    · simp [List.dropWhile, h, ih]
    · have h' : (a == (0 : UInt8)) = false := by simpa using h
      simp [List.dropWhile, h', h]
theorem trimB_zero {l : List UInt8} : Lib.trimB l 0 = [] ↔ ∀ x ∈ l, x = 0 := by
  unfold Lib.trimB Lib.trimLeftB Lib.trimRightB
  rw [dropZ]
  constructor
  · intro h
    have h2 : (l.reverse.dropWhile (· == (0 : UInt8))) = [] := by
      cases hd : l.reverse.dropWhile (· == (0 : UInt8)) with
      | nil => rfl
      | cons a t =>
        have ha : a = 0 := h a (by rw [hd]; simp)
        have hh := List.head_dropWhile_not (fun x : UInt8 => x == 0) (show (l.reverse).dropWhile (fun x : UInt8 => x == 0) ≠ [] by rw [hd]; simp)
        simp only [hd, List.head_cons, ha] at hh
        simp at hh
    have h3 := dropZ.1 h2
    exact fun x hx => h3 x (by simpa using hx)
  · intro h
    have h2 : (l.reverse.dropWhile (· == (0 : UInt8))) = [] := dropZ.2 (fun x hx => h x (by simpa using hx))
    rw [h2]
    simp
theorem words_zero : ∀ (l : List UInt8), (∀ x ∈ l, x = 0) ↔ tot (words l) = 0
  | [] => by simp [words, tot]
  | [a] => by
    have ha := a.toNat_lt
    constructor
    · intro h
      have := h a (by simp)
      subst this; rfl
    · intro h x hx
      simp only [List.mem_singleton] at hx
      subst hx
      have h2 : (x.toNat : Int) * 256 + 0 = 0 := by simpa [words, tot] using h
      exact UInt8.toNat_inj.1 (by show x.toNat = 0; omega)
  | a :: b :: t => by
    have ha := a.toNat_lt; have hb := b.toNat_lt
    have ih := words_zero t
    have hn := tot_nonneg (words_bd t)
    have e : tot (words (a :: b :: t)) = ((a.toNat : Int) * 256 + (b.toNat : Int)) + tot (words t) := rfl
    rw [e]
    constructor
    · intro h
      have h0 := h a (by simp); have h1 := h b (by simp)
      have h2 := ih.1 (fun x hx => h x (by simp [hx]))
      subst h0; subst h1
      rw [h2]; rfl
    · intro h x hx
      have h2 := ih.2 (by omega)
      simp only [List.mem_cons] at hx
      rcases hx with rfl | rfl | hx
      · exact UInt8.toNat_inj.1 (by show x.toNat = 0; omega)
      · exact UInt8.toNat_inj.1 (by show x.toNat = 0; omega)
      · exact h2 x hx
theorem trim0_void (s : ByteArray) : trim0 s = { data := #[] } ↔ tot (words (L s)) = 0 := by
  rw [← words_zero, show (∀ x ∈ L s, x = 0) ↔ Lib.trimB s.data.toList 0 = [] from trimB_zero.symm]
  unfold trim0
  constructor
  · intro h
    have := congrArg (fun b : ByteArray => b.data.toList) h
    simpa using this
  · intro h
    rw [h]
theorem Trim0 (s : ByteArray) (w : World) (hs : s.size ≤ 140737488351232) :
    Calls Tryz.prog 23 #[.string s, .string { data := #[0] }] w (fun e w' => e = .returned (.string (trim0 s)) ∧ (w' = w ∨ w' = w.drew)) :=
  Tryz.strings_Trim_one s 0 (by decide) w (by omega)
end Go.Proofs.YtpidgmamollmgaaGreatDoor
end
