/- strings.Trim at the byte 0: when nothing is left of a text. -/
import Derived.Test.YtcghhnehmddoeaaDoorShelf
import Derived.Test.YtcghhnehmddoeaaDoorBit
set_option linter.unusedVariables false
namespace Go.Proofs.YtcghhnehmddoeaaDoor
open Go.RowKit

/-- what is left of a text without the bytes 0 at its ends -/
def trim0 (s : ByteArray) : ByteArray := ⟨(Lib.trimB s.data.toList 0).toArray⟩
theorem dropZ {l : List UInt8} : l.dropWhile (· == (0 : UInt8)) = [] ↔ ∀ x ∈ l, x = 0 := by
  induction l with
  | nil => simp
  | cons a t ih =>
    by_cases h : a = 0
    · simp [List.dropWhile, h, ih]
    · have h' : (a == (0 : UInt8)) = false := by simpa using h
      simp [List.dropWhile, h', h]
theorem trimB_zero {l : List UInt8} : Lib.trimB l 0 = [] ↔ ∀ x ∈ l, x = 0 := by
  unfold Lib.trimB Lib.trimLeftB Lib.trimRightB
  rw [dropZ]
  constructor
  · intro h
    have h2 : (l.reverse.dropWhile (· == (0 : UInt8))) = [] := by
      cases hd : l.reverse.dropWhile (· == (0 : UInt8)) with
      | nil => rfl
      | cons a t =>
        have ha : a = 0 := h a (by rw [hd]; simp)
        have hh := List.head_dropWhile_not (fun x : UInt8 => x == 0) (show (l.reverse).dropWhile (fun x : UInt8 => x == 0) ≠ [] by rw [hd]; simp)
        simp only [hd, List.head_cons, ha] at hh
        simp at hh
    have h3 := dropZ.1 h2
    exact fun x hx => h3 x (by simpa using hx)
  · intro h
    have h2 : (l.reverse.dropWhile (· == (0 : UInt8))) = [] := dropZ.2 (fun x hx => h x (by simpa using hx))
    rw [h2]
    simp
theorem words_zero : ∀ (l : List UInt8), (∀ x ∈ l, x = 0) ↔ tot (words l) = 0
  | [] => by simp [words, tot]
  | [a] => by
    have ha := a.toNat_lt
    constructor
    · intro h
      have := h a (by simp)
      subst this; rfl
    · intro h x hx
      simp only [List.mem_singleton] at hx
      subst hx
      have h2 : (x.toNat : Int) * 256 + 0 = 0 := by simpa [words, tot] using h
      exact UInt8.toNat_inj.1 (by show x.toNat = 0; omega)
  | a :: b :: t => by
    have ha := a.toNat_lt; have hb := b.toNat_lt
    have ih := words_zero t
    have hn := tot_nonneg (words_bd t)
    have e : tot (words (a :: b :: t)) = ((a.toNat : Int) * 256 + (b.toNat : Int)) + tot (words t) := rfl
    rw [e]
    constructor
    · intro h
      have h0 := h a (by simp); have h1 := h b (by simp)
      have h2 := ih.1 (fun x hx => h x (by simp [hx]))
      subst h0; subst h1
      rw [h2]; rfl
    · intro h x hx
      have h2 := ih.2 (by omega)
      simp only [List.mem_cons] at hx
      rcases hx with rfl | rfl | hx
      · exact UInt8.toNat_inj.1 (by show x.toNat = 0; omega)
      · exact UInt8.toNat_inj.1 (by show x.toNat = 0; omega)
      · exact h2 x hx
theorem trim0_void (s : ByteArray) : trim0 s = { data := #[] } ↔ tot (words (L s)) = 0 := by
  rw [← words_zero, show (∀ x ∈ L s, x = 0) ↔ Lib.trimB s.data.toList 0 = [] from trimB_zero.symm]
  unfold trim0
  constructor
  · intro h
    have := congrArg (fun b : ByteArray => b.data.toList) h
    simpa using this
  · intro h
    rw [h]
theorem Trim0 (s : ByteArray) (w : World) (hs : s.size ≤ 140737488351232) :
    Calls Tryd.prog 13 #[.string s, .string { data := #[0] }] w (fun e w' => e = .returned (.string (trim0 s)) ∧ (w' = w ∨ w' = w.drew)) :=
  Tryd.strings_Trim_one s 0 (by decide) w (by omega)
end Go.Proofs.YtcghhnehmddoeaaDoor
