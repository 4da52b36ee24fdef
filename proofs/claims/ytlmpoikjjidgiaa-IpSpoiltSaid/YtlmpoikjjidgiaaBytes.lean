/- Bytes of a text in a row of the call's own: what a store does, how the row is turned into a text again. -/
import Derived.Test.YtlmpoikjjidgiaaRef01
import Derived.Laws.IdiomStrings
import Derived.BigRegion
set_option linter.unusedVariables false
namespace Go.Proofs.Ytlmpoikjjidgiaa
open Go.RowKit

/-- block b is a row of bytes, the first of them those of l, none of these frozen -/
def Bytes (w : World) (b : Nat) (l : List UInt8) : Prop :=
  ∃ cs : Array Value, ∃ lo hi : Nat, w.heap[b]? = some (.cells cs 5 (lo, hi)) ∧ l.length ≤ lo ∧ ∀ j, j < l.length → cs[j]? = some (.int .u8 (at_ l j))

theorem Bytes.cell {w : World} {b : Nat} {l : List UInt8} (h : Bytes w b l) {j : Nat} (hj : j < l.length) : w.cell? ⟨b, j, none⟩ = some (.int .u8 (at_ l j)) := by
  obtain ⟨cs, lo, hi, hb, hl, hc⟩ := h
  rw [Lib.cell_of_heap hb]; exact hc j hj
theorem Bytes.frozen {w : World} {b : Nat} {l : List UInt8} (h : Bytes w b l) {j : Nat} (hj : j < l.length) : w.frozen? ⟨b, j, none⟩ = false := by
  obtain ⟨cs, lo, hi, hb, hl, hc⟩ := h
  simp [World.frozen?, hb]; omega
theorem Bytes.lt {w : World} {b : Nat} {l : List UInt8} (h : Bytes w b l) : b < w.heap.size := by
  obtain ⟨cs, lo, hi, hb, _⟩ := h
  exact (Array.getElem?_eq_some_iff.1 hb).1
theorem Bytes.set_ {w : World} {b : Nat} {l : List UInt8} (h : Bytes w b l) {k : Nat} {x : UInt8} (hk : k < l.length) : Bytes (w.setCell ⟨b, k, none⟩ (.int .u8 (x.toNat : Int))) b (l.set k x) := by
  obtain ⟨cs, lo, hi, hb, hl, hc⟩ := h
  refine ⟨cs.setIfInBounds k (.int .u8 (x.toNat : Int)), lo, hi, ?_, by simpa using hl, fun j hj => ?_⟩
  · simp [World.setCell, Array.getElem?_modify, hb]
  · have hj' : j < l.length := by simpa using hj
    have hcj := hc j hj'
    have hkz : k < cs.size := by have := hc k hk; exact (Array.getElem?_eq_some_iff.1 this).1
    by_cases e : k = j
    · subst e
      rw [Array.getElem?_setIfInBounds_self_of_lt hkz]
      simp [at_, List.getD_eq_getElem?_getD, hk]
    · rw [Array.getElem?_setIfInBounds_ne e, hcj]
      simp [at_, List.getD_eq_getElem?_getD, e]
theorem Bytes.drewN {w : World} {b : Nat} {l : List UInt8} (h : Bytes w b l) (n : Nat) : Bytes (w.drewN n) b l := h
theorem Bytes.below {w w' : World} {b : Nat} {l : List UInt8} (h : Bytes w b l) (hb : Below w.heap.size w w') : Bytes w' b l := by
  obtain ⟨cs, lo, hi, h1, hl, hc⟩ := h
  exact ⟨cs, lo, hi, (hb.block b (Array.getElem?_eq_some_iff.1 h1).1).trans h1, hl, hc⟩

/-- string(b) -/
theorem conv_bytes (w : World) (b cap : Nat) (l : List UInt8) (h : Bytes w b l) :
    (convert 45 9 (.slice (some ⟨b, 0, none⟩) l.length cap)).run Try.prog w = .ok (.string (S l)) w := by
  refine run_convert_bytes_back w 45 9 5 ⟨b, 0, none⟩ cap l Try.underlying45 Try.underlying5 Try.underlying9 (fun j hj => ?_)
  have := h.cell hj
  have e : (⟨b, 0, none⟩ : Addr).add j = ⟨b, j, none⟩ := by unfold Addr.add; split <;> simp_all
  rw [e, this]
  simp [at_, List.getD_eq_getElem?_getD, List.getElem?_eq_getElem hj]

/-- []byte(s) -/
theorem conv_string (w : World) (s : ByteArray) :
    ∃ cap W, (convert 9 45 (.string s)).run Try.prog w = .ok (.slice (some ⟨w.heap.size, 0, none⟩) s.size cap) W ∧ Bytes W w.heap.size (L s) ∧ Below w.heap.size w W := by
  refine ⟨_, _, run_bytes_of_string w 9 45 5 s Try.underlying9 Try.underlying45 Try.underlying5, ?_, ?_⟩
  · refine ⟨_, _, _, heap_alloc_new w.drew _, ?_, fun j hj => ?_⟩
    · rw [L_length]; unfold bytesRow; rw [Array.size_append, Array.size_map]; exact Nat.le_add_right _ _
    · rw [bytesRow_at s _ j (by simpa [L_length] using hj)]
      simp [at_, L, List.getD_eq_getElem?_getD, List.getElem?_eq_getElem (show j < s.data.toList.length by simpa [L] using hj)]
  · exact (Below.refl _ _).drew.alloc (Nat.le_refl _) _

theorem set_at {l : List UInt8} {k : Nat} (h : k < l.length) : (l.getD k 0).toNat = (at_ l k).toNat := by simp [at_]
end Go.Proofs.Ytlmpoikjjidgiaa
