/- Several texts of this claim, one behind the other. -/
import Derived.Test.YtpidgmamollmgaaDoorM8
import Derived.Laws.IdiomStrings
import Derived.BigRegion
import Derived.Test.YtpidgmamollmgaaDoorM33

section
/- Bytes of a text in a row of the call's own: what a store does, how the row is turned into a text again. -/
set_option linter.unusedVariables false
namespace Go.Proofs.YtpidgmamollmgaaDoor
open Go.RowKit

/-- block b is a row of bytes, the first of them those of l, none of these frozen -/
def Bytes (w : World) (b : Nat) (l : List UInt8) : Prop :=
  ∃ cs : Array Value, ∃ lo hi : Nat, w.heap[b]? = some (.cells cs 5 (lo, hi)) ∧ l.length ≤ lo ∧ ∀ j, j < l.length → cs[j]? = some (.int .u8 (at_ l j))

theorem Bytes.cell {w : World} {b : Nat} {l : List UInt8} (h : Bytes w b l) {j : Nat} (hj : j < l.length) : w.cell? ⟨b, j, none⟩ = some (.int .u8 (at_ l j)) := by
  obtain ⟨cs, lo, hi, hb, hl, hc⟩ := h
  rw [Lib.cell_of_heap hb]; exact hc j hj
theorem Bytes.frozen {w : World} {b : Nat} {l : List UInt8} (h : Bytes w b l) {j : Nat} (hj : j < l.length) : w.frozen? ⟨b, j, none⟩ = false := by
  obtain ⟨cs, lo, hi, hb, hl, hc⟩ := h
  simp [World.frozen?, hb]; omega
theorem Bytes.lt {w : World} {b : Nat} {l : List UInt8} (h : Bytes w b l) : b < w.heap.size := by
  obtain ⟨cs, lo, hi, hb, _⟩ := h
  exact (Array.getElem?_eq_some_iff.1 hb).1
theorem Bytes.set_ {w : World} {b : Nat} {l : List UInt8} (h : Bytes w b l) {k : Nat} {x : UInt8} (hk : k < l.length) : Bytes (w.setCell ⟨b, k, none⟩ (.int .u8 (x.toNat : Int))) b (l.set k x) := by
  obtain ⟨cs, lo, hi, hb, hl, hc⟩ := h
  refine ⟨cs.setIfInBounds k (.int .u8 (x.toNat : Int)), lo, hi, ?_, by simpa using hl, fun j hj => ?_⟩
  · simp [World.setCell, Array.getElem?_modify, hb]
  · have hj' : j < l.length := by simpa using hj
    have hcj := hc j hj'
    have hkz : k < cs.size := by have := hc k hk; exact (Array.getElem?_eq_some_iff.1 this).1
    by_cases e : k = j
    · subst e
      rw [Array.getElem?_setIfInBounds_self_of_lt hkz]
      simp [at_, List.getD_eq_getElem?_getD, hk]
    · rw [Array.getElem?_setIfInBounds_ne e, hcj]
      simp [at_, List.getD_eq_getElem?_getD, e]
theorem Bytes.drewN {w : World} {b : Nat} {l : List UInt8} (h : Bytes w b l) (n : Nat) : Bytes (w.drewN n) b l := h
theorem Bytes.below {w w' : World} {b : Nat} {l : List UInt8} (h : Bytes w b l) (hb : Below w.heap.size w w') : Bytes w' b l := by
  obtain ⟨cs, lo, hi, h1, hl, hc⟩ := h
  exact ⟨cs, lo, hi, (hb.block b (Array.getElem?_eq_some_iff.1 h1).1).trans h1, hl, hc⟩

/-- string(b) -/
theorem conv_bytes (w : World) (b cap : Nat) (l : List UInt8) (h : Bytes w b l) :
    (convert 40 9 (.slice (some ⟨b, 0, none⟩) l.length cap)).run Tryd.prog w = .ok (.string (S l)) w := by
  refine run_convert_bytes_back w 40 9 5 ⟨b, 0, none⟩ cap l Tryd.underlying40 Tryd.underlying5 Tryd.underlying9 (fun j hj => ?_)
  have := h.cell hj
  have e : (⟨b, 0, none⟩ : Addr).add j = ⟨b, j, none⟩ := by unfold Addr.add; split <;> simp_all
  rw [e, this]
  simp [at_, List.getD_eq_getElem?_getD, List.getElem?_eq_getElem hj]

/-- []byte(s) -/
theorem conv_string (w : World) (s : ByteArray) :
    ∃ cap W, (convert 9 40 (.string s)).run Tryd.prog w = .ok (.slice (some ⟨w.heap.size, 0, none⟩) s.size cap) W ∧ Bytes W w.heap.size (L s) ∧ Below w.heap.size w W := by
  refine ⟨_, _, run_bytes_of_string w 9 40 5 s Tryd.underlying9 Tryd.underlying40 Tryd.underlying5, ?_, ?_⟩
  · refine ⟨_, _, _, heap_alloc_new w.drew _, ?_, fun j hj => ?_⟩
    · rw [L_length]; unfold bytesRow; rw [Array.size_append, Array.size_map]; exact Nat.le_add_right _ _
    · rw [bytesRow_at s _ j (by simpa [L_length] using hj)]
      simp [at_, L, List.getD_eq_getElem?_getD, List.getElem?_eq_getElem (show j < s.data.toList.length by simpa [L] using hj)]
  · exact (Below.refl _ _).drew.alloc (Nat.le_refl _) _

theorem set_at {l : List UInt8} {k : Nat} (h : k < l.length) : (l.getD k 0).toNat = (at_ l k).toNat := by simp [at_]
end Go.Proofs.YtpidgmamollmgaaDoor
end

section
/- plain walked. -/
set_option linter.unusedVariables false
set_option linter.unusedSimpArgs false
namespace Go.Proofs.YtpidgmamollmgaaDoor
open Go.RowKit
attribute [local go_sem] Oper.semAt_some

theorem zeroed {w : World} {b : Nat} {l : List UInt8} (h : Bytes w b l) (hz : 12 ≤ l.length) : Bytes (((w.setCell ⟨b, 8, none⟩ (.int .u8 0)).setCell ⟨b, 10, none⟩ (.int .u8 0)).setCell ⟨b, 11, none⟩ (.int .u8 0)) b (zeroH l) := by
  have h1 : Bytes (w.setCell ⟨b, 8, none⟩ (.int .u8 0)) b (l.set 8 0) := h.set_ (k := 8) (x := 0) (by omega)
  have h2 : Bytes ((w.setCell ⟨b, 8, none⟩ (.int .u8 0)).setCell ⟨b, 10, none⟩ (.int .u8 0)) b ((l.set 8 0).set 10 0) := h1.set_ (k := 10) (x := 0) (by simp; omega)
  exact h2.set_ (k := 11) (x := 0) (by simp; omega)
theorem zeroed2 {w : World} {b k : Nat} {l : List UInt8} (h : Bytes w b l) (hz : k + 1 < l.length) : Bytes ((w.setCell ⟨b, k, none⟩ (.int .u8 0)).setCell ⟨b, k + 1, none⟩ (.int .u8 0)) b ((l.set k 0).set (k + 1) 0) := by
  have h1 : Bytes (w.setCell ⟨b, k, none⟩ (.int .u8 0)) b (l.set k 0) := h.set_ (k := k) (x := 0) (by omega)
  exact h1.set_ (k := k + 1) (x := 0) (by simp; omega)
theorem Below.put3 {w w' : World} {b : Nat} (h : Below w.heap.size w w') (hb : w.heap.size ≤ b) (x y z : Value) : Below w.heap.size w (((w'.setCell ⟨b, 8, none⟩ x).setCell ⟨b, 10, none⟩ y).setCell ⟨b, 11, none⟩ z) :=
  Below.setCell (Below.setCell (Below.setCell h (p := ⟨b, 8, none⟩) hb x) (p := ⟨b, 10, none⟩) hb y) (p := ⟨b, 11, none⟩) hb z
theorem Below.put2 {w w' : World} {b k : Nat} (h : Below w.heap.size w w') (hb : w.heap.size ≤ b) (x y : Value) : Below w.heap.size w ((w'.setCell ⟨b, k, none⟩ x).setCell ⟨b, k + 1, none⟩ y) :=
  Below.setCell (Below.setCell h (p := ⟨b, k, none⟩) hb x) (p := ⟨b, k + 1, none⟩) hb y

set_option maxRecDepth 100000 in
set_option maxHeartbeats 2000000 in
theorem plain_no (s : ByteArray) (k : Int) (x y : Int) (w : World) (K0 : Kinds w) (hs : s.size ≤ 140737488351232) (h12 : 12 ≤ s.size) (q1 : ¬ 0 < k)
    (c1 : ∀ W, Kinds W → Calls Tryd.prog 10 #[.string s] W (Ret (.int .i64 k) W)) :
    Calls Tryd.prog 11 #[.string s] w (Ret (.string (S (zeroH (L s)))) w) := by
  obtain ⟨cap, W, hcv, hB, hb⟩ := conv_string w s
  have C1 := hide c1; have KK := hide K0; have HB := hide hB
  have j1 : (8 : Int) < (s.size : Int) := by omega
  have j2 : (10 : Int) < (s.size : Int) := by omega
  have j3 : (11 : Int) < (s.size : Int) := by omega
  clear c1 K0 hB
  go_enter Tryd.func11, Tryd.ntmps11
  go_wp2_with fail
  (with_reducible refine (C1.out _ (KK.out.below hb)).mono ?_)
  rintro e w1 ⟨rfl, b1⟩
  have hB1 := HB.out.below b1
  replace b1 := bstep hb b1
  have hz : (L s).length = s.size := L_length s
  have hzz : (zeroH (L s)).length = s.size := by rw [zero_len, hz]
  have x8 := hB1.cell (j := 8) (by omega)
  have x10 := hB1.cell (j := 10) (by omega)
  have x11 := hB1.cell (j := 11) (by omega)
  have f8 := hB1.frozen (j := 8) (by omega)
  have f10 := hB1.frozen (j := 10) (by omega)
  have f11 := hB1.frozen (j := 11) (by omega)
  have hZ := zeroed hB1 (by omega)
  have b2 := Below.put3 b1 (Nat.le_refl _) (.int .u8 0) (.int .u8 0) (.int .u8 0)
  have hcw := conv_bytes (((w1.setCell ⟨w.heap.size, 8, none⟩ (.int .u8 0)).setCell ⟨w.heap.size, 10, none⟩ (.int .u8 0)).setCell ⟨w.heap.size, 11, none⟩ (.int .u8 0)) w.heap.size cap (zeroH (L s)) hZ
  rw [show (zeroH (L s)).length = s.size from by exact hzz] at hcw
  have B2 := hide b2
  clear hZ b2 hB1 b1 hcv hz hzz HB  
  go_wp2_with fail
  go_ret
  exact ⟨rfl, B2.out⟩

set_option maxRecDepth 100000 in
set_option maxHeartbeats 2000000 in
theorem plain_out (s : ByteArray) (k : Int) (x y : Int) (w : World) (K0 : Kinds w) (hs : s.size ≤ 140737488351232) (h12 : 12 ≤ s.size) (q1 : 0 < k) (kb : k ≤ 140737488351232) (q2 : ¬ k + 1 < (s.size : Int)) (kw : IntKind.i64.wrap (k + 1) = k + 1)
    (c1 : ∀ W, Kinds W → Calls Tryd.prog 10 #[.string s] W (Ret (.int .i64 k) W)) :
    Calls Tryd.prog 11 #[.string s] w (Ret (.string (S (zeroH (L s)))) w) := by
  obtain ⟨cap, W, hcv, hB, hb⟩ := conv_string w s
  have C1 := hide c1; have KK := hide K0; have HB := hide hB
  have j1 : (8 : Int) < (s.size : Int) := by omega
  have j2 : (10 : Int) < (s.size : Int) := by omega
  have j3 : (11 : Int) < (s.size : Int) := by omega
  clear c1 K0 hB
  go_enter Tryd.func11, Tryd.ntmps11
  go_wp2_with fail
  (with_reducible refine (C1.out _ (KK.out.below hb)).mono ?_)
  rintro e w1 ⟨rfl, b1⟩
  have hB1 := HB.out.below b1
  replace b1 := bstep hb b1
  have hz : (L s).length = s.size := L_length s
  have hzz : (zeroH (L s)).length = s.size := by rw [zero_len, hz]
  have x8 := hB1.cell (j := 8) (by omega)
  have x10 := hB1.cell (j := 10) (by omega)
  have x11 := hB1.cell (j := 11) (by omega)
  have f8 := hB1.frozen (j := 8) (by omega)
  have f10 := hB1.frozen (j := 10) (by omega)
  have f11 := hB1.frozen (j := 11) (by omega)
  have hZ := zeroed hB1 (by omega)
  have b2 := Below.put3 b1 (Nat.le_refl _) (.int .u8 0) (.int .u8 0) (.int .u8 0)
  have hcw := conv_bytes (((w1.setCell ⟨w.heap.size, 8, none⟩ (.int .u8 0)).setCell ⟨w.heap.size, 10, none⟩ (.int .u8 0)).setCell ⟨w.heap.size, 11, none⟩ (.int .u8 0)) w.heap.size cap (zeroH (L s)) hZ
  rw [show (zeroH (L s)).length = s.size from by exact hzz] at hcw
  have B2 := hide b2
  clear hZ b2 hB1 b1 hcv hz hzz HB  
  go_wp2_with fail
  go_ret
  exact ⟨rfl, B2.out⟩

set_option maxRecDepth 100000 in
set_option maxHeartbeats 2000000 in
theorem plain_ne (s : ByteArray) (k : Int) (x y : Int) (w : World) (K0 : Kinds w) (hs : s.size ≤ 140737488351232) (h12 : 12 ≤ s.size) (u : Int) (q1 : 0 < k) (q2 : k + 1 < (s.size : Int)) (ex : at_ (zeroH (L s)) k.toNat = u) (q3 : ¬ u = 255) (q4 : (u == 255) = false)
    (c1 : ∀ W, Kinds W → Calls Tryd.prog 10 #[.string s] W (Ret (.int .i64 k) W)) :
    Calls Tryd.prog 11 #[.string s] w (Ret (.string (S (zeroH (L s)))) w) := by
  obtain ⟨cap, W, hcv, hB, hb⟩ := conv_string w s
  have C1 := hide c1; have KK := hide K0; have HB := hide hB
  have j1 : (8 : Int) < (s.size : Int) := by omega
  have j2 : (10 : Int) < (s.size : Int) := by omega
  have j3 : (11 : Int) < (s.size : Int) := by omega
  clear c1 K0 hB
  go_enter Tryd.func11, Tryd.ntmps11
  go_wp2_with fail
  (with_reducible refine (C1.out _ (KK.out.below hb)).mono ?_)
  rintro e w1 ⟨rfl, b1⟩
  have hB1 := HB.out.below b1
  replace b1 := bstep hb b1
  have hz : (L s).length = s.size := L_length s
  have hzz : (zeroH (L s)).length = s.size := by rw [zero_len, hz]
  have x8 := hB1.cell (j := 8) (by omega)
  have x10 := hB1.cell (j := 10) (by omega)
  have x11 := hB1.cell (j := 11) (by omega)
  have f8 := hB1.frozen (j := 8) (by omega)
  have f10 := hB1.frozen (j := 10) (by omega)
  have f11 := hB1.frozen (j := 11) (by omega)
  have hZ := zeroed hB1 (by omega)
  have b2 := Below.put3 b1 (Nat.le_refl _) (.int .u8 0) (.int .u8 0) (.int .u8 0)
  have xk := hZ.cell (j := k.toNat) (by omega)
  rw [ex] at xk
  have kw : IntKind.i64.wrap (k + 1) = k + 1 := IntWalk.i64_in _ (by omega)
  have kn : (k + 1).toNat = k.toNat + 1 := by omega
  have k0 : 0 ≤ k := by omega
  have k1 : 0 ≤ k + 1 := by omega
  have k2 : k < (s.size : Int) := by omega
  have hcw := conv_bytes (((w1.setCell ⟨w.heap.size, 8, none⟩ (.int .u8 0)).setCell ⟨w.heap.size, 10, none⟩ (.int .u8 0)).setCell ⟨w.heap.size, 11, none⟩ (.int .u8 0)) w.heap.size cap (zeroH (L s)) hZ
  rw [show (zeroH (L s)).length = s.size from by exact hzz] at hcw
  have B2 := hide b2
  clear hZ b2 hB1 b1 hcv hz hzz HB ex 
  go_wp2_with fail
  go_ret
  exact ⟨rfl, B2.out⟩

set_option maxRecDepth 100000 in
set_option maxHeartbeats 2000000 in
theorem plain_ne2 (s : ByteArray) (k : Int) (x y : Int) (w : World) (K0 : Kinds w) (hs : s.size ≤ 140737488351232) (h12 : 12 ≤ s.size) (u : Int) (q1 : 0 < k) (q2 : k + 1 < (s.size : Int)) (ex : at_ (zeroH (L s)) k.toNat = 255) (ey : at_ (zeroH (L s)) (k.toNat + 1) = u) (q3 : ¬ u = 255) (q4 : (u == 255) = false)
    (c1 : ∀ W, Kinds W → Calls Tryd.prog 10 #[.string s] W (Ret (.int .i64 k) W)) :
    Calls Tryd.prog 11 #[.string s] w (Ret (.string (S (zeroH (L s)))) w) := by
  obtain ⟨cap, W, hcv, hB, hb⟩ := conv_string w s
  have C1 := hide c1; have KK := hide K0; have HB := hide hB
  have j1 : (8 : Int) < (s.size : Int) := by omega
  have j2 : (10 : Int) < (s.size : Int) := by omega
  have j3 : (11 : Int) < (s.size : Int) := by omega
  clear c1 K0 hB
  go_enter Tryd.func11, Tryd.ntmps11
  go_wp2_with fail
  (with_reducible refine (C1.out _ (KK.out.below hb)).mono ?_)
  rintro e w1 ⟨rfl, b1⟩
  have hB1 := HB.out.below b1
  replace b1 := bstep hb b1
  have hz : (L s).length = s.size := L_length s
  have hzz : (zeroH (L s)).length = s.size := by rw [zero_len, hz]
  have x8 := hB1.cell (j := 8) (by omega)
  have x10 := hB1.cell (j := 10) (by omega)
  have x11 := hB1.cell (j := 11) (by omega)
  have f8 := hB1.frozen (j := 8) (by omega)
  have f10 := hB1.frozen (j := 10) (by omega)
  have f11 := hB1.frozen (j := 11) (by omega)
  have hZ := zeroed hB1 (by omega)
  have b2 := Below.put3 b1 (Nat.le_refl _) (.int .u8 0) (.int .u8 0) (.int .u8 0)
  have xk := hZ.cell (j := k.toNat) (by omega)
  rw [ex] at xk
  have kw : IntKind.i64.wrap (k + 1) = k + 1 := IntWalk.i64_in _ (by omega)
  have kn : (k + 1).toNat = k.toNat + 1 := by omega
  have k0 : 0 ≤ k := by omega
  have k1 : 0 ≤ k + 1 := by omega
  have k2 : k < (s.size : Int) := by omega
  have xl := hZ.cell (j := k.toNat + 1) (by omega)
  rw [ey] at xl
  have hcw := conv_bytes (((w1.setCell ⟨w.heap.size, 8, none⟩ (.int .u8 0)).setCell ⟨w.heap.size, 10, none⟩ (.int .u8 0)).setCell ⟨w.heap.size, 11, none⟩ (.int .u8 0)) w.heap.size cap (zeroH (L s)) hZ
  rw [show (zeroH (L s)).length = s.size from by exact hzz] at hcw
  have B2 := hide b2
  clear hZ b2 hB1 b1 hcv hz hzz HB ex ey
  go_wp2_with fail
  go_ret
  exact ⟨rfl, B2.out⟩

set_option maxRecDepth 100000 in
set_option maxHeartbeats 2000000 in
theorem plain_yes (s : ByteArray) (k : Int) (x y : Int) (w : World) (K0 : Kinds w) (hs : s.size ≤ 140737488351232) (h12 : 12 ≤ s.size) (q1 : 0 < k) (q2 : k + 1 < (s.size : Int)) (ex : at_ (zeroH (L s)) k.toNat = 255) (ey : at_ (zeroH (L s)) (k.toNat + 1) = 255)
    (c1 : ∀ W, Kinds W → Calls Tryd.prog 10 #[.string s] W (Ret (.int .i64 k) W)) :
    Calls Tryd.prog 11 #[.string s] w (Ret (.string (S (((zeroH (L s)).set k.toNat 0).set (k.toNat + 1) 0))) w) := by
  obtain ⟨cap, W, hcv, hB, hb⟩ := conv_string w s
  have C1 := hide c1; have KK := hide K0; have HB := hide hB
  have j1 : (8 : Int) < (s.size : Int) := by omega
  have j2 : (10 : Int) < (s.size : Int) := by omega
  have j3 : (11 : Int) < (s.size : Int) := by omega
  clear c1 K0 hB
  go_enter Tryd.func11, Tryd.ntmps11
  go_wp2_with fail
  (with_reducible refine (C1.out _ (KK.out.below hb)).mono ?_)
  rintro e w1 ⟨rfl, b1⟩
  have hB1 := HB.out.below b1
  replace b1 := bstep hb b1
  have hz : (L s).length = s.size := L_length s
  have hzz : (zeroH (L s)).length = s.size := by rw [zero_len, hz]
  have x8 := hB1.cell (j := 8) (by omega)
  have x10 := hB1.cell (j := 10) (by omega)
  have x11 := hB1.cell (j := 11) (by omega)
  have f8 := hB1.frozen (j := 8) (by omega)
  have f10 := hB1.frozen (j := 10) (by omega)
  have f11 := hB1.frozen (j := 11) (by omega)
  have hZ := zeroed hB1 (by omega)
  have b2 := Below.put3 b1 (Nat.le_refl _) (.int .u8 0) (.int .u8 0) (.int .u8 0)
  have xk := hZ.cell (j := k.toNat) (by omega)
  rw [ex] at xk
  have kw : IntKind.i64.wrap (k + 1) = k + 1 := IntWalk.i64_in _ (by omega)
  have kn : (k + 1).toNat = k.toNat + 1 := by omega
  have k0 : 0 ≤ k := by omega
  have k1 : 0 ≤ k + 1 := by omega
  have k2 : k < (s.size : Int) := by omega
  have xl := hZ.cell (j := k.toNat + 1) (by omega)
  rw [ey] at xl
  have fk := hB1.frozen (j := k.toNat) (by omega)
  have fl := hB1.frozen (j := k.toNat + 1) (by omega)
  have gk := hZ.frozen (j := k.toNat) (by omega)
  have gl := hZ.frozen (j := k.toNat + 1) (by omega)
  replace hZ := zeroed2 (k := k.toNat) hZ (by omega)
  replace b2 := Below.put2 (k := k.toNat) b2 (Nat.le_refl _) (.int .u8 0) (.int .u8 0)
  have hcw := conv_bytes (((((w1.setCell ⟨w.heap.size, 8, none⟩ (.int .u8 0)).setCell ⟨w.heap.size, 10, none⟩ (.int .u8 0)).setCell ⟨w.heap.size, 11, none⟩ (.int .u8 0)).setCell ⟨w.heap.size, k.toNat, none⟩ (.int .u8 0)).setCell ⟨w.heap.size, k.toNat + 1, none⟩ (.int .u8 0)) w.heap.size cap (((zeroH (L s)).set k.toNat 0).set (k.toNat + 1) 0) hZ
  rw [show (((zeroH (L s)).set k.toNat 0).set (k.toNat + 1) 0).length = s.size from by simp only [List.length_set, hzz]] at hcw
  have B2 := hide b2
  clear hZ b2 hB1 b1 hcv hz hzz HB ex ey
  go_wp2_with fail
  go_ret
  exact ⟨rfl, B2.out⟩

theorem plain_walk (s : ByteArray) (w : World) (K0 : Kinds w) (hs : s.size ≤ 140737488351232) (h12 : 12 ≤ s.size) :
    Calls Tryd.prog 11 #[.string s] w (Ret (.string (plainOf s)) w) := by
  have c1 := fun W K => sumAt_walk s W K hs (by omega)
  have hb := at_bd (L s) 0
  have ho : ipOwn (L s) = at_ (L s) 0 % 16 * 4 := rfl
  have hk : sumAtL (seenOf s) (ipOwn (L s)).toNat ≤ 200 := by unfold sumAtL; split <;> (try split) <;> (try split) <;> omega
  unfold plainOf plainL
  generalize sumAtL (seenOf s) (ipOwn (L s)).toNat = k at *
  rw [L_length]
  by_cases h1 : 0 < k
  · by_cases h2 : k + 1 < s.size
    · by_cases h3 : at_ (zeroH (L s)) k = 255
      · by_cases h4 : at_ (zeroH (L s)) (k + 1) = 255
        · rw [if_pos ⟨h1, h2, h3, h4⟩]
          exact plain_yes s k 0 0 w K0 hs h12 (by omega) (by omega) h3 h4 c1
        · rw [if_neg (fun h => h4 h.2.2.2)]
          exact plain_ne2 s k 0 0 w K0 hs h12 _ (by omega) (by omega) h3 rfl h4 (by simpa using h4) c1
      · rw [if_neg (fun h => h3 h.2.2.1)]
        exact plain_ne s k 0 0 w K0 hs h12 _ (by omega) (by omega) rfl h3 (by simpa using h3) c1
    · rw [if_neg (fun h => h2 h.2.1)]
      exact plain_out s k 0 0 w K0 hs h12 (by omega) (by omega) (by omega) (IntWalk.i64_in _ (by omega)) c1
  · rw [if_neg (fun h => h1 h.1)]
    exact plain_no s k 0 0 w K0 hs h12 (by omega) c1
end Go.Proofs.YtpidgmamollmgaaDoor
end
