/- Several texts of this claim, one behind the other. -/
import Derived.Test.YtilfcikhipadpaaGreatDoorK10a

section
/- A run reckoned by the kernel: rows of unknown length: append. No program. -/
set_option linter.unusedVariables false
set_option linter.unusedSimpArgs false
namespace Go.Proofs.YtilfcikhipadpaaGreatDoor
open Go.RowKit Go.Lib
namespace Rx
variable {P : Program} {A : Amb}

/-- what append asks of a slice's type -/
def rowOf (P : Program) (sT : TypeId) : Option (TypeId × Nat × Bool) := match elemA P sT with
  | some (e, i) => match i.zero with
    | some z => some (e, i.size, Nat.beq z.cells.size i.size && Nat.ble i.bytes 100000)
    | none => none
  | none => none
theorem rowOf_spec {sT e : TypeId} {s : Nat} (h : rowOf P sT = some (e, s, true)) : ∃ i z, elemA P sT = some (e, i) ∧ i.zero = some z ∧ i.size = s ∧ (Nat.beq z.cells.size i.size && Nat.ble i.bytes 100000) = true := by
  unfold rowOf at h
  split at h
  · rename_i e' i he
    split at h
    · rename_i z hz
      simp only [Option.some.injEq, Prod.mk.injEq] at h
      obtain ⟨rfl, h2, h3⟩ := h
      exact ⟨i, z, he, hz, h2, h3⟩
    · cases h
  · cases h
theorem memL_two {id j : Nat} (h : Nat.beq j id = false) (a b : Blk) : memL [(id, a), (j, b)] id = some a ∧ memL [(id, a), (j, b)] j = some b := by
  have h2 : Nat.beq id j = false := by
    cases hx : Nat.beq id j
    · rfl
    · rw [Nat.eq_of_beq_eq_true hx] at h; simp at h
  simp [memL, Mem.put, h, h2]
theorem take_all {L : List Value} {n : Nat} (h : L.length = n) : L.take n = L := List.take_of_length_le (by omega)
theorem append_val {sT xT e e3 : TypeId} {s id j m k c2 q2 nx : Nat} {L new : List Value} {e2 : TypeId} {r2 : Bool} (hE : rowOf P sT = some (e, s, true)) (hX : P.underlying xT = some (.slice e3)) (hL : L.length = m * s) (hN : new.length = k * s) (hs : new.all scal = true) (hk : 0 < k ∧ k ≤ 100000) (hm : m ≤ 100000) (hq : Nat.blt q2 2 = true) (hj : Nat.beq j id = false) :
    appendA P [sT, xT] (memL [(id, (L, e, true)), (j, (new, e2, r2))]) nx (.slice (some ⟨id, 0, some 0⟩) m 0) (.slice (some ⟨j, 0, some q2⟩) k c2) = some (.slice (some ⟨nx, 0, some 0⟩) (m + k) 0, [(nx, some (L ++ new, e, true)), (id, none)], nx + 1) := by
  obtain ⟨i, z, h1, h2, h3, h4⟩ := rowOf_spec hE
  obtain ⟨m1, m2⟩ := memL_two hj (L, e, true) (new, e2, r2)
  have hq2 : Nat.beq q2 2 = false := by
    cases hx : Nat.beq q2 2
    · rfl
    · rw [Nat.eq_of_beq_eq_true hx] at hq; simp at hq
  have hsrc : srcA P (memL [(id, (L, e, true)), (j, (new, e2, r2))]) i.size xT (.slice (some ⟨j, 0, some q2⟩) k c2) = some (k, new) := by
    simp only [srcA, hX, hq2, cond, m2, hq, hs, h3, Nat.zero_add, hN, Bool.true_and, Bool.and_true]
    rw [show Nat.ble (k * s) (k * s) = true from Nat.ble_eq_true_of_le (Nat.le_refl _)]
    simp only [cut, List.drop_zero]
    rw [take_all hN]
  simp only [appendA, h1, h2, hsrc, m1]
  rw [h4, show Nat.ble k 100000 = true from Nat.ble_eq_true_of_le hk.2]
  simp only [Bool.and_self, cond]
  have hb : (Nat.blt 0 2 && true && Nat.beq e e && Nat.ble (m * i.size) L.length && Nat.ble m 100000 && roomy 0 0 (m + k)) = true := by
    rw [h3, hL, show Nat.ble (m * s) (m * s) = true from Nat.ble_eq_true_of_le (Nat.le_refl _), show Nat.ble m 100000 = true from Nat.ble_eq_true_of_le hm]
    simp [roomy]
  rw [hb]
  simp only [cond]
  rw [h3, take_all hL]
/-- append of a row to a row -/
def ap (n nx : Nat) {sT xT ty e e3 : TypeId} {s id j m k c2 q2 : Nat} {L new : List Value} {e2 : TypeId} {r2 : Bool} (hL : L.length = m * s) (hN : new.length = k * s) (hs : new.all scal = true) (hk : 0 < k ∧ k ≤ 100000) (hm : m ≤ 100000) (hj : Nat.beq j id = false := by kernel_rfl)
    (hE : rowOf P sT = some (e, s, true) := by kernel_rfl) (hX : P.underlying xT = some (.slice e3) := by kernel_rfl) (hq : Nat.blt q2 2 = true := by kernel_rfl) (hn : Nat.beq j nx = false := by kernel_rfl)
    (hv : [Value.slice (some ⟨id, 0, some 0⟩) m 0, .slice (some ⟨j, 0, some q2⟩) k c2].all (inP (has1 [id, j])) = true := by kernel_rfl) (hall : allSome (evOf [Value.slice (some ⟨id, 0, some 0⟩) m 0, .slice (some ⟨j, 0, some q2⟩) k c2]) (mkO (.call ⟨.builtin .append, #[.tmp 1, .tmp 2], #[sT, xT]⟩) ty) = true := by kernel_rfl) : Ev P A :=
  ovW n nx (.call ⟨.builtin .append, #[.tmp 1, .tmp 2], #[sT, xT]⟩) ty [.slice (some ⟨id, 0, some 0⟩) m 0, .slice (some ⟨j, 0, some q2⟩) k c2] [(id, (L, e, true)), (j, (new, e2, r2))] [id] (.slice (some ⟨nx, 0, some 0⟩) (m + k) 0) [(nx, (L ++ new, e, true))] 1 (log := [(nx, some (L ++ new, e, true)), (id, none)])
    (append_val hE hX hL hN hs hk hm hq hj)
    (fun i b h => by
      have hij : Nat.beq id j = false := by
        cases hx : Nat.beq id j
        · rfl
        · rw [Nat.eq_of_beq_eq_true hx] at hj; simp at hj
      simp only [outF, List.filter, has1, List.any, hj, hij, Nat.beq_refl, Bool.not_true, Bool.not_false, Bool.or_false, List.cons_append, List.nil_append, memL, Mem.put, Mem.add] at h ⊢
      cases h1 : Nat.beq i nx <;> simp only [h1, cond] at h ⊢
      · cases h2 : Nat.beq i id <;> simp only [h2, cond] at h ⊢
        · exact h
        · rw [Nat.eq_of_beq_eq_true h2, hij] at h
          cases h
      · exact h) hv hall
/-- what is left of a row behind all its elements -/
def endV (id s n : Nat) : Value := if n = 0 then .slice (some ⟨id, 0, some 0⟩) 0 0 else .slice (some ⟨id, n * s, some 2⟩) 0 n
theorem end_val {T e : TypeId} {s id n : Nat} {L : List Value} {ty : TypeId} (hE : rowOf P T = some (e, s, true)) (hs : 0 < s) (hL : L.length = n * s) (nx : Nat) :
    opVal P (mkO (.slice T (.tmp 1) (some (.tmp 2)) none none) ty) (evOf [.slice (some ⟨id, 0, some 0⟩) n 0, .int .i64 (n : Int)]) (memL [(id, (L, e, true))]) nx = some (endV id s n, [], nx) := by
  obtain ⟨i, z, h1, h2, h3, h4⟩ := rowOf_spec hE
  have hm : memL [(id, (L, e, true))] id = some (L, e, true) := by simp [memL, Mem.put]
  have hb : (true && Nat.beq e e && Nat.ble n n && endOK 0 0 0 i.size L.length none) = true := by
    rw [show Nat.ble n n = true from Nat.ble_eq_true_of_le (Nat.le_refl _)]
    simp [endOK]
  have key : sliceA P (memL [(id, (L, e, true))]) T (evOf [.slice (some ⟨id, 0, some 0⟩) n 0, .int .i64 (n : Int)]) (.slice (some ⟨id, 0, some 0⟩) n 0) (some (.tmp 2)) none none = some (endV id s n) := by
    show (match elemA P T with | some (e', i) => cutA (memL [(id, (L, e, true))]) i.size e' n n none none (.slice (some ⟨id, 0, some 0⟩) n 0) | none => none) = _
    rw [h1]
    simp only [cutA, hm]
    rw [hb]
    simp only [cond, cut0]
    unfold endV
    by_cases h0 : n = 0
    · subst h0; simp
    · have e1 : Nat.beq n 0 = false := by
        cases hx : Nat.beq n 0
        · rfl
        · exact absurd (Nat.eq_of_beq_eq_true hx) h0
      have e2 : within 0 0 0 i.size (n + 1) L.length = false := by
        simp only [within]
        have : Nat.ble ((0 + (n + 1)) * i.size) L.length = false := by
          cases hx : Nat.ble ((0 + (n + 1)) * i.size) L.length
          · rfl
          · have := Nat.le_of_ble_eq_true hx
            rw [hL, h3] at this
            rw [Nat.zero_add, Nat.succ_mul] at this
            omega
        rw [this]; simp
      rw [e1, e2, if_neg h0, h3]
      simp
  show (match sliceA P (memL [(id, (L, e, true))]) T (evOf [.slice (some ⟨id, 0, some 0⟩) n 0, .int .i64 (n : Int)]) (.slice (some ⟨id, 0, some 0⟩) n 0) (some (.tmp 2)) none none with | some v => some (v, [], nx) | none => _) = _
  rw [key]
/-- s[len(s):] -/
def slE (n nx : Nat) {T ty e : TypeId} {s id k : Nat} {L : List Value} (hL : L.length = k * s) (hE : rowOf P T = some (e, s, true) := by kernel_rfl) (hs : 0 < s := by decide)
    (hv : [Value.slice (some ⟨id, 0, some 0⟩) k 0, .int .i64 (k : Int)].all (inP (has1 [id])) = true := by kernel_rfl) (hall : allSome (evOf [Value.slice (some ⟨id, 0, some 0⟩) k 0, .int .i64 (k : Int)]) (mkO (.slice T (.tmp 1) (some (.tmp 2)) none none) ty) = true := by kernel_rfl) : Ev P A :=
  ovR n nx (.slice T (.tmp 1) (some (.tmp 2)) none none) ty [.slice (some ⟨id, 0, some 0⟩) k 0, .int .i64 (k : Int)] [(id, (L, e, true))] (endV id s k) (end_val hE hs hL nx) hv hall
/-- the same, of a row with elements -/
def slE1 (n nx : Nat) {T ty e : TypeId} {s id k : Nat} {L : List Value} (hL : L.length = k * s) (h0 : k ≠ 0) (hE : rowOf P T = some (e, s, true) := by kernel_rfl) (hs : 0 < s := by decide)
    (hv : [Value.slice (some ⟨id, 0, some 0⟩) k 0, .int .i64 (k : Int)].all (inP (has1 [id])) = true := by kernel_rfl) (hall : allSome (evOf [Value.slice (some ⟨id, 0, some 0⟩) k 0, .int .i64 (k : Int)]) (mkO (.slice T (.tmp 1) (some (.tmp 2)) none none) ty) = true := by kernel_rfl) : Ev P A :=
  ovR n nx (.slice T (.tmp 1) (some (.tmp 2)) none none) ty [.slice (some ⟨id, 0, some 0⟩) k 0, .int .i64 (k : Int)] [(id, (L, e, true))] (.slice (some ⟨id, k * s, some 2⟩) 0 k) (by have := end_val (id := id) (ty := ty) hE hs hL nx; unfold endV at this; rw [if_neg h0] at this; exact this) hv hall
theorem head_val {T e : TypeId} {s id n : Nat} {L : List Value} {ty : TypeId} (hE : rowOf P T = some (e, s, true)) (hL : L.length = n * s) (nx : Nat) :
    opVal P (mkO (.slice T (.tmp 1) none (some (.tmp 2)) none) ty) (evOf [.slice (some ⟨id, 0, some 0⟩) n 0, .int .i64 (n : Int)]) (memL [(id, (L, e, true))]) nx = some (.slice (some ⟨id, 0, some 0⟩) n 0, [], nx) := by
  obtain ⟨i, z, h1, h2, h3, h4⟩ := rowOf_spec hE
  have hm : memL [(id, (L, e, true))] id = some (L, e, true) := by simp [memL, Mem.put]
  have hb : (true && Nat.beq e e && Nat.ble 0 n && endOK 0 0 0 i.size L.length (some n)) = true := by
    have h5 : Nat.ble (n * s) (n * s) = true := Nat.ble_eq_true_of_le (Nat.le_refl _)
    simp only [endOK, within, h3, hL, Nat.zero_add, h5]
    simp
  have key : sliceA P (memL [(id, (L, e, true))]) T (evOf [.slice (some ⟨id, 0, some 0⟩) n 0, .int .i64 (n : Int)]) (.slice (some ⟨id, 0, some 0⟩) n 0) none (some (.tmp 2)) none = some (.slice (some ⟨id, 0, some 0⟩) n 0) := by
    show (match elemA P T with | some (e', i) => cutA (memL [(id, (L, e, true))]) i.size e' 0 n (some n) none (.slice (some ⟨id, 0, some 0⟩) n 0) | none => none) = _
    rw [h1]
    simp only [cutA, hm]
    rw [hb]
    rfl
  show (match sliceA P (memL [(id, (L, e, true))]) T (evOf [.slice (some ⟨id, 0, some 0⟩) n 0, .int .i64 (n : Int)]) (.slice (some ⟨id, 0, some 0⟩) n 0) none (some (.tmp 2)) none with | some v => some (v, [], nx) | none => _) = _
  rw [key]
/-- s[:len(s)] -/
def slH (n nx : Nat) {T ty e : TypeId} {s id k : Nat} {L : List Value} (hL : L.length = k * s) (hE : rowOf P T = some (e, s, true) := by kernel_rfl)
    (hv : [Value.slice (some ⟨id, 0, some 0⟩) k 0, .int .i64 (k : Int)].all (inP (has1 [id])) = true := by kernel_rfl) (hall : allSome (evOf [Value.slice (some ⟨id, 0, some 0⟩) k 0, .int .i64 (k : Int)]) (mkO (.slice T (.tmp 1) none (some (.tmp 2)) none) ty) = true := by kernel_rfl) : Ev P A :=
  ovR n nx (.slice T (.tmp 1) none (some (.tmp 2)) none) ty [.slice (some ⟨id, 0, some 0⟩) k 0, .int .i64 (k : Int)] [(id, (L, e, true))] (.slice (some ⟨id, 0, some 0⟩) k 0) (head_val hE hL nx) hv hall
/-- append of a row to nothing -/
def apN (n nx : Nat) {sT xT ty e e3 : TypeId} {s j k c2 q2 : Nat} {new : List Value} {e2 : TypeId} {r2 : Bool} (hN : new.length = k * s) (hs : new.all scal = true) (hk : 0 < k ∧ k ≤ 100000)
    (hE : rowOf P sT = some (e, s, true) := by kernel_rfl) (hX : P.underlying xT = some (.slice e3) := by kernel_rfl) (hq : Nat.blt q2 2 = true := by kernel_rfl) (hn : Nat.beq j nx = false := by kernel_rfl)
    (hv : [Value.slice none 0 0, .slice (some ⟨j, 0, some q2⟩) k c2].all (inP (has1 [j])) = true := by kernel_rfl) (hall : allSome (evOf [Value.slice none 0 0, .slice (some ⟨j, 0, some q2⟩) k c2]) (mkO (.call ⟨.builtin .append, #[.tmp 1, .tmp 2], #[sT, xT]⟩) ty) = true := by kernel_rfl) : Ev P A :=
  ovW n nx (.call ⟨.builtin .append, #[.tmp 1, .tmp 2], #[sT, xT]⟩) ty [.slice none 0 0, .slice (some ⟨j, 0, some q2⟩) k c2] [(j, (new, e2, r2))] [] (.slice (some ⟨nx, 0, some 0⟩) k 0) [(nx, (new, e, true))] 1 (log := [(nx, some (new, e, true))])
    (by
      obtain ⟨i, z, h1, h2, h3, h4⟩ := rowOf_spec hE
      have hq2 : Nat.beq q2 2 = false := by
        cases hx : Nat.beq q2 2
        · rfl
        · rw [Nat.eq_of_beq_eq_true hx] at hq; simp at hq
      have hm : memL [(j, (new, e2, r2))] j = some (new, e2, r2) := by simp [memL, Mem.put]
      have hsrc : srcA P (memL [(j, (new, e2, r2))]) i.size xT (.slice (some ⟨j, 0, some q2⟩) k c2) = some (k, new) := by
        simp only [srcA, hX, hq2, cond, hm, hq, hs, h3, Nat.zero_add, hN, Bool.true_and, Bool.and_true]
        rw [show Nat.ble (k * s) (k * s) = true from Nat.ble_eq_true_of_le (Nat.le_refl _)]
        simp only [cut, List.drop_zero]
        rw [take_all hN]
      show appendA P [sT, xT] (memL [(j, (new, e2, r2))]) nx (.slice none 0 0) (.slice (some ⟨j, 0, some q2⟩) k c2) = _
      simp only [appendA, h1, h2, hsrc]
      rw [h4, show Nat.ble k 100000 = true from Nat.ble_eq_true_of_le hk.2]
      have h0 : Nat.beq k 0 = false := by
        cases hx : Nat.beq k 0
        · rfl
        · have := Nat.eq_of_beq_eq_true hx; omega
      simp only [Bool.and_self, cond, h0])
    (fun i b h => by
      simp only [outF, List.filter, has1, List.any, Bool.not_false, List.cons_append, List.nil_append, memL, Mem.put, Mem.add] at h ⊢
      cases h1 : Nat.beq i nx <;> simp only [h1, cond] at h ⊢ <;> exact h) hv hall
/-- append of nothing to a row -/
def ap0 (n nx : Nat) {sT xT ty e e3 : TypeId} {s id j m off c2 : Nat} {L : List Value} {bj : Blk} (hL : L.length = m * s) (hm : m ≤ 100000) (hj : Nat.beq j id = false := by kernel_rfl)
    (hE : rowOf P sT = some (e, s, true) := by kernel_rfl) (hX : P.underlying xT = some (.slice e3) := by kernel_rfl) (hn : Nat.beq j nx = false := by kernel_rfl)
    (hv : [Value.slice (some ⟨id, 0, some 0⟩) m 0, .slice (some ⟨j, off, some 2⟩) 0 c2].all (inP (has1 [id, j])) = true := by kernel_rfl) (hall : allSome (evOf [Value.slice (some ⟨id, 0, some 0⟩) m 0, .slice (some ⟨j, off, some 2⟩) 0 c2]) (mkO (.call ⟨.builtin .append, #[.tmp 1, .tmp 2], #[sT, xT]⟩) ty) = true := by kernel_rfl) : Ev P A :=
  ovW n nx (.call ⟨.builtin .append, #[.tmp 1, .tmp 2], #[sT, xT]⟩) ty [.slice (some ⟨id, 0, some 0⟩) m 0, .slice (some ⟨j, off, some 2⟩) 0 c2] [(id, (L, e, true)), (j, bj)] [id] (.slice (some ⟨nx, 0, some 0⟩) m 0) [(nx, (L, e, true))] 1 (log := [(nx, some (L, e, true)), (id, none)])
    (by
      obtain ⟨i, z, h1, h2, h3, h4⟩ := rowOf_spec hE
      obtain ⟨m1, m2⟩ := memL_two hj (L, e, true) bj
      have hsrc : srcA P (memL [(id, (L, e, true)), (j, bj)]) i.size xT (.slice (some ⟨j, off, some 2⟩) 0 c2) = some (0, []) := by
        simp only [srcA, hX]
        rfl
      show appendA P [sT, xT] (memL [(id, (L, e, true)), (j, bj)]) nx (.slice (some ⟨id, 0, some 0⟩) m 0) (.slice (some ⟨j, off, some 2⟩) 0 c2) = _
      simp only [appendA, h1, h2, hsrc, m1]
      rw [h4, show Nat.ble 0 100000 = true from rfl]
      simp only [Bool.and_self, cond]
      have hb : (Nat.blt 0 2 && true && Nat.beq e e && Nat.ble (m * i.size) L.length && Nat.ble m 100000 && roomy 0 0 (m + 0)) = true := by
        rw [h3, hL, show Nat.ble (m * s) (m * s) = true from Nat.ble_eq_true_of_le (Nat.le_refl _), show Nat.ble m 100000 = true from Nat.ble_eq_true_of_le hm]
        simp [roomy]
      rw [hb]
      simp only [cond]
      rw [h3, take_all hL, List.append_nil, Nat.add_zero])
    (fun i b h => by
      have hij : Nat.beq id j = false := by
        cases hx : Nat.beq id j
        · rfl
        · rw [Nat.eq_of_beq_eq_true hx] at hj; simp at hj
      simp only [outF, List.filter, has1, List.any, hj, hij, Nat.beq_refl, Bool.not_true, Bool.not_false, Bool.or_false, List.cons_append, List.nil_append, memL, Mem.put, Mem.add] at h ⊢
      cases h1 : Nat.beq i nx <;> simp only [h1, cond] at h ⊢
      · cases h2 : Nat.beq i id <;> simp only [h2, cond] at h ⊢
        · exact h
        · rw [Nat.eq_of_beq_eq_true h2, hij] at h
          cases h
      · exact h) hv hall
end Rx
end Go.Proofs.YtilfcikhipadpaaGreatDoor
end

section
/- rules: Add, by the executor. -/
set_option linter.unusedVariables false
set_option linter.unusedSimpArgs false
namespace Go.Proofs.YtilfcikhipadpaaGreatDoor
open Go.RowKit Go.Lib Rx
def clE {A : Amb} (n : Nat) (a b : Rule) : Ev Tryz.prog A := does n (args := [.agg (ruL a).toArray, .agg (ruL b).toArray]) (v := .bool (clq a b)) fun W _ => by rw [← clash_val]; exact rx_clash _ _ _ _ _ _ _ _ _ _ _ _ _ _ _ _ _ _ _ _ _ _ W
/-! ### closures: printed (gen/ways.py) -/
def rx_Add1_v (o pi pb : Int) (n c : Nat) (k p sa sb da db e f t ia ip k2 p2 sa2 sb2 da2 db2 e2 f2 t2 ia2 ip2 : Int) : Value := (bif (k == 2) then (bif (k2 == 2) then (.bool (clq { k := k, p := p, sa := sa, sb := sb, da := da, db := db, e := o, f := f, t := t, ia := ia, ip := ip } { k := k2, p := p2, sa := sa2, sb := sb2, da := da2, db := db2, e := o, f := f2, t := t2, ia := ia2, ip := ip2 })) else (.bool (clq { k := k, p := p, sa := sa, sb := sb, da := da, db := db, e := o, f := f, t := t, ia := ia, ip := ip } { k := k2, p := p2, sa := sa2, sb := sb2, da := da2, db := db2, e := e2, f := f2, t := t2, ia := ia2, ip := ip2 }))) else (bif (k2 == 2) then (.bool (clq { k := k, p := p, sa := sa, sb := sb, da := da, db := db, e := e, f := f, t := t, ia := ia, ip := ip } { k := k2, p := p2, sa := sa2, sb := sb2, da := da2, db := db2, e := o, f := f2, t := t2, ia := ia2, ip := ip2 })) else (.bool (clq { k := k, p := p, sa := sa, sb := sb, da := da, db := db, e := e, f := f, t := t, ia := ia, ip := ip } { k := k2, p := p2, sa := sa2, sb := sb2, da := da2, db := db2, e := e2, f := f2, t := t2, ia := ia2, ip := ip2 }))))
theorem rx_Add1 {A : Rx.Amb} (o pi pb : Int) (n c : Nat) (k p sa sb da db e f t ia ip k2 p2 sa2 sb2 da2 db2 e2 f2 t2 ia2 ip2 : Int)  : CallJ Tryz.prog A 94 [.agg #[.int .i64 k, .int .u8 p, .int .u32 sa, .int .i64 sb, .int .u32 da, .int .i64 db, .int .u32 e, .int .u16 f, .int .u16 t, .int .u32 ia, .int .u16 ip], .pointer (some ⟨1, 0, some 0⟩), .pointer (some ⟨2, 0, some 0⟩)] [(1, ([.pointer (some ⟨3, 0, some 0⟩)], 48, false)), (2, ([.int .i64 k2, .int .u8 p2, .int .u32 sa2, .int .i64 sb2, .int .u32 da2, .int .i64 db2, .int .u32 e2, .int .u16 f2, .int .u16 t2, .int .u32 ia2, .int .u16 ip2], 68, false)), (3, ([.bool true, .int .u32 o, .int .u32 pi, .int .i64 pb, .slice (some ⟨0, 0, some 0⟩) n c], 130, false))] 4 (rx_Add1_v o pi pb n c k p sa sb da db e f t ia ip k2 p2 sa2 sb2 da2 db2 e2 f2 t2 ia2 ip2) [(1, ([.pointer (some ⟨3, 0, some 0⟩)], 48, false)), (2, ([.int .i64 k2, .int .u8 p2, .int .u32 sa2, .int .i64 sb2, .int .u32 da2, .int .i64 db2, .int .u32 e2, .int .u16 f2, .int .u16 t2, .int .u32 ia2, .int .u16 ip2], 68, false)), (3, ([.bool true, .int .u32 o, .int .u32 pi, .int .i64 pb, .slice (some ⟨0, 0, some 0⟩) n c], 130, false))] 4 := by
  unfold rx_Add1_v
  cases h1 : (k == 2)
  · cases h2 : (k2 == 2)
    · exact (con (nx' := 9) [no 9 h1, no 20 h2, clE 24 ⟨k, p, sa, sb, da, db, e, f, t, ia, ip⟩ ⟨k2, p2, sa2, sb2, da2, db2, e2, f2, t2, ia2, ip2⟩]).drop
    · exact (con (nx' := 9) [no 9 h1, yes 20 h2, clE 30 ⟨k, p, sa, sb, da, db, e, f, t, ia, ip⟩ ⟨k2, p2, sa2, sb2, da2, db2, o, f2, t2, ia2, ip2⟩]).drop
  · cases h3 : (k2 == 2)
    · exact (con (nx' := 9) [yes 9 h1, no 26 h3, clE 30 ⟨k, p, sa, sb, da, db, o, f, t, ia, ip⟩ ⟨k2, p2, sa2, sb2, da2, db2, e2, f2, t2, ia2, ip2⟩]).drop
    · exact (con (nx' := 9) [yes 9 h1, yes 26 h3, clE 36 ⟨k, p, sa, sb, da, db, o, f, t, ia, ip⟩ ⟨k2, p2, sa2, sb2, da2, db2, o, f2, t2, ia2, ip2⟩]).drop
theorem add1_val (o pi pb : Int) (n c : Nat) (a b : Rule) : rx_Add1_v o pi pb n c a.k a.p a.sa a.sb a.da a.db a.e a.f a.t a.ia a.ip b.k b.p b.sa b.sb b.da b.db b.e b.f b.t b.ia b.ip = .bool (clq (whoR o a) (whoR o b)) := by
  unfold rx_Add1_v whoR
  cases h1 : a.k == 2 <;> cases h2 : b.k == 2 <;> simp at h1 h2 <;> simp [h1, h2]
variable {A : Amb} {rs : List Rule} {c : Nat} {p : Rule → Bool} {g : FuncId} {b1 b2 b3 : Blk}
/-! ### slices.IndexFunc, of a function with two boxes and what one of them leads to -/
@[reducible] def kxV (rs : List Rule) (c : Nat) (g : FuncId) (i : Nat) : List (Nat × Value) := [(0, .slice (some ⟨0, 0, some 0⟩) rs.length c), (1, .func (.func g) #[] #[ptr 1, ptr 2]), (7, .int .i64 (rs.length : Int)), (8, .int .i64 (i : Int))]
@[reducible] def kxM (rs : List Rule) (b1 b2 b3 : Blk) : List (Nat × Blk) := [(0, ruB rs), (1, b1), (2, b2), (3, b3)]
theorem kx_on (hg : hasBody Tryz.prog g = true) (hp : ∀ r ∈ rs, CallJ Tryz.prog A g [.agg (ruL r).toArray, ptr 1, ptr 2] [(1, b1), (2, b2), (3, b3)] 4 (.bool (p r)) [(1, b1), (2, b2), (3, b3)] 4) (hn : rs.length ≤ 1000) (i : Nat) (hi : i < rs.length) (hno : p rs[i] = false) :
    CodeJ Tryz.prog A (loopOf Tryz.prog 103) 19 (kxV rs c g i) (kxM rs b1 b2 b3) 4 .nrm (kxV rs c g (i + 1)) (kxM rs b1 b2 b3) 4 :=
  Rx.code [Rx.isT 0 (b := decide ((i : Int) < (rs.length : Int))) (by simpa using hi), Rx.idx 7 4 (b := ruB rs) (T := 115) (ty := 0) (ik := .i64) (id := 0) (off := 0) (q := 0) (len := rs.length) (c := c) (j := i) (s := 11) hi,
    Rx.ld 8 4 (T := 68) (ty := 0) (id := 0) (off := 0 + i * 11) (q := 0) (k := 11) (b := ruB rs) (vs := ruL rs[i]) (by show _ ≤ (rs.flatMap ruL).length; rw [flat_len ruL_len]; have := fit_le (c := 11) hi; omega) (by rw [Nat.zero_add]; exact cut_flat ruL_len rs i hi),
    Rx.calls 9 4 0 (hp rs[i] (List.getElem_mem hi)) hg, Rx.no 10 hno, Rx.is 11 (x := .int .i64 (IntKind.wrap .i64 ((i : Int) + 1))) (y := .int .i64 ((i + 1 : Nat) : Int)) (by rw [Value.int.injEq]; exact ⟨rfl, wrap_next (by omega)⟩)]
theorem kx_hit (hg : hasBody Tryz.prog g = true) (hp : ∀ r ∈ rs, CallJ Tryz.prog A g [.agg (ruL r).toArray, ptr 1, ptr 2] [(1, b1), (2, b2), (3, b3)] 4 (.bool (p r)) [(1, b1), (2, b2), (3, b3)] 4) (hn : rs.length ≤ 1000) (i : Nat) (hi : i < rs.length) (hno : p rs[i] = true) :
    CodeJ Tryz.prog A (loopOf Tryz.prog 103) 19 (kxV rs c g i) (kxM rs b1 b2 b3) 4 .ret [(4, .int .i64 (i : Int))] (kxM rs b1 b2 b3) 4 :=
  Rx.code [Rx.isT 0 (b := decide ((i : Int) < (rs.length : Int))) (by simpa using hi), Rx.idx 7 4 (b := ruB rs) (T := 115) (ty := 0) (ik := .i64) (id := 0) (off := 0) (q := 0) (len := rs.length) (c := c) (j := i) (s := 11) hi,
    Rx.ld 8 4 (T := 68) (ty := 0) (id := 0) (off := 0 + i * 11) (q := 0) (k := 11) (b := ruB rs) (vs := ruL rs[i]) (by show _ ≤ (rs.flatMap ruL).length; rw [flat_len ruL_len]; have := fit_le (c := 11) hi; omega) (by rw [Nat.zero_add]; exact cut_flat ruL_len rs i hi),
    Rx.calls 9 4 0 (hp rs[i] (List.getElem_mem hi)) hg, Rx.yes 10 hno]
theorem kx_end : CodeJ Tryz.prog A (loopOf Tryz.prog 103) 19 (kxV rs c g rs.length) (kxM rs b1 b2 b3) 4 (.ex 0) [] (kxM rs b1 b2 b3) 4 :=
  Rx.code [Rx.isF 0 (b := decide ((rs.length : Int) < (rs.length : Int))) (by simp)]
/-- the first that fits -/
theorem kx_yes (hg : hasBody Tryz.prog g = true) (hp : ∀ r ∈ rs, CallJ Tryz.prog A g [.agg (ruL r).toArray, ptr 1, ptr 2] [(1, b1), (2, b2), (3, b3)] 4 (.bool (p r)) [(1, b1), (2, b2), (3, b3)] 4) (hn : rs.length ≤ 1000) (k : Nat) (hk : k < rs.length) (hno : ∀ j (hj : j < k), p (rs[j]'(by omega)) = false) (hy : p rs[k] = true) :
    CallJ Tryz.prog A 103 [.slice (some ⟨0, 0, some 0⟩) rs.length c, .func (.func g) #[] #[ptr 1, ptr 2]] (kxM rs b1 b2 b3) 4 (.int .i64 (k : Int)) (kxM rs b1 b2 b3) 4 :=
  Rx.con [Rx.loops 4 4 0 (loopJ (kxV rs c g) (fun _ => kxM rs b1 b2 b3) k (fun i hi => kx_on hg hp hn i (by omega) (hno i hi)) (d := 0) (kx_hit hg hp hn k hk hy))]
theorem kx_no (hg : hasBody Tryz.prog g = true) (hp : ∀ r ∈ rs, CallJ Tryz.prog A g [.agg (ruL r).toArray, ptr 1, ptr 2] [(1, b1), (2, b2), (3, b3)] 4 (.bool (p r)) [(1, b1), (2, b2), (3, b3)] 4) (hn : rs.length ≤ 1000) (hno : ∀ r ∈ rs, p r = false) :
    CallJ Tryz.prog A 103 [.slice (some ⟨0, 0, some 0⟩) rs.length c, .func (.func g) #[] #[ptr 1, ptr 2]] (kxM rs b1 b2 b3) 4 (.int .i64 (-1)) (kxM rs b1 b2 b3) 4 :=
  Rx.con [Rx.loops 4 4 0 (loopJ (kxV rs c g) (fun _ => kxM rs b1 b2 b3) rs.length (fun i hi => kx_on hg hp hn i hi (hno _ (List.getElem_mem hi))) (d := 0) kx_end)]
theorem kx_at {f : FuncId} {gv v : Value} {n : Nat} (h : CallJ Tryz.prog A f [.slice (some ⟨0, 0, some 0⟩) rs.length c, gv] (kxM rs b1 b2 b3) 4 v (kxM rs b1 b2 b3) 4) (τ : List Nat) (hl : τ.length = 4 := by kernel_rfl) (hnd : τ.all (fun j => Nat.blt j n) = true := by kernel_rfl) (hn : τ.Nodup := by decide)
    (h1 : inV 4 gv = true := by kernel_rfl) (h2 : b1.1.all (inC 4) = true := by kernel_rfl) (h3 : b2.1.all (inC 4) = true := by kernel_rfl) (h3' : b3.1.all (inC 4) = true := by kernel_rfl) (h4 : inV 4 v = true := by kernel_rfl) :
    CallJ Tryz.prog A f ([Value.slice (some ⟨0, 0, some 0⟩) rs.length c, gv].map (idV (sig τ n))) [(sig τ n 0, ruB rs), idB (sig τ n) (1, b1), idB (sig τ n) (2, b2), idB (sig τ n) (3, b3)] n (idV (sig τ n) v) [(sig τ n 0, ruB rs), idB (sig τ n) (1, b1), idB (sig τ n) (2, b2), idB (sig τ n) (3, b3)] n := by
  have hb : inBlks 4 (kxM rs b1 b2 b3) = true := by
    simp only [inBlks, List.all_cons, List.all_nil, all_flat (p := inC 4) (f := ruL) (fun _ => rfl), h2, h3, h3']
    rfl
  have hm : (kxM rs b1 b2 b3).map (idB (sig τ n)) = [(sig τ n 0, ruB rs), idB (sig τ n) (1, b1), idB (sig τ n) (2, b2), idB (sig τ n) (3, b3)] := by
    show [(sig τ n 0, (rs.flatMap ruL).map (id0 (sig τ n)), _), _, _, _] = _
    rw [flat_id (f := ruL) (fun _ => rfl)]
  have := h.at (d := 0) τ n (hl := hl) (hnd := hnd) (hn := hn) (h1 := by simp only [List.all_cons, List.all_nil, h1]; rfl) (h2 := hb) (h3 := h4) (h4 := hb)
  rwa [hm] at this
/-! ### Add, at the end -/
@[reducible] def taB (o ip b : Int) (v : Value) : Blk := ([.bool true, .int .u32 o, .int .u32 ip, .int .i64 b, v], 130, false)
theorem chk_J (o ip b : Int) (v : Value) (r : Rule) (hip : 0 ≤ ip ∧ ip ≤ 4294967295) (hr : r.Ok) (hv : inC 2 v = true := by kernel_rfl) : CallJ Tryz.prog A 93 [ptr 0, .agg (ruL r).toArray] [(0, taB o ip b v)] 2 (.int .i64 (chq ip b r)) [(0, taB o ip b v)] 2 := by
  rw [← check_val o ip b v r]
  exact rx_Check o ip b v r.k r.p r.sa r.sb r.da r.db r.e r.f r.t r.ia r.ip hip hr hv
theorem adc_J (o ip b : Int) (n c : Nat) (x r : Rule) : CallJ Tryz.prog A 94 [.agg (ruL x).toArray, ptr 1, ptr 2] [(1, ([ptr 3], 48, false)), (2, (ruL r, 68, false)), (3, taB o ip b (.slice (some ⟨0, 0, some 0⟩) n c))] 4 (.bool (clq (whoR o x) (whoR o r))) [(1, ([ptr 3], 48, false)), (2, (ruL r, 68, false)), (3, taB o ip b (.slice (some ⟨0, 0, some 0⟩) n c))] 4 := by
  rw [← add1_val o ip b n c x r]
  exact rx_Add1 o ip b n c _ _ _ _ _ _ _ _ _ _ _ _ _ _ _ _ _ _ _ _ _ _
theorem flat_snoc (rs : List Rule) (r : Rule) : rs.flatMap ruL ++ ruL r = (rs ++ [r]).flatMap ruL := by rw [List.flatMap_append, List.flatMap_cons, List.flatMap_nil, List.append_nil]
end Go.Proofs.YtilfcikhipadpaaGreatDoor
end

section
/- rules: Add, by the executor: all its ends. -/
set_option linter.unusedVariables false
set_option linter.unusedSimpArgs false
namespace Go.Proofs.YtilfcikhipadpaaGreatDoor
open Go.RowKit Go.Lib Rx
variable {A : Amb} {rs : List Rule}
theorem find_cases (p : Rule → Bool) : ∀ rs : List Rule, (∃ k, ∃ hk : k < rs.length, (∀ j (hj : j < k), p (rs[j]'(by omega)) = false) ∧ p rs[k] = true ∧ rs.find? p = some rs[k] ∧ rs.any p = true) ∨ ((∀ r ∈ rs, p r = false) ∧ rs.find? p = none ∧ rs.any p = false)
  | [] => .inr ⟨(fun r h => by cases h), rfl, rfl⟩
  | x :: l => by
    cases hx : p x
    · rcases find_cases p l with ⟨k, hk, h1, h2, h3, h4⟩ | ⟨h1, h2, h3⟩
      · refine .inl ⟨k + 1, by simp; omega, fun j hj => ?_, by simpa using h2, by simp [hx, h3], by simp [hx]; simpa using h4⟩
        cases j with
        | zero => simpa using hx
        | succ j => simpa using h1 j (by omega)
      · refine .inr ⟨fun r hr => ?_, by simp [hx]; simpa using h2, by simp [hx]; simpa using h3⟩
        rcases List.mem_cons.1 hr with rfl | hr
        · exact hx
        · exact h1 r hr
    · exact .inl ⟨0, by simp, fun j hj => absurd hj (Nat.not_lt_zero j), by simpa using hx, by simp [hx], by simp [hx]⟩
@[reducible] def taM (o ip b : Int) (rs : List Rule) : List (Nat × Blk) := [(0, taB o ip b (.slice (some ⟨1, 0, some 0⟩) rs.length 0)), (1, ruB rs)]
theorem taM_in (o ip b : Int) (rs : List Rule) : inBlks 2 (taM o ip b rs) = true := by
  simp only [inBlks, List.all_cons, List.all_nil, all_flat (p := inC 2) (f := ruL) (fun _ => rfl)]
  rfl
theorem add_clash (o ip b : Int) (r : Rule) (hip : 0 ≤ ip ∧ ip ≤ 4294967295) (hr : r.Ok) (hc : mayR ip b r = true) (hl : ¬ 32 ≤ rs.length) (hx : (rs.any fun x => clq (whoR o x) (whoR o r)) = true) : CallJ Tryz.prog A 42 [ptr 0, .int .i64 (rs.length : Int), .agg (ruL r).toArray] (taM o ip b rs) 2 (.int .i64 11) (taM o ip b rs) 2 := by
  have h2 : chq ip b r = 0 := by unfold chq; rw [if_pos hc]
  have k := (chk_J (A := A) o ip b (.slice (some ⟨1, 0, some 0⟩) rs.length 0) r hip hr).up (n := 4)
  rw [h2] at k
  rcases find_cases (fun x => clq (whoR o x) (whoR o r)) rs with ⟨j, hj, q1, q2, _, _⟩ | ⟨_, _, q3⟩
  · exact (con (nx' := 4) [calls 5 4 0 k, no 22 (b := bif decide ((rs.length : Int) < 0) then true else decide ((rs.length : Int) > rs.length)) (by simp), no 30 (b := decide ((rs.length : Int) ≥ 32)) (by simp; omega),
      calls 39 4 0 (kx_at (n := 4) (kx_yes (c := 0) (p := fun x => clq (whoR o x) (whoR o r)) (g := 94) (by kernel_rfl) (fun x _ => adc_J o ip b rs.length 0 x r) (by omega) j hj q1 q2) [1, 2, 3, 0]), yes 44 (b := decide ((j : Int) ≥ 0)) (by simp)]).drop (h2 := taM_in o ip b rs) (h4 := taM_in o ip b rs)
  · rw [q3] at hx; cases hx
theorem add_yes (o ip b : Int) (r : Rule) (hip : 0 ≤ ip ∧ ip ≤ 4294967295) (hr : r.Ok) (hc : mayR ip b r = true) (hl : ¬ 32 ≤ rs.length) (hx : (rs.any fun x => clq (whoR o x) (whoR o r)) = false) : CallJ Tryz.prog A 42 [ptr 0, .int .i64 (rs.length : Int), .agg (ruL r).toArray] (taM o ip b rs) 2 (.int .i64 0) [(0, taB o ip b (.slice (some ⟨2, 0, some 0⟩) (rs ++ [r]).length 0)), (2, ruB (rs ++ [r]))] 3 := by
  have h2 : chq ip b r = 0 := by unfold chq; rw [if_pos hc]
  have k := (chk_J (A := A) o ip b (.slice (some ⟨1, 0, some 0⟩) rs.length 0) r hip hr).up (n := 4)
  rw [h2] at k
  rcases find_cases (fun x => clq (whoR o x) (whoR o r)) rs with ⟨j, hj, q1, q2, _, q3⟩ | ⟨q1, _, _⟩
  · rw [q3] at hx; cases hx
  have hL : (rs.flatMap ruL).length = rs.length * 11 := flat_len ruL_len rs
  have h := con (A := A) (P := Tryz.prog) (f := 42) (args := [ptr 0, .int .i64 (rs.length : Int), .agg (ruL r).toArray]) (sn := taM o ip b rs) (nx := 2) (v := .int .i64 0) (out := [(0, taB o ip b (.slice (some ⟨5, 0, some 0⟩) (rs.length + 1) 0)), (5, (rs.flatMap ruL ++ ruL r, 68, true))]) (nx' := 6)
    [calls 5 4 0 k, no 22 (b := bif decide ((rs.length : Int) < 0) then true else decide ((rs.length : Int) > rs.length)) (by simp), no 30 (b := decide ((rs.length : Int) ≥ 32)) (by simp; omega),
      calls 39 4 0 (kx_at (n := 4) (kx_no (c := 0) (p := fun x => clq (whoR o x) (whoR o r)) (g := 94) (by kernel_rfl) (fun x _ => adc_J o ip b rs.length 0 x r) (by omega) q1) [1, 2, 3, 0]), slE 56 5 (T := 115) (ty := 115) (e := 68) (s := 11) (id := 1) (k := rs.length) hL, yes 69 (b := (rs.length : Int) == (rs.length : Int)) (by simp),
      ap 72 5 (sT := 115) (xT := 115) (ty := 115) (e := 68) (e3 := 68) (s := 11) (id := 1) (j := 4) (m := rs.length) (k := 1) (q2 := 1) (c2 := 1) (e2 := 68) (r2 := true) (new := ruL r) hL rfl rfl ⟨by omega, by omega⟩ (by omega)]
  have hn : rs.length + 1 = (rs ++ [r]).length := by simp
  rw [flat_snoc, hn] at h
  have := h.re (d := 4) [5] (h4 := by
    simp only [liveB, List.all_cons, List.all_nil, all_flat (p := in0 (live [5] 2)) (f := ruL) (fun _ => rfl)]
    rfl) (h2 := taM_in o ip b rs)
  refine this.eq rfl ?_
  simp only [List.map_cons, List.map_nil, idB, flat_id (f := ruL) (fun _ => rfl)]
  rfl
/-! ### of a table without rules -/
@[reducible] def naM (o ip b : Int) : List (Nat × Blk) := [(0, taB o ip b (.slice none 0 0))]
theorem add0_no (o ip b : Int) (r : Rule) (hip : 0 ≤ ip ∧ ip ≤ 4294967295) (hr : r.Ok) (hc : ¬ mayR ip b r = true) : CallJ Tryz.prog A 42 [ptr 0, .int .i64 0, .agg (ruL r).toArray] (naM o ip b) 2 (.int .i64 2) (naM o ip b) 2 := by
  have k := (chk_J (A := A) o ip b (.slice none 0 0) r hip hr).up (n := 4)
  rw [show chq ip b r = 2 by unfold chq; rw [if_neg hc]] at k
  exact (con (nx' := 4) [calls 5 4 0 k]).drop
end Go.Proofs.YtilfcikhipadpaaGreatDoor
end

section
/- rules: what a table tells, by the executor. -/
set_option linter.unusedVariables false
set_option linter.unusedSimpArgs false
namespace Go.Proofs.YtilfcikhipadpaaGreatDoor
open Go.RowKit Go.Lib Rx
variable {A : Amb} {rs : List Rule} {M : List (Nat × Blk)} {o ip b : Int}
/-- a table in blocks -/
def IsTab (o ip b : Int) (rs : List Rule) (M : List (Nat × Blk)) : Prop := (rs = [] ∧ M = naM o ip b) ∨ M = taM o ip b rs
theorem IsTab.in_ (h : IsTab o ip b rs M) : inBlks 2 M = true := by
  rcases h with ⟨_, rfl⟩ | rfl
  · rfl
  · exact taM_in o ip b rs
theorem inner_u (h : IsTab o ip b rs M) (hip : 0 ≤ ip ∧ ip ≤ 4294967295) (a : Int) (ha : 0 ≤ a ∧ a ≤ 4294967295) (n : Nat) (h2 : 2 ≤ n := by decide) : CallJ Tryz.prog A 20 [ptr 0, .int .u32 a] M n (.bool (hasP ip b a)) M n := by
  refine CallJ.up ?_ h2 (h2 := h.in_)
  rcases h with ⟨rfl, rfl⟩ | rfl
  · exact con [hE 21 ip b a hip ha]
  · exact con [hE 21 ip b a hip ha]
end Go.Proofs.YtilfcikhipadpaaGreatDoor
end
