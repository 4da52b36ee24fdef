/- Several texts of this claim, one behind the other. -/
import Derived.KernelRfl
import Derived.Test.YtilfcikhipadpaaGreatDoorK25c
import Derived.Test.YtilfcikhipadpaaGreatDoorProg

section
/- Numbers: what wraps and parts of bytes come to. No program. -/
set_option linter.unusedVariables false
set_option linter.unusedSimpArgs false
namespace Go.Proofs.YtilfcikhipadpaaGreatDoor
open Go.RowKit Go.Lib
theorem and15 {x : Int} (h : 0 ≤ x ∧ x ≤ 255) : bits .and .u8 x 15 = x % 16 := by
  have key : ∀ i : Fin 256, bits .and .u8 (i.val : Nat) 15 = ((i.val : Nat) : Int) % 16 := by decide +kernel
  have := key ⟨x.toNat, by omega⟩
  rwa [show ((x.toNat : Nat) : Int) = x by omega] at this
theorem shr4 {x : Int} (h : 0 ≤ x ∧ x ≤ 255) : x.fdiv (2 ^ min (Int.toNat 4) IntKind.u8.bits) = x / 16 := by
  show x.fdiv 16 = x / 16
  rw [Int.fdiv_eq_ediv_of_nonneg _ (by decide)]
theorem wrap64_id {x : Int} (h : -9223372036854775808 ≤ x ∧ x ≤ 9223372036854775807) : IntKind.i64.wrap x = x := by
  unfold IntKind.wrap
  simp [IntKind.bits, IntKind.signed]
  omega
theorem wrap16_id {x : Int} (h : 0 ≤ x ∧ x ≤ 65535) : IntKind.u16.wrap x = x := by
  unfold IntKind.wrap
  simp [IntKind.bits, IntKind.signed]
  omega
theorem wrap8_id {x : Int} (h : 0 ≤ x ∧ x ≤ 255) : IntKind.u8.wrap x = x := by
  unfold IntKind.wrap
  simp [IntKind.bits, IntKind.signed]
  omega
theorem and8191 {v : Int} (h : 0 ≤ v ∧ v ≤ 65535) : bits .and .u16 v 8191 = v % 8192 := bits_mask .u16 16 (by decide) (fun n h0 h1 => wrap16_id (by omega)) 13 (by decide) v h.1 (by omega)
end Go.Proofs.YtilfcikhipadpaaGreatDoor
end

section
/- Events: strings: a byte, a part, one behind the other. No program. -/
set_option linter.unusedVariables false
set_option linter.unusedSimpArgs false
namespace Go.Proofs.YtilfcikhipadpaaGreatDoor
open Go.RowKit Go.Lib
namespace Rx
variable {P : Program} {A : Amb}
theorem asInt_run (k : IntKind) (i : Int) (W : World) : (asIntOf (.int k i)).run P W = .ok (k, i) W := rfl
theorem at_get {s : ByteArray} {i : Nat} (hi : i < s.size) : at_ (L s) i = ((s[i]'hi).toNat : Int) := by
  unfold at_ L
  have hd : i < s.data.size := hi
  rw [List.getD_eq_getElem?_getD, List.getElem?_eq_getElem (by simpa using hd), Option.getD_some]
  rfl
theorem sx_run {T : TypeId} {s : ByteArray} {kk : IntKind} {i : Int} (hu : P.underlying T = some .string) (h0 : 0 ≤ i) (h : i < s.size) (W : World) :
    ((Instr.index T (.string s) (.int kk i)) >>= fun v => (pure (Next.value v) : Sem Next)).run P W = .ok (.value (.int .u8 (at_ (L s) i.toNat))) W := by
  have hi : i.toNat < s.size := by omega
  have h1 : (Instr.index T (.string s) (.int kk i)).run P W = .ok (.int .u8 (at_ (L s) i.toNat)) W := by
    unfold Instr.index
    rw [run_bind_ok (asInt_run kk i W), run_bind_ok (run_underlying hu W)]
    simp only [h0, if_true]
    have e : s[i.toNat]? = some (s[i.toNat]'hi) := by simp [hi]
    rw [e]
    have : at_ (L s) i.toNat = ((s[i.toNat]'hi).toNat : Int) := by exact at_get hi
    rw [this]
    rfl
  rw [run_bind_ok h1]
  rfl
def sx (n : Nat) (T : TypeId) (kk : IntKind) (s : ByteArray) (i : Int) (h0 : 0 ≤ i := by as_aux_lemma => omega) (h : i < s.size := by as_aux_lemma => omega) (hu : P.underlying T = some .string := by kernel_rfl) : Ev P A := gives n fun W _ => sx_run (T := T) (s := s) (kk := kk) (i := i) hu h0 h W
theorem sbound_run {P : Program} {k : IntKind} {i : Int} {y : Nat} {code : BoundsCode} (h : 0 ≤ i ∧ i ≤ y) (W : World) : (Instr.sliceBound (.int k i) y code).run P W = .ok i.toNat W := by
  unfold Instr.sliceBound
  rw [run_bind_ok (asInt_run k i W)]
  simp only [h, and_self, if_true]
  rfl
theorem sl_run {T : TypeId} {s : ByteArray} {lo hi : Option (IntKind × Int)} {l h : Nat} (hu : P.underlying T = some .string) (hh : match hi with | none => h = s.size | some p => 0 ≤ p.2 ∧ p.2 ≤ s.size ∧ h = p.2.toNat) (hl : match lo with | none => l = 0 | some p => 0 ≤ p.2 ∧ p.2 ≤ h ∧ l = p.2.toNat) (W : World) :
    ((Instr.sliceAt T (.string s) (lo.map fun p => Value.int p.1 p.2) (hi.map fun p => Value.int p.1 p.2) none) >>= fun v => (pure (Next.value v) : Sem Next)).run P W = .ok (.value (.string (s.extract l h))) W := by
  have h1 : (Instr.sliceAt T (.string s) (lo.map fun p => Value.int p.1 p.2) (hi.map fun p => Value.int p.1 p.2) none).run P W = .ok (.string (s.extract l h)) W := by
    unfold Instr.sliceAt
    rw [run_bind_ok (run_underlying hu W)]
    show (Instr.slice T _ _ _ _).run P W = _
    unfold Instr.slice
    rw [run_bind_ok (run_underlying hu W)]
    have hb : (Instr.sliceBounds false s.size s.size (lo.map fun p => Value.int p.1 p.2) (hi.map fun p => Value.int p.1 p.2) none).run P W = .ok (l, h, s.size) W := by
      cases hi with
      | none =>
        simp only at hh; subst hh
        cases lo with
        | none => simp only at hl; subst hl; rfl
        | some p =>
          simp only at hl
          obtain ⟨h3, h4, rfl⟩ := hl
          show (Instr.sliceBound (.int p.1 p.2) s.size .sliceB >>= fun l => (pure (l, s.size, s.size) : Sem (Nat × Nat × Nat))).run P W = _
          exact run_bind_ok (sbound_run ⟨h3, h4⟩ W)
      | some q =>
        simp only at hh
        obtain ⟨h5, h6, rfl⟩ := hh
        cases lo with
        | none =>
          simp only at hl; subst hl
          show (Instr.sliceBound (.int q.1 q.2) s.size .sliceAlen >>= fun h => (pure (0, h, s.size) : Sem (Nat × Nat × Nat))).run P W = _
          exact run_bind_ok (sbound_run ⟨h5, h6⟩ W)
        | some p =>
          simp only at hl
          obtain ⟨h3, h4, rfl⟩ := hl
          show (Instr.sliceBound (.int q.1 q.2) s.size .sliceAlen >>= fun h => Instr.sliceBound (.int p.1 p.2) h .sliceB >>= fun l => (pure (l, h, s.size) : Sem (Nat × Nat × Nat))).run P W = _
          rw [run_bind_ok (sbound_run ⟨h5, h6⟩ W)]
          exact run_bind_ok (sbound_run ⟨h3, h4⟩ W)
    exact run_bind_ok hb
  rw [run_bind_ok h1]
  rfl
/-- s[l:h], s[l:], s[:h] -/
def sLH (n : Nat) (T : TypeId) (k1 k2 : IntKind) (s : ByteArray) (l h : Int) (h0 : 0 ≤ l := by as_aux_lemma => omega) (h1 : l ≤ h := by as_aux_lemma => omega) (h2 : h ≤ s.size := by as_aux_lemma => omega) (hu : P.underlying T = some .string := by kernel_rfl) : Ev P A := gives n fun W _ => sl_run (T := T) (s := s) (lo := some (k1, l)) (hi := some (k2, h)) (l := l.toNat) (h := h.toNat) hu ⟨by show 0 ≤ h; omega, h2, rfl⟩ ⟨h0, by show l ≤ (h.toNat : Int); omega, rfl⟩ W
def sL (n : Nat) (T : TypeId) (k1 : IntKind) (s : ByteArray) (l : Int) (h0 : 0 ≤ l := by as_aux_lemma => omega) (h1 : l ≤ s.size := by as_aux_lemma => omega) (hu : P.underlying T = some .string := by kernel_rfl) : Ev P A := gives n fun W _ => sl_run (T := T) (s := s) (lo := some (k1, l)) (hi := none) (l := l.toNat) (h := s.size) hu rfl ⟨h0, h1, rfl⟩ W
def sH (n : Nat) (T : TypeId) (k2 : IntKind) (s : ByteArray) (h : Int) (h1 : 0 ≤ h := by as_aux_lemma => omega) (h2 : h ≤ s.size := by as_aux_lemma => omega) (hu : P.underlying T = some .string := by kernel_rfl) : Ev P A := gives n fun W _ => sl_run (T := T) (s := s) (lo := none) (hi := some (k2, h)) (l := 0) (h := h.toNat) hu ⟨h1, h2, rfl⟩ rfl W
theorem cat_run {T : TypeId} {x y : Operand} {a b : ByteArray} (h : a.size + b.size ≤ 281474976710656) (W : World) :
    ((eqGuard .add T x y (.string a) (.string b) >>= fun _ => binOp .add T (.string a) (.string b)) >>= fun v => (pure (Next.value v) : Sem Next)).run P W = .ok (.value (.string (a ++ b))) W := by
  have h1 : (eqGuard .add T x y (.string a) (.string b) >>= fun _ => binOp .add T (.string a) (.string b)).run P W = .ok (.string (a ++ b)) W := by
    show (Op.stringOp .add a b).run P W = _
    unfold Op.stringOp
    simp only
    rw [if_neg (by show ¬ ((a.size + b.size : Nat) : Int) > 9223372036854775807; omega)]
    rfl
  rw [run_bind_ok h1]
  rfl
/-- a + b -/
def cat (n : Nat) (T : TypeId) (a b : ByteArray) (h : a.size + b.size ≤ 281474976710656 := by as_aux_lemma => omega) : Ev P A := gives n fun W _ => cat_run (T := T) (x := .tmp 1) (y := .tmp 2) (a := a) (b := b) h W
/-- a number by another name -/
def isI (n : Nat) (k : IntKind) {x y : Int} (h : x = y) : Ev P A := is n (congrArg (Value.int k) h)
/-- a text by another name -/
def isS (n : Nat) {x y : ByteArray} (h : x = y) : Ev P A := is n (congrArg Value.string h)
end Rx
end Go.Proofs.YtilfcikhipadpaaGreatDoor
end

section
/- All ways: printed (gen/mk.py, gen/emi.spec.py). -/
set_option linter.unusedVariables false
set_option linter.unusedSimpArgs false
namespace Go.Proofs.YtilfcikhipadpaaGreatDoor
open Go.RowKit Go.Lib Rx
def ei_1_v (x0 x1 x2 x3 x4 x5 x6 x8 xr a0 a1 a3 a4 a5 a6 r m0 m1 m2 : Int) (x7 a2 mk qa qi : Bool) (m4 : ByteArray) : Value := (bif (xr != 0) then (.tuple #[.agg #[.int .u8 0, .int .u32 0, .int .u16 0, .int .u32 0, .int .u16 0], .int .i64 xr]) else (bif (x5 != 3) then (.tuple #[.agg #[.int .u8 0, .int .u32 0, .int .u16 0, .int .u32 0, .int .u16 0], .int .i64 15]) else (bif (decide ((m4.size : Int) < 20)) then (.tuple #[.agg #[.int .u8 0, .int .u32 0, .int .u16 0, .int .u32 0, .int .u16 0], .int .i64 15]) else (bif (at_ (L m4) 0 / 16 != 4) then (.tuple #[.agg #[.int .u8 0, .int .u32 0, .int .u16 0, .int .u32 0, .int .u16 0], .int .i64 15]) else (bif (decide (emEnd (L m4) < 20)) then (.tuple #[.agg #[.int .u8 0, .int .u32 0, .int .u16 0, .int .u32 0, .int .u16 0], .int .i64 15]) else (bif (decide ((m4.size : Int) - 8 < emEnd (L m4))) then (.tuple #[.agg #[.int .u8 0, .int .u32 0, .int .u16 0, .int .u32 0, .int .u16 0], .int .i64 15]) else (bif (get16 (L m4) 6 % 8192 != 0) then (.tuple #[.agg #[.int .u8 0, .int .u32 0, .int .u16 0, .int .u32 0, .int .u16 0], .int .i64 15]) else (bif (at_ (L m4) 9 == 6) then (.tuple #[.agg #[.int .u8 (at_ (L m4) 9), .int .u32 (get32 (L m4) 12), .int .u16 (get16 (L m4) (emEnd (L m4))), .int .u32 (get32 (L m4) 16), .int .u16 (get16 (L m4) (emEnd (L m4) + 2))], .int .i64 0]) else (bif (at_ (L m4) 9 == 17) then (.tuple #[.agg #[.int .u8 (at_ (L m4) 9), .int .u32 (get32 (L m4) 12), .int .u16 (get16 (L m4) (emEnd (L m4))), .int .u32 (get32 (L m4) 16), .int .u16 (get16 (L m4) (emEnd (L m4) + 2))], .int .i64 0]) else (bif (at_ (L m4) 9 == 1) then (bif (qi) then (bif (qa) then (.tuple #[.agg #[.int .u8 (at_ (L m4) 9), .int .u32 (get32 (L m4) 12), .int .u16 (get16 (L m4) (emEnd (L m4) + 4)), .int .u32 (get32 (L m4) 16), .int .u16 0], .int .i64 0]) else (.tuple #[.agg #[.int .u8 (at_ (L m4) 9), .int .u32 (get32 (L m4) 12), .int .u16 0, .int .u32 (get32 (L m4) 16), .int .u16 (get16 (L m4) (emEnd (L m4) + 4))], .int .i64 0])) else (.tuple #[.agg #[.int .u8 0, .int .u32 0, .int .u16 0, .int .u32 0, .int .u16 0], .int .i64 15])) else (.tuple #[.agg #[.int .u8 0, .int .u32 0, .int .u16 0, .int .u32 0, .int .u16 0], .int .i64 6])))))))))))
theorem ei_1 (s : ByteArray) (w : World) (x0 x1 x2 x3 x4 x5 x6 x8 xr a0 a1 a3 a4 a5 a6 r m0 m1 m2 : Int) (x7 a2 mk qa qi : Bool) (a7 l m3 m4 : ByteArray) (hd : m4.size ≤ 140737488351232) (c1 : ∀ W, Below w.heap.size w W → Calls Tryz.prog 27 #[.string s] W (Ret (.tuple #[.agg #[.int .u8 x0, .int .u32 x1, .int .u16 x2, .int .u32 x3, .int .u16 x4, .int .i64 x5, .int .u8 x6, .bool x7, .int .u8 x8], .int .i64 xr]) W)) (c2 : ∀ W, Below w.heap.size w W → Calls Tryz.prog 74 #[.string s] W (Ret (.tuple #[.agg #[.int .u8 a0, .int .u16 a1, .bool a2, .int .u8 a3, .int .u8 a4, .int .u32 a5, .int .u32 a6, .string a7], .string l, .int .i64 r]) W)) (c3 : ∀ W, Below w.heap.size w W → Calls Tryz.prog 136 #[.string l] W (Ret (.tuple #[.agg #[.int .u8 m0, .int .u8 m1, .int .u16 m2, .string m3, .string m4], .bool mk]) W)) (c4 : ∀ W, Below w.heap.size w W → Calls Tryz.prog 182 #[.agg #[.int .u8 (at_ (L m4) (emEnd (L m4)).toNat), .int .u8 (at_ (L m4) (emEnd (L m4) + 1).toNat), .int .u16 0, .string { data := #[] }, .string { data := #[] }]] W (Ret (.tuple #[.bool qa, .bool qi]) W)) : Calls Tryz.prog 31 #[.string s] w (Ret (ei_1_v x0 x1 x2 x3 x4 x5 x6 x8 xr a0 a1 a3 a4 a5 a6 r m0 m1 m2 x7 a2 mk qa qi m4) w) := by
  unfold ei_1_v
  have hm : ∀ {a : ByteArray}, a.size ≤ 140737488351232 → a.size ≤ maxLen := fun h => by unfold maxLen; omega
  have b0 := at_bd (L m4) 0
  have b6 := get16_bd (L m4) 6
  have hE : 0 ≤ emEnd (L m4) ∧ emEnd (L m4) ≤ 60 := by unfold emEnd; omega
  have e1 := shr4 b0
  have e2 := and15 b0
  have e3 : IntKind.i64.wrap (at_ (L m4) 0 % 16) = at_ (L m4) 0 % 16 := wrap64_id (by omega)
  have e4 : IntKind.i64.wrap (at_ (L m4) 0 % 16 * 4) = emEnd (L m4) := wrap64_id (by omega)
  have e5 : IntKind.i64.wrap ((m4.size : Int) - 8) = (m4.size : Int) - 8 := wrap64_id (by omega)
  have e6 := and8191 b6
  have e7 : IntKind.i64.wrap (emEnd (L m4) + 2) = emEnd (L m4) + 2 := wrap64_id (by omega)
  have e8 : IntKind.i64.wrap (emEnd (L m4) + 1) = emEnd (L m4) + 1 := wrap64_id (by omega)
  have e9 : IntKind.i64.wrap (emEnd (L m4) + 4) = emEnd (L m4) + 4 := wrap64_id (by omega)
  let p1 : List (Ev Tryz.prog (Amb.of w)) := [does 7 (args := [.string s]) c1]
  cases h1 : (xr != 0)
  · have h1q := by simpa using h1
    let p2 : List (Ev Tryz.prog (Amb.of w)) := p1 ++ [no 17 h1]
    cases h2 : (x5 != 3)
    · have h2q := by simpa using h2
      let p3 : List (Ev Tryz.prog (Amb.of w)) := p2 ++ [no 22 h2, does 24 (args := [.string s]) c2, does 34 (args := [.string l]) c3]
      cases h3 : (decide ((m4.size : Int) < 20))
      · have h3q := of_decide_eq_false h3
        let p4 : List (Ev Tryz.prog (Amb.of w)) := p3 ++ [isF 53 h3, sx 55 9 .i64 m4 0, isI 56 .u8 e1]
        cases h4 : (at_ (L m4) 0 / 16 != 4)
        · have h4q := by simpa using h4
          let p5 : List (Ev Tryz.prog (Amb.of w)) := p4 ++ [no 59 h4, sx 62 9 .i64 m4 0, isI 63 .u8 e2, isI 64 .i64 e3, isI 65 .i64 e4]
          cases h5 : (decide (emEnd (L m4) < 20))
          · have h5q := of_decide_eq_false h5
            let p6 : List (Ev Tryz.prog (Amb.of w)) := p5 ++ [isF 74 h5, isI 77 .i64 e5]
            cases h6 : (decide ((m4.size : Int) - 8 < emEnd (L m4)))
            · have h6q := of_decide_eq_false h6
              let p7 : List (Ev Tryz.prog (Amb.of w)) := p6 ++ [isF 84 h6, does 94 (args := [.string m4, .int .i64 6]) fun W _ => Get16 m4 6 W (hm (by omega)) (by omega), isI 103 .u16 e6]
              cases h7 : (get16 (L m4) 6 % 8192 != 0)
              · have h7q := by simpa using h7
                let p8 : List (Ev Tryz.prog (Amb.of w)) := p7 ++ [no 106 h7, sx 109 9 .i64 m4 9, does 119 (args := [.string m4, .int .i64 12]) fun W _ => Get32 m4 12 W (hm (by omega)) (by omega), does 138 (args := [.string m4, .int .i64 16]) fun W _ => Get32 m4 16 W (hm (by omega)) (by omega)]
                cases h8 : (at_ (L m4) 9 == 6)
                · have h8q := by simpa using h8
                  let p9 : List (Ev Tryz.prog (Amb.of w)) := p8 ++ [no 159 h8]
                  cases h9 : (at_ (L m4) 9 == 17)
                  · have h9q := by simpa using h9
                    let p10 : List (Ev Tryz.prog (Amb.of w)) := p9 ++ [no 162 h9]
                    cases h10 : (at_ (L m4) 9 == 1)
                    · have h10q := by simpa using h10
                      exact run (args := [.string s]) (p10 ++ [no 165 h10])
                    · have h10q := by simpa using h10
                      let p11 : List (Ev Tryz.prog (Amb.of w)) := p10 ++ [yes 165 h10, sx 178 9 .i64 m4 (emEnd (L m4)), isI 188 .i64 e8, sx 189 9 .i64 m4 (emEnd (L m4) + 1), does 191 (args := [.agg #[.int .u8 (at_ (L m4) (emEnd (L m4)).toNat), .int .u8 (at_ (L m4) (emEnd (L m4) + 1).toNat), .int .u16 0, .string { data := #[] }, .string { data := #[] }]]) c4, isI 204 .i64 e9, does 211 (args := [.string m4, .int .i64 (emEnd (L m4) + 4)]) fun W _ => Get16 m4 (emEnd (L m4) + 4) W (hm (by omega)) (by omega)]
                      cases h11 : (qi)
                      · exact run (args := [.string s]) (p11 ++ [nyes 224 h11])
                      · let p12 : List (Ev Tryz.prog (Amb.of w)) := p11 ++ [nno 224 h11]
                        cases h12 : (qa)
                        · exact run (args := [.string s]) (p12 ++ [no 227 h12])
                        · exact run (args := [.string s]) (p12 ++ [yes 227 h12])
                  · have h9q := by simpa using h9
                    exact run (args := [.string s]) (p9 ++ [yes 162 h9, does 178 (args := [.string m4, .int .i64 (emEnd (L m4))]) fun W _ => Get16 m4 (emEnd (L m4)) W (hm (by omega)) (by omega), isI 194 .i64 e7, does 201 (args := [.string m4, .int .i64 (emEnd (L m4) + 2)]) fun W _ => Get16 m4 (emEnd (L m4) + 2) W (hm (by omega)) (by omega)])
                · have h8q := by simpa using h8
                  exact run (args := [.string s]) (p8 ++ [yes 159 h8, yes 160 h8, does 176 (args := [.string m4, .int .i64 (emEnd (L m4))]) fun W _ => Get16 m4 (emEnd (L m4)) W (hm (by omega)) (by omega), isI 192 .i64 e7, does 199 (args := [.string m4, .int .i64 (emEnd (L m4) + 2)]) fun W _ => Get16 m4 (emEnd (L m4) + 2) W (hm (by omega)) (by omega)])
              · have h7q := by simpa using h7
                exact run (args := [.string s]) (p7 ++ [yes 106 h7])
            · have h6q := of_decide_eq_true h6
              exact run (args := [.string s]) (p6 ++ [isT 84 h6])
          · have h5q := of_decide_eq_true h5
            exact run (args := [.string s]) (p5 ++ [isT 74 h5])
        · have h4q := by simpa using h4
          exact run (args := [.string s]) (p4 ++ [yes 59 h4])
      · have h3q := of_decide_eq_true h3
        exact run (args := [.string s]) (p3 ++ [isT 53 h3])
    · have h2q := by simpa using h2
      exact run (args := [.string s]) (p2 ++ [yes 22 h2])
  · have h1q := by simpa using h1
    exact run (args := [.string s]) (p1 ++ [yes 17 h1, yes 34 h1])
end Go.Proofs.YtilfcikhipadpaaGreatDoor
end

section
/- All ways: printed (gen/mk.py, gen/tup.spec.py). -/
set_option linter.unusedVariables false
set_option linter.unusedSimpArgs false
namespace Go.Proofs.YtilfcikhipadpaaGreatDoor
open Go.RowKit Go.Lib Rx
def tu_Of1_v (a0 a1 a3 a4 a5 a6 r g0 g1 g2 g3 g4 g5 g6 g7 g8 u0 u1 u2 u3 m0 m1 m2 mi : Int) (a2 gk uk mk qa qi qe : Bool) : Value := (bif (r == 0) then (bif (decide (a4 = 6)) then (bif (gk) then (bif (decide ((bits .and .u8 g5 23) = 2)) then (.tuple #[.agg #[.int .u8 a4, .int .u32 a5, .int .u16 g0, .int .u32 a6, .int .u16 g1, .int .i64 1, .int .u8 g5, .bool false, .int .u8 a3], .int .i64 0]) else (.tuple #[.agg #[.int .u8 a4, .int .u32 a5, .int .u16 g0, .int .u32 a6, .int .u16 g1, .int .i64 2, .int .u8 g5, .bool false, .int .u8 a3], .int .i64 0])) else (.tuple #[.agg #[.int .u8 0, .int .u32 0, .int .u16 0, .int .u32 0, .int .u16 0, .int .i64 0, .int .u8 0, .bool false, .int .u8 0], .int .i64 7])) else (bif (decide (a4 = 17)) then (bif (uk) then (.tuple #[.agg #[.int .u8 a4, .int .u32 a5, .int .u16 u0, .int .u32 a6, .int .u16 u1, .int .i64 2, .int .u8 0, .bool false, .int .u8 a3], .int .i64 0]) else (.tuple #[.agg #[.int .u8 0, .int .u32 0, .int .u16 0, .int .u32 0, .int .u16 0, .int .i64 0, .int .u8 0, .bool false, .int .u8 0], .int .i64 7])) else (bif (decide (a4 = 1)) then (bif (mk) then (bif (qa) then (.tuple #[.agg #[.int .u8 a4, .int .u32 a5, .int .u16 mi, .int .u32 a6, .int .u16 0, .int .i64 2, .int .u8 0, .bool true, .int .u8 a3], .int .i64 0]) else (bif (qi) then (.tuple #[.agg #[.int .u8 a4, .int .u32 a5, .int .u16 0, .int .u32 a6, .int .u16 mi, .int .i64 2, .int .u8 0, .bool false, .int .u8 a3], .int .i64 0]) else (bif (qe) then (.tuple #[.agg #[.int .u8 a4, .int .u32 a5, .int .u16 0, .int .u32 a6, .int .u16 0, .int .i64 3, .int .u8 0, .bool false, .int .u8 a3], .int .i64 0]) else (.tuple #[.agg #[.int .u8 0, .int .u32 0, .int .u16 0, .int .u32 0, .int .u16 0, .int .i64 0, .int .u8 0, .bool false, .int .u8 0], .int .i64 6])))) else (.tuple #[.agg #[.int .u8 0, .int .u32 0, .int .u16 0, .int .u32 0, .int .u16 0, .int .i64 0, .int .u8 0, .bool false, .int .u8 0], .int .i64 7])) else (.tuple #[.agg #[.int .u8 0, .int .u32 0, .int .u16 0, .int .u32 0, .int .u16 0, .int .i64 0, .int .u8 0, .bool false, .int .u8 0], .int .i64 6])))) else (.tuple #[.agg #[.int .u8 0, .int .u32 0, .int .u16 0, .int .u32 0, .int .u16 0, .int .i64 0, .int .u8 0, .bool false, .int .u8 0], .int .i64 r]))
theorem tu_Of1 (s : ByteArray) (w : World) (a0 a1 a3 a4 a5 a6 r g0 g1 g2 g3 g4 g5 g6 g7 g8 u0 u1 u2 u3 m0 m1 m2 mi : Int) (a2 gk uk mk qa qi qe : Bool) (a7 l g9 gr ur m3 m4 : ByteArray) (c1 : ∀ W, Below w.heap.size w W → Calls Tryz.prog 74 #[.string s] W (Ret (.tuple #[.agg #[.int .u8 a0, .int .u16 a1, .bool a2, .int .u8 a3, .int .u8 a4, .int .u32 a5, .int .u32 a6, .string a7], .string l, .int .i64 r]) W)) (c2 : ∀ W, Below w.heap.size w W → Calls Tryz.prog 179 #[.string l] W (Ret (.tuple #[.agg #[.int .u16 g0, .int .u16 g1, .int .u32 g2, .int .u32 g3, .int .u8 g4, .int .u8 g5, .int .u16 g6, .int .u16 g7, .int .u16 g8, .string g9], .string gr, .bool gk]) W)) (c3 : ∀ W, Below w.heap.size w W → Calls Tryz.prog 181 #[.string l] W (Ret (.tuple #[.agg #[.int .u16 u0, .int .u16 u1, .int .u16 u2, .int .u16 u3], .string ur, .bool uk]) W)) (c4 : ∀ W, Below w.heap.size w W → Calls Tryz.prog 136 #[.string l] W (Ret (.tuple #[.agg #[.int .u8 m0, .int .u8 m1, .int .u16 m2, .string m3, .string m4], .bool mk]) W)) (c5 : ∀ W, Below w.heap.size w W → Calls Tryz.prog 182 #[.agg #[.int .u8 m0, .int .u8 m1, .int .u16 m2, .string m3, .string m4]] W (Ret (.tuple #[.bool qa, .bool qi]) W)) (c6 : ∀ W, Below w.heap.size w W → Calls Tryz.prog 183 #[.agg #[.int .u8 m0, .int .u8 m1, .int .u16 m2, .string m3, .string m4]] W (Ret (.int .u16 mi) W)) (c7 : ∀ W, Below w.heap.size w W → Calls Tryz.prog 184 #[.agg #[.int .u8 m0, .int .u8 m1, .int .u16 m2, .string m3, .string m4]] W (Ret (.bool qe) W)) : Calls Tryz.prog 27 #[.string s] w (Ret (tu_Of1_v a0 a1 a3 a4 a5 a6 r g0 g1 g2 g3 g4 g5 g6 g7 g8 u0 u1 u2 u3 m0 m1 m2 mi a2 gk uk mk qa qi qe) w) := by
  unfold tu_Of1_v
  let p1 : List (Ev Tryz.prog (Amb.of w)) := [does 3 (args := [.string s]) c1]
  cases h1 : (r == 0)
  · exact run (args := [.string s]) (p1 ++ [nyes 14 h1])
  · let p2 : List (Ev Tryz.prog (Amb.of w)) := p1 ++ [nno 14 h1]
    cases h2 : (decide (a4 = 6))
    · let p3 : List (Ev Tryz.prog (Amb.of w)) := p2 ++ [no 32 h2]
      cases h3 : (decide (a4 = 17))
      · let p4 : List (Ev Tryz.prog (Amb.of w)) := p3 ++ [no 35 h3]
        cases h4 : (decide (a4 = 1))
        · exact run (args := [.string s]) (p4 ++ [no 38 h4])
        · let p5 : List (Ev Tryz.prog (Amb.of w)) := p4 ++ [yes 38 h4, does 45 (args := [.string l]) c4]
          cases h5 : (mk)
          · exact run (args := [.string s]) (p5 ++ [nyes 54 h5])
          · let p6 : List (Ev Tryz.prog (Amb.of w)) := p5 ++ [nno 54 h5, does 56 (args := [.agg #[.int .u8 m0, .int .u8 m1, .int .u16 m2, .string m3, .string m4]]) c5]
            cases h6 : (qa)
            · let p7 : List (Ev Tryz.prog (Amb.of w)) := p6 ++ [no 64 h6]
              cases h7 : (qi)
              · let p8 : List (Ev Tryz.prog (Amb.of w)) := p7 ++ [no 67 h7, does 69 (args := [.agg #[.int .u8 m0, .int .u8 m1, .int .u16 m2, .string m3, .string m4]]) c7]
                cases h8 : (qe)
                · exact run (args := [.string s]) (p8 ++ [no 71 h8])
                · exact run (args := [.string s]) (p8 ++ [yes 71 h8])
              · exact run (args := [.string s]) (p7 ++ [yes 67 h7, does 70 (args := [.agg #[.int .u8 m0, .int .u8 m1, .int .u16 m2, .string m3, .string m4]]) c6])
            · exact run (args := [.string s]) (p6 ++ [yes 64 h6, does 72 (args := [.agg #[.int .u8 m0, .int .u8 m1, .int .u16 m2, .string m3, .string m4]]) c6])
      · let p9 : List (Ev Tryz.prog (Amb.of w)) := p3 ++ [yes 35 h3, does 42 (args := [.string l]) c3]
        cases h9 : (uk)
        · exact run (args := [.string s]) (p9 ++ [nyes 53 h9])
        · exact run (args := [.string s]) (p9 ++ [nno 53 h9])
    · let p10 : List (Ev Tryz.prog (Amb.of w)) := p2 ++ [yes 32 h2, does 39 (args := [.string l]) c2]
      cases h10 : (gk)
      · exact run (args := [.string s]) (p10 ++ [nyes 50 h10])
      · let p11 : List (Ev Tryz.prog (Amb.of w)) := p10 ++ [nno 50 h10]
        cases h11 : (decide ((bits .and .u8 g5 23) = 2))
        · exact run (args := [.string s]) (p11 ++ [no 93 h11])
        · exact run (args := [.string s]) (p11 ++ [yes 93 h11])
def o_Of1_v (a0 a1 a3 a4 a5 a6 r g0 g1 g2 g3 g4 g5 g6 g7 g8 u0 u1 u2 u3 m0 m1 m2 mi : Int) (a2 gk uk mk qa qi qe : Bool) : Value := (bif (r == 0) then (bif (decide (a4 = 6)) then (bif (gk) then (bif (decide ((bits .and .u8 g5 23) = 2)) then (.tuple #[.agg #[.int .u8 a4, .int .u32 a5, .int .u16 g0, .int .u32 a6, .int .u16 g1, .int .i64 1, .int .u8 g5, .bool false, .int .u8 a3], .int .i64 0]) else (.tuple #[.agg #[.int .u8 a4, .int .u32 a5, .int .u16 g0, .int .u32 a6, .int .u16 g1, .int .i64 2, .int .u8 g5, .bool false, .int .u8 a3], .int .i64 0])) else (.tuple #[.agg #[.int .u8 0, .int .u32 0, .int .u16 0, .int .u32 0, .int .u16 0, .int .i64 0, .int .u8 0, .bool false, .int .u8 0], .int .i64 7])) else (bif (decide (a4 = 17)) then (bif (uk) then (.tuple #[.agg #[.int .u8 a4, .int .u32 a5, .int .u16 u0, .int .u32 a6, .int .u16 u1, .int .i64 2, .int .u8 0, .bool false, .int .u8 a3], .int .i64 0]) else (.tuple #[.agg #[.int .u8 0, .int .u32 0, .int .u16 0, .int .u32 0, .int .u16 0, .int .i64 0, .int .u8 0, .bool false, .int .u8 0], .int .i64 7])) else (bif (decide (a4 = 1)) then (bif (mk) then (bif (qa) then (bif (qi) then (.tuple #[.agg #[.int .u8 a4, .int .u32 a5, .int .u16 mi, .int .u32 a6, .int .u16 0, .int .i64 2, .int .u8 0, .bool true, .int .u8 a3], .int .i64 0]) else (bif (qe) then (.tuple #[.agg #[.int .u8 a4, .int .u32 a5, .int .u16 0, .int .u32 a6, .int .u16 0, .int .i64 3, .int .u8 0, .bool true, .int .u8 a3], .int .i64 0]) else (.tuple #[.agg #[.int .u8 0, .int .u32 0, .int .u16 0, .int .u32 0, .int .u16 0, .int .i64 0, .int .u8 0, .bool false, .int .u8 0], .int .i64 6]))) else (bif (qi) then (.tuple #[.agg #[.int .u8 a4, .int .u32 a5, .int .u16 0, .int .u32 a6, .int .u16 mi, .int .i64 2, .int .u8 0, .bool false, .int .u8 a3], .int .i64 0]) else (bif (qe) then (.tuple #[.agg #[.int .u8 a4, .int .u32 a5, .int .u16 0, .int .u32 a6, .int .u16 0, .int .i64 3, .int .u8 0, .bool false, .int .u8 a3], .int .i64 0]) else (.tuple #[.agg #[.int .u8 0, .int .u32 0, .int .u16 0, .int .u32 0, .int .u16 0, .int .i64 0, .int .u8 0, .bool false, .int .u8 0], .int .i64 6])))) else (.tuple #[.agg #[.int .u8 0, .int .u32 0, .int .u16 0, .int .u32 0, .int .u16 0, .int .i64 0, .int .u8 0, .bool false, .int .u8 0], .int .i64 7])) else (.tuple #[.agg #[.int .u8 0, .int .u32 0, .int .u16 0, .int .u32 0, .int .u16 0, .int .i64 0, .int .u8 0, .bool false, .int .u8 0], .int .i64 6])))) else (.tuple #[.agg #[.int .u8 0, .int .u32 0, .int .u16 0, .int .u32 0, .int .u16 0, .int .i64 0, .int .u8 0, .bool false, .int .u8 0], .int .i64 r]))
end Go.Proofs.YtilfcikhipadpaaGreatDoor
end
