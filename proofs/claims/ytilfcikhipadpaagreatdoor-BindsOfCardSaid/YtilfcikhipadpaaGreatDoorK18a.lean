/- Several texts of this claim, one behind the other. -/
import Derived.Test.YtilfcikhipadpaaGreatDoorK17a

section
/- tcp.halves over this program: numbers of two bytes, into a struct's cells. -/
set_option linter.unusedVariables false
namespace Go.Proofs.YtilfcikhipadpaaGreatDoor
open Go.RowKit
attribute [local go_sem] Oper.semAt_some

/-- the cells cs with k numbers of two bytes of l, from place a on, from cell o on -/
def halfTo (cs : Array Value) (o : Nat) (l : List UInt8) (a : Nat) : Nat → Array Value
  | 0 => cs
  | k + 1 => (halfTo cs o l a k).setIfInBounds (o + k) (.int .u16 (get16 l ((a : Int) + 2 * (k : Int))))
theorem halfTo_size (cs : Array Value) (o : Nat) (l : List UInt8) (a : Nat) : ∀ k, (halfTo cs o l a k).size = cs.size
  | 0 => rfl
  | k + 1 => by simp [halfTo, halfTo_size cs o l a k]

set_option maxHeartbeats 1000000 in
theorem t_halves (s : ByteArray) (a n o H B q c : Nat) (cs ps : Array Value) (T T2 : TypeId) (w : World) (hs : s.size ≤ 140737488351232) (ha : a ≤ 1000) (hn : n ≤ 1000)
    (hH : Cells w H cs T) (ho : o + n ≤ cs.size) (hB : Cells w B ps T2) (hne : B ≠ H) (hp : ∀ k, k < n → ps[q + k]? = some (.pointer (some ⟨H, o + k, none⟩))) :
    Calls Tryz.prog 204 #[.string s, .int .i64 a, .slice (some ⟨B, q, none⟩) n c] w (fun e w' => e = .returned (.tuple #[]) ∧ Below H w w' ∧ Cells w' H (halfTo cs o (L s) a n) T) := by
  have c1 := fun (k : Nat) W (hk : k < n) => Get16 s ((a : Int) + 2 * (k : Int)) W (by unfold maxLen; omega) (by omega)
  have C1 := hide c1; have HP := hide hp; have HH := hide hH; have HB := hide hB
  clear c1 hp hH hB
  go_enter Tryz.func204, Tryz.ntmps204
  go_wp2_with fail
  go_loopw [10] (fun i wr => ∃ k : Nat, k ≤ n ∧ i = .int .i64 k ∧ Below H w wr ∧ Cells wr H (halfTo cs o (L s) a k) T ∧ Cells wr B ps T2) (fun i _ => n - (intOf i).toNat)
  case atStart => exact ⟨0, by omega, rfl, Below.refl _ _, HH.out, HB.out⟩
  case round =>
    obtain ⟨k, hk, rfl, hbl, hC, hD⟩ := hrel
    by_cases hlt : k < n
    · have x1 : wr.cell? ⟨B, q + k, none⟩ = some (.pointer (some ⟨H, o + k, none⟩)) := (hD.at_ _).trans (HP.out k hlt)
      have c2 := fun W => C1.out k W hlt
      obtain ⟨v, hv⟩ : ∃ v, (halfTo cs o (L s) a k)[o + k]? = some v := ⟨_, Array.getElem?_eq_getElem (by rw [halfTo_size]; omega)⟩
      obtain ⟨x, hx⟩ : ∃ x, x = get16 (L s) ((a : Int) + 2 * (k : Int)) := ⟨_, rfl⟩
      obtain ⟨y, hy⟩ : ∃ y, y = has s.size ((a : Int) + 2 * (k : Int)) 2 := ⟨_, rfl⟩
      rw [← hx, ← hy] at c2
      have hnext : ∀ W, Cells W H (halfTo cs o (L s) a k) T → Cells (W.setCell ⟨H, o + k, none⟩ (.int .u16 x)) H (halfTo cs o (L s) a (k + 1)) T := by
        intro W hW
        have h2 := hW.set_ (o + k) (.int .u16 x)
        rw [hx] at h2 ⊢
        exact h2
      have C2 := hide c2; have HN := hide hnext; have HV := hide hv; have HC := hide hC; have HD := hide hD; have HL := hide hbl
      clear c2 hnext hv hx hy hC hD hbl
      have k1 : (k : Int) < (n : Int) := by omega
      have k2 : IntKind.i64.wrap (2 * (k : Int)) = 2 * (k : Int) := IntWalk.i64_in _ (by omega)
      have k3 : IntKind.i64.wrap ((a : Int) + 2 * (k : Int)) = (a : Int) + 2 * (k : Int) := IntWalk.i64_in _ (by omega)
      go_wp2_with fail
      refine (C2.out _).mono ?_
      rintro e w1 ⟨rfl, b1⟩
      have d1 := Cells.below b1 HC.out
      have d2 := Cells.below b1 HD.out
      have x2 : w1.cell? ⟨H, o + k, none⟩ = some v := (d1.at_ _).trans HV.out
      have f1 : w1.frozen? ⟨H, o + k, none⟩ = false := d1.free _
      have hd := HN.out _ d1
      have he := Cells.other d2 hne (o + k) (.int .u16 x)
      have hb2 := Below.setCell (HL.out.trans (b1.mono (Nat.le_of_lt HC.out.lt))) (p := ⟨H, o + k, none⟩) (Nat.le_refl _) (.int .u16 x)
      have HD2 := hide hd; have HE2 := hide he; have HB2 := hide hb2
      clear hd he hb2 d1 d2
      go_wp2_with fail
      go_roundw
      case rel => exact ⟨k + 1, by omega, by go_num, HB2.out, HD2.out, HE2.out⟩
      case measure => simp [intOf]; omega
    · obtain rfl : k = n := by omega
      go_wp2_with fail
      (try simp only [Exit.inBlock, Exit.then]); refine bodyPost_end (v := .tuple #[]) (by simp [results, Tryz.results204, go_sem]; try rfl) rfl ?_
      exact ⟨rfl, hbl, hC⟩
end Go.Proofs.YtilfcikhipadpaaGreatDoor
end

section
/- A struct's cells, stored all. No program. -/
set_option linter.unusedVariables false
namespace Go.Proofs.YtilfcikhipadpaaGreatDoor
open Go.RowKit

theorem Cells.under {w w' : World} {n b : Nat} {cs : Array Value} {T : TypeId} (k : Below n w w') (h : Cells w b cs T) (hb : b < n) : Cells w' b cs T := (k.block b hb).trans h
/-- one proof for goals that are the same -/
theorem share {P R : Prop} (f : P → R) (p : P) : R := f p
theorem Cells.put8 {w : World} {b : Nat} {a0 a1 a2 a3 a4 a5 a6 a7 : Value} {T : TypeId} (h : Cells w b #[a0, a1, a2, a3, a4, a5, a6, a7] T) (v0 v1 v2 v3 v4 v5 v6 v7 : Value) : Cells ((((((((w.setCell ⟨b, 0, none⟩ v0).setCell ⟨b, 1, none⟩ v1).setCell ⟨b, 2, none⟩ v2).setCell ⟨b, 3, none⟩ v3).setCell ⟨b, 4, none⟩ v4).setCell ⟨b, 5, none⟩ v5).setCell ⟨b, 6, none⟩ v6).setCell ⟨b, 7, none⟩ v7) b #[v0, v1, v2, v3, v4, v5, v6, v7] T := by
  have h0 : Cells (w.setCell ⟨b, 0, none⟩ v0) b #[v0, a1, a2, a3, a4, a5, a6, a7] T := h.set_ 0 v0
  have h1 : Cells ((w.setCell ⟨b, 0, none⟩ v0).setCell ⟨b, 1, none⟩ v1) b #[v0, v1, a2, a3, a4, a5, a6, a7] T := h0.set_ 1 v1
  have h2 : Cells (((w.setCell ⟨b, 0, none⟩ v0).setCell ⟨b, 1, none⟩ v1).setCell ⟨b, 2, none⟩ v2) b #[v0, v1, v2, a3, a4, a5, a6, a7] T := h1.set_ 2 v2
  have h3 : Cells ((((w.setCell ⟨b, 0, none⟩ v0).setCell ⟨b, 1, none⟩ v1).setCell ⟨b, 2, none⟩ v2).setCell ⟨b, 3, none⟩ v3) b #[v0, v1, v2, v3, a4, a5, a6, a7] T := h2.set_ 3 v3
  have h4 : Cells (((((w.setCell ⟨b, 0, none⟩ v0).setCell ⟨b, 1, none⟩ v1).setCell ⟨b, 2, none⟩ v2).setCell ⟨b, 3, none⟩ v3).setCell ⟨b, 4, none⟩ v4) b #[v0, v1, v2, v3, v4, a5, a6, a7] T := h3.set_ 4 v4
  have h5 : Cells ((((((w.setCell ⟨b, 0, none⟩ v0).setCell ⟨b, 1, none⟩ v1).setCell ⟨b, 2, none⟩ v2).setCell ⟨b, 3, none⟩ v3).setCell ⟨b, 4, none⟩ v4).setCell ⟨b, 5, none⟩ v5) b #[v0, v1, v2, v3, v4, v5, a6, a7] T := h4.set_ 5 v5
  have h6 : Cells (((((((w.setCell ⟨b, 0, none⟩ v0).setCell ⟨b, 1, none⟩ v1).setCell ⟨b, 2, none⟩ v2).setCell ⟨b, 3, none⟩ v3).setCell ⟨b, 4, none⟩ v4).setCell ⟨b, 5, none⟩ v5).setCell ⟨b, 6, none⟩ v6) b #[v0, v1, v2, v3, v4, v5, v6, a7] T := h5.set_ 6 v6
  have h7 : Cells ((((((((w.setCell ⟨b, 0, none⟩ v0).setCell ⟨b, 1, none⟩ v1).setCell ⟨b, 2, none⟩ v2).setCell ⟨b, 3, none⟩ v3).setCell ⟨b, 4, none⟩ v4).setCell ⟨b, 5, none⟩ v5).setCell ⟨b, 6, none⟩ v6).setCell ⟨b, 7, none⟩ v7) b #[v0, v1, v2, v3, v4, v5, v6, v7] T := h6.set_ 7 v7
  exact h7
theorem Below.put8 {w w' : World} {n b : Nat} (h : Below n w w') (hb : n ≤ b) (v0 v1 v2 v3 v4 v5 v6 v7 : Value) : Below n w ((((((((w'.setCell ⟨b, 0, none⟩ v0).setCell ⟨b, 1, none⟩ v1).setCell ⟨b, 2, none⟩ v2).setCell ⟨b, 3, none⟩ v3).setCell ⟨b, 4, none⟩ v4).setCell ⟨b, 5, none⟩ v5).setCell ⟨b, 6, none⟩ v6).setCell ⟨b, 7, none⟩ v7) := (Below.setCell (Below.setCell (Below.setCell (Below.setCell (Below.setCell (Below.setCell (Below.setCell (Below.setCell h (p := ⟨b, 0, none⟩) hb v0) (p := ⟨b, 1, none⟩) hb v1) (p := ⟨b, 2, none⟩) hb v2) (p := ⟨b, 3, none⟩) hb v3) (p := ⟨b, 4, none⟩) hb v4) (p := ⟨b, 5, none⟩) hb v5) (p := ⟨b, 6, none⟩) hb v6) (p := ⟨b, 7, none⟩) hb v7)
theorem Cells.put10 {w : World} {b : Nat} {a0 a1 a2 a3 a4 a5 a6 a7 a8 a9 : Value} {T : TypeId} (h : Cells w b #[a0, a1, a2, a3, a4, a5, a6, a7, a8, a9] T) (v0 v1 v2 v3 v4 v5 v6 v7 v8 v9 : Value) : Cells ((((((((((w.setCell ⟨b, 0, none⟩ v0).setCell ⟨b, 1, none⟩ v1).setCell ⟨b, 2, none⟩ v2).setCell ⟨b, 3, none⟩ v3).setCell ⟨b, 4, none⟩ v4).setCell ⟨b, 5, none⟩ v5).setCell ⟨b, 6, none⟩ v6).setCell ⟨b, 7, none⟩ v7).setCell ⟨b, 8, none⟩ v8).setCell ⟨b, 9, none⟩ v9) b #[v0, v1, v2, v3, v4, v5, v6, v7, v8, v9] T := by
  have h0 : Cells (w.setCell ⟨b, 0, none⟩ v0) b #[v0, a1, a2, a3, a4, a5, a6, a7, a8, a9] T := h.set_ 0 v0
  have h1 : Cells ((w.setCell ⟨b, 0, none⟩ v0).setCell ⟨b, 1, none⟩ v1) b #[v0, v1, a2, a3, a4, a5, a6, a7, a8, a9] T := h0.set_ 1 v1
  have h2 : Cells (((w.setCell ⟨b, 0, none⟩ v0).setCell ⟨b, 1, none⟩ v1).setCell ⟨b, 2, none⟩ v2) b #[v0, v1, v2, a3, a4, a5, a6, a7, a8, a9] T := h1.set_ 2 v2
  have h3 : Cells ((((w.setCell ⟨b, 0, none⟩ v0).setCell ⟨b, 1, none⟩ v1).setCell ⟨b, 2, none⟩ v2).setCell ⟨b, 3, none⟩ v3) b #[v0, v1, v2, v3, a4, a5, a6, a7, a8, a9] T := h2.set_ 3 v3
  have h4 : Cells (((((w.setCell ⟨b, 0, none⟩ v0).setCell ⟨b, 1, none⟩ v1).setCell ⟨b, 2, none⟩ v2).setCell ⟨b, 3, none⟩ v3).setCell ⟨b, 4, none⟩ v4) b #[v0, v1, v2, v3, v4, a5, a6, a7, a8, a9] T := h3.set_ 4 v4
  have h5 : Cells ((((((w.setCell ⟨b, 0, none⟩ v0).setCell ⟨b, 1, none⟩ v1).setCell ⟨b, 2, none⟩ v2).setCell ⟨b, 3, none⟩ v3).setCell ⟨b, 4, none⟩ v4).setCell ⟨b, 5, none⟩ v5) b #[v0, v1, v2, v3, v4, v5, a6, a7, a8, a9] T := h4.set_ 5 v5
  have h6 : Cells (((((((w.setCell ⟨b, 0, none⟩ v0).setCell ⟨b, 1, none⟩ v1).setCell ⟨b, 2, none⟩ v2).setCell ⟨b, 3, none⟩ v3).setCell ⟨b, 4, none⟩ v4).setCell ⟨b, 5, none⟩ v5).setCell ⟨b, 6, none⟩ v6) b #[v0, v1, v2, v3, v4, v5, v6, a7, a8, a9] T := h5.set_ 6 v6
  have h7 : Cells ((((((((w.setCell ⟨b, 0, none⟩ v0).setCell ⟨b, 1, none⟩ v1).setCell ⟨b, 2, none⟩ v2).setCell ⟨b, 3, none⟩ v3).setCell ⟨b, 4, none⟩ v4).setCell ⟨b, 5, none⟩ v5).setCell ⟨b, 6, none⟩ v6).setCell ⟨b, 7, none⟩ v7) b #[v0, v1, v2, v3, v4, v5, v6, v7, a8, a9] T := h6.set_ 7 v7
  have h8 : Cells (((((((((w.setCell ⟨b, 0, none⟩ v0).setCell ⟨b, 1, none⟩ v1).setCell ⟨b, 2, none⟩ v2).setCell ⟨b, 3, none⟩ v3).setCell ⟨b, 4, none⟩ v4).setCell ⟨b, 5, none⟩ v5).setCell ⟨b, 6, none⟩ v6).setCell ⟨b, 7, none⟩ v7).setCell ⟨b, 8, none⟩ v8) b #[v0, v1, v2, v3, v4, v5, v6, v7, v8, a9] T := h7.set_ 8 v8
  have h9 : Cells ((((((((((w.setCell ⟨b, 0, none⟩ v0).setCell ⟨b, 1, none⟩ v1).setCell ⟨b, 2, none⟩ v2).setCell ⟨b, 3, none⟩ v3).setCell ⟨b, 4, none⟩ v4).setCell ⟨b, 5, none⟩ v5).setCell ⟨b, 6, none⟩ v6).setCell ⟨b, 7, none⟩ v7).setCell ⟨b, 8, none⟩ v8).setCell ⟨b, 9, none⟩ v9) b #[v0, v1, v2, v3, v4, v5, v6, v7, v8, v9] T := h8.set_ 9 v9
  exact h9
theorem Below.put10 {w w' : World} {n b : Nat} (h : Below n w w') (hb : n ≤ b) (v0 v1 v2 v3 v4 v5 v6 v7 v8 v9 : Value) : Below n w ((((((((((w'.setCell ⟨b, 0, none⟩ v0).setCell ⟨b, 1, none⟩ v1).setCell ⟨b, 2, none⟩ v2).setCell ⟨b, 3, none⟩ v3).setCell ⟨b, 4, none⟩ v4).setCell ⟨b, 5, none⟩ v5).setCell ⟨b, 6, none⟩ v6).setCell ⟨b, 7, none⟩ v7).setCell ⟨b, 8, none⟩ v8).setCell ⟨b, 9, none⟩ v9) := (Below.setCell (Below.setCell (Below.setCell (Below.setCell (Below.setCell (Below.setCell (Below.setCell (Below.setCell (Below.setCell (Below.setCell h (p := ⟨b, 0, none⟩) hb v0) (p := ⟨b, 1, none⟩) hb v1) (p := ⟨b, 2, none⟩) hb v2) (p := ⟨b, 3, none⟩) hb v3) (p := ⟨b, 4, none⟩) hb v4) (p := ⟨b, 5, none⟩) hb v5) (p := ⟨b, 6, none⟩) hb v6) (p := ⟨b, 7, none⟩) hb v7) (p := ⟨b, 8, none⟩) hb v8) (p := ⟨b, 9, none⟩) hb v9)
theorem Cells.far8 {w : World} {b b' : Nat} {cs : Array Value} {T : TypeId} (h : Cells w b cs T) (hb : b ≠ b') (v0 v1 v2 v3 v4 v5 v6 v7 : Value) : Cells ((((((((w.setCell ⟨b', 0, none⟩ v0).setCell ⟨b', 1, none⟩ v1).setCell ⟨b', 2, none⟩ v2).setCell ⟨b', 3, none⟩ v3).setCell ⟨b', 4, none⟩ v4).setCell ⟨b', 5, none⟩ v5).setCell ⟨b', 6, none⟩ v6).setCell ⟨b', 7, none⟩ v7) b cs T := (Cells.other (Cells.other (Cells.other (Cells.other (Cells.other (Cells.other (Cells.other (Cells.other h hb 0 v0) hb 1 v1) hb 2 v2) hb 3 v3) hb 4 v4) hb 5 v5) hb 6 v6) hb 7 v7)
theorem shareW {G A : World → Prop} {R : Prop} (f : (∀ X, A X → G X) → R) (p : ∀ X, A X → G X) : R := f p
theorem alloc_drewN (w : World) (o : Obj) (n : Nat) : (w.alloc o).drewN n = (w.drewN n).alloc o := rfl
end Go.Proofs.YtilfcikhipadpaaGreatDoor
end

section
/- tcp.Parse over this program, of what is a segment. -/
set_option linter.unusedVariables false
namespace Go.Proofs.YtilfcikhipadpaaGreatDoor
open Go.RowKit
attribute [local go_sem] Oper.semAt_some

/-- what a text is as a segment -/
def segOf (s : ByteArray) : Seg := ⟨get16 (L s) 0, get16 (L s) 2, get32 (L s) 4, get32 (L s) 8, at_ (L s) 12 % 16, at_ (L s) 13, get16 (L s) 14, get16 (L s) 16, get16 (L s) 18, s.extract 20 (tcpOwn (L s)).toNat⟩
def Seg.cells (h : Seg) : Array Value := #[.int .u16 h.s, .int .u16 h.d, .int .u32 h.q, .int .u32 h.k, .int .u8 h.l, .int .u8 h.f, .int .u16 h.w, .int .u16 h.n, .int .u16 h.u, .string h.o]

set_option maxRecDepth 100000 in
set_option maxHeartbeats 2000000 in
theorem t_Parse_yes (s : ByteArray) (w : World) (hs : s.size ≤ 140737488351232) (h : tcpIs s = true) :
    Calls Tryz.prog 179 #[.string s] w (Ret (.tuple #[.agg (segOf s).cells, .string (s.extract (tcpOwn (L s)).toNat s.size), .bool true]) w) := by
  have h1 : 20 ≤ s.size ∧ 20 ≤ tcpOwn (L s) ∧ tcpOwn (L s) ≤ s.size := by unfold tcpIs at h; simpa [and_assoc] using h
  obtain ⟨h20, o20, oN⟩ := h1
  have e0 : (((s[12]'(by omega)).toNat : Nat) : Int) = at_ (L s) 12 := by rw [getElem_L s 12 (by omega)]; rfl
  have e1 : (((s[13]'(by omega)).toNat : Nat) : Int) = at_ (L s) 13 := by rw [getElem_L s 13 (by omega)]; rfl
  have hb := at_bd (L s) 12
  have hb2 := at_bd (L s) 13
  have i4 : (12 : Int) < (s.size : Int) := by omega
  have i5 : 12 < s.size := by omega
  have i6 : (13 : Int) < (s.size : Int) := by omega
  have i7 : 13 < s.size := by omega
  have q2 : ¬ (s.size : Int) < 20 := by omega
  obtain ⟨v, hv⟩ : ∃ v, v = (segOf s).cells := ⟨_, rfl⟩
  rw [← hv]
  unfold tcpOwn at o20 oN ⊢
  obtain ⟨x, hx⟩ : ∃ x, x = at_ (L s) 12 := ⟨_, rfl⟩
  obtain ⟨y, hy⟩ : ∃ y, y = at_ (L s) 13 := ⟨_, rfl⟩
  rw [← hx] at e0 hb o20 oN ⊢
  rw [← hy] at e1 hb2
  have o1 : ¬ x / 16 * 4 < 20 := by omega
  have o2 : ¬ (s.size : Int) < x / 16 * 4 := by omega
  have HV := hide hv; have HX := hide hx; have HY := hide hy
  clear hv hx hy h
  obtain ⟨p0, hp0⟩ : ∃ p, p = get16 (L s) 0 := ⟨_, rfl⟩
  obtain ⟨p1, hp1⟩ : ∃ p, p = get16 (L s) 2 := ⟨_, rfl⟩
  obtain ⟨p2, hp2⟩ : ∃ p, p = get32 (L s) 4 := ⟨_, rfl⟩
  obtain ⟨p3, hp3⟩ : ∃ p, p = get32 (L s) 8 := ⟨_, rfl⟩
  obtain ⟨p4, hp4⟩ : ∃ p, p = get16 (L s) 14 := ⟨_, rfl⟩
  obtain ⟨p5, hp5⟩ : ∃ p, p = get16 (L s) 16 := ⟨_, rfl⟩
  obtain ⟨p6, hp6⟩ : ∃ p, p = get16 (L s) 18 := ⟨_, rfl⟩
  have n4 : x / 16 * 4 ≤ (s.size : Int) := oN
  have c1 := fun (W : World) (B : Nat) (hC : Cells W (w.heap.size + 1) #[.int .u16 0, .int .u16 0, .int .u32 0, .int .u32 0, .int .u8 (x % 16), .int .u8 y, .int .u16 0, .int .u16 0, .int .u16 0, .string (s.extract 20 (x / 16 * 4).toNat)] 278) (hB : Cells W B #[.pointer (some ⟨w.heap.size + 1, 0, none⟩), .pointer (some ⟨w.heap.size + 1, 1, none⟩)] 301) (hne : B ≠ w.heap.size + 1) => t_halves s 0 2 0 (w.heap.size + 1) B 0 2 _ _ _ _ W hs (by omega) (by omega) hC (by simp) hB hne (fun k hk => match k, hk with | 0, _ => rfl | 1, _ => rfl)
  have g1 : halfTo #[.int .u16 0, .int .u16 0, .int .u32 0, .int .u32 0, .int .u8 (x % 16), .int .u8 y, .int .u16 0, .int .u16 0, .int .u16 0, .string (s.extract 20 (x / 16 * 4).toNat)] 0 (L s) 0 2 = #[.int .u16 p0, .int .u16 p1, .int .u32 0, .int .u32 0, .int .u8 (x % 16), .int .u8 y, .int .u16 0, .int .u16 0, .int .u16 0, .string (s.extract 20 (x / 16 * 4).toNat)] := by rw [hp0, hp1]; rfl
  simp only [g1] at c1
  rw [show ((0 : Nat) : Int) = 0 from rfl] at c1
  have c4 := fun (W : World) (B : Nat) (hC : Cells W (w.heap.size + 1) #[.int .u16 p0, .int .u16 p1, .int .u32 p2, .int .u32 p3, .int .u8 (x % 16), .int .u8 y, .int .u16 0, .int .u16 0, .int .u16 0, .string (s.extract 20 (x / 16 * 4).toNat)] 278) (hB : Cells W B #[.pointer (some ⟨w.heap.size + 1, 6, none⟩), .pointer (some ⟨w.heap.size + 1, 7, none⟩), .pointer (some ⟨w.heap.size + 1, 8, none⟩)] 301) (hne : B ≠ w.heap.size + 1) => t_halves s 14 3 6 (w.heap.size + 1) B 0 3 _ _ _ _ W hs (by omega) (by omega) hC (by simp) hB hne (fun k hk => match k, hk with | 0, _ => rfl | 1, _ => rfl | 2, _ => rfl)
  have g4 : halfTo #[.int .u16 p0, .int .u16 p1, .int .u32 p2, .int .u32 p3, .int .u8 (x % 16), .int .u8 y, .int .u16 0, .int .u16 0, .int .u16 0, .string (s.extract 20 (x / 16 * 4).toNat)] 6 (L s) 14 3 = #[.int .u16 p0, .int .u16 p1, .int .u32 p2, .int .u32 p3, .int .u8 (x % 16), .int .u8 y, .int .u16 p4, .int .u16 p5, .int .u16 p6, .string (s.extract 20 (x / 16 * 4).toNat)] := by rw [hp4, hp5, hp6]; rfl
  simp only [g4] at c4
  rw [show ((14 : Nat) : Int) = 14 from rfl] at c4
  have c2 := fun W => Get32 s 4 W (by unfold maxLen; omega) (by omega)
  have c3 := fun W => Get32 s 8 W (by unfold maxLen; omega) (by omega)
  rw [← hp2] at c2; rw [← hp3] at c3
  obtain ⟨y2, hy2⟩ : ∃ y, y = has s.size 4 4 := ⟨_, rfl⟩
  obtain ⟨y3, hy3⟩ : ∃ y, y = has s.size 8 4 := ⟨_, rfl⟩
  rw [← hy2] at c2; rw [← hy3] at c3
  have hend : v = #[.int .u16 p0, .int .u16 p1, .int .u32 p2, .int .u32 p3, .int .u8 (x % 16), .int .u8 y, .int .u16 p4, .int .u16 p5, .int .u16 p6, .string (s.extract 20 (x / 16 * 4).toNat)] := by rw [HV.out, HX.out, HY.out, hp0, hp1, hp2, hp3, hp4, hp5, hp6]; rfl
  have C1 := hide c1; have C2 := hide c2; have C3 := hide c3; have C4 := hide c4; have HE := hide hend
  clear c1 c2 c3 c4 g1 g4 hp0 hp1 hp2 hp3 hp4 hp5 hp6 hy2 hy3 hend n4
  go_enter Tryz.func179, Tryz.ntmps179
  have d0 := Cells.new w #[.int .u16 0, .int .u16 0, .int .u32 0, .int .u32 0, .int .u8 0, .int .u8 0, .int .u16 0, .int .u16 0, .int .u16 0, .string { data := #[] }] 278
  go_wp2_with fail
  refine' share (P := _) (fun key => ?main) ?rest
  case main =>
    go_region_held3 (fun _ => True) (trivial)
      (fail)
    all_goals exact key
  case rest =>
    have hbits : bits .and .u8 x 15 = x % 16 := by rw [u8_and15 _ (by omega) (by omega)]
    simp only [hbits]
    have dH : Cells ((w.alloc (.cells #[.int .u16 0, .int .u16 0, .int .u32 0, .int .u32 0, .int .u8 0, .int .u8 0, .int .u16 0, .int .u16 0, .int .u16 0, .string { data := #[] }] 278)).alloc (.cells #[.int .u16 0, .int .u16 0, .int .u32 0, .int .u32 0, .int .u8 (x % 16), .int .u8 y, .int .u16 0, .int .u16 0, .int .u16 0, .string (s.extract 20 (x / 16 * 4).toNat)] 278)).drew (w.heap.size + 1) #[.int .u16 0, .int .u16 0, .int .u32 0, .int .u32 0, .int .u8 (x % 16), .int .u8 y, .int .u16 0, .int .u16 0, .int .u16 0, .string (s.extract 20 (x / 16 * 4).toNat)] 278 := by
      have := Cells.new (w.alloc (.cells #[.int .u16 0, .int .u16 0, .int .u32 0, .int .u32 0, .int .u8 0, .int .u8 0, .int .u16 0, .int .u16 0, .int .u16 0, .string { data := #[] }] 278)) #[.int .u16 0, .int .u16 0, .int .u32 0, .int .u32 0, .int .u8 (x % 16), .int .u8 y, .int .u16 0, .int .u16 0, .int .u16 0, .string (s.extract 20 (x / 16 * 4).toNat)] 278
      rw [show (w.alloc (.cells #[.int .u16 0, .int .u16 0, .int .u32 0, .int .u32 0, .int .u8 0, .int .u8 0, .int .u16 0, .int .u16 0, .int .u16 0, .string { data := #[] }] 278)).heap.size = w.heap.size + 1 from by simp] at this
      exact this
    have dR : Cells ((w.alloc (.cells #[.int .u16 0, .int .u16 0, .int .u32 0, .int .u32 0, .int .u8 0, .int .u8 0, .int .u16 0, .int .u16 0, .int .u16 0, .string { data := #[] }] 278)).alloc (.cells #[.int .u16 0, .int .u16 0, .int .u32 0, .int .u32 0, .int .u8 (x % 16), .int .u8 y, .int .u16 0, .int .u16 0, .int .u16 0, .string (s.extract 20 (x / 16 * 4).toNat)] 278)).drew w.heap.size #[.int .u16 0, .int .u16 0, .int .u32 0, .int .u32 0, .int .u8 0, .int .u8 0, .int .u16 0, .int .u16 0, .int .u16 0, .string { data := #[] }] 278 := Cells.alloc d0 (.cells #[.int .u16 0, .int .u16 0, .int .u32 0, .int .u32 0, .int .u8 (x % 16), .int .u8 y, .int .u16 0, .int .u16 0, .int .u16 0, .string (s.extract 20 (x / 16 * 4).toNat)] 278)
    have bW : Below w.heap.size w ((w.alloc (.cells #[.int .u16 0, .int .u16 0, .int .u32 0, .int .u32 0, .int .u8 0, .int .u8 0, .int .u16 0, .int .u16 0, .int .u16 0, .string { data := #[] }] 278)).alloc (.cells #[.int .u16 0, .int .u16 0, .int .u32 0, .int .u32 0, .int .u8 (x % 16), .int .u8 y, .int .u16 0, .int .u16 0, .int .u16 0, .string (s.extract 20 (x / 16 * 4).toNat)] 278)).drew := (by (repeat' (first | with_reducible exact Below.refl _ _ | with_reducible refine Below.setCell ?_ (by first | exact Nat.le_refl _ | (dsimp only; omega)) _ | with_reducible refine bstep ?_ (fresh_below _ _) | with_reducible refine Below.drew ?_)))
    have zW : ((w.alloc (.cells #[.int .u16 0, .int .u16 0, .int .u32 0, .int .u32 0, .int .u8 0, .int .u8 0, .int .u16 0, .int .u16 0, .int .u16 0, .string { data := #[] }] 278)).alloc (.cells #[.int .u16 0, .int .u16 0, .int .u32 0, .int .u32 0, .int .u8 (x % 16), .int .u8 y, .int .u16 0, .int .u16 0, .int .u16 0, .string (s.extract 20 (x / 16 * 4).toNat)] 278)).drew.heap.size = w.heap.size + 1 + 1 := by simp [World.drew]
    clear d0
    generalize ((w.alloc (.cells #[.int .u16 0, .int .u16 0, .int .u32 0, .int .u32 0, .int .u8 0, .int .u8 0, .int .u16 0, .int .u16 0, .int .u16 0, .string { data := #[] }] 278)).alloc (.cells #[.int .u16 0, .int .u16 0, .int .u32 0, .int .u32 0, .int .u8 (x % 16), .int .u8 y, .int .u16 0, .int .u16 0, .int .u16 0, .string (s.extract 20 (x / 16 * 4).toNat)] 278)).drew = W0 at *
    have HZ := hide zW
    clear zW
    go_wp2_with fail
    (with_reducible refine (C1.out _ _ (Cells.alloc dH _) (Cells.new W0 _ _) (by have := HZ.out; omega)).mono ?_)
    rintro e w1 ⟨rfl, b1, h1⟩
    have r1 := Cells.under b1 (Cells.alloc dR _) (Nat.lt_succ_self _)
    replace b1 : Below w.heap.size w w1 := (bW.trans ((fresh_below W0 _).mono bW.size)).trans (b1.mono (Nat.le_succ _))
    have z1 : w.heap.size + 1 < w1.heap.size := h1.lt
    clear dH dR bW HZ
    go_wp2_with fail
    (with_reducible refine (C2.out _).mono ?_)
    rintro e w2 ⟨rfl, b2⟩
    replace h1 := Cells.below b2 h1; replace r1 := Cells.below b2 r1
    replace b2 : Below w.heap.size w w2 := bstep b1 b2
    have x1 : w2.cell? ⟨w.heap.size + 1, 2, none⟩ = some (.int .u32 0) := h1.at_ 2
    have y1 := h1.free 2
    have h2 : Cells (w2.setCell ⟨w.heap.size + 1, 2, none⟩ (.int .u32 p2)) (w.heap.size + 1) #[.int .u16 p0, .int .u16 p1, .int .u32 p2, .int .u32 0, .int .u8 (x % 16), .int .u8 y, .int .u16 0, .int .u16 0, .int .u16 0, .string (s.extract 20 (x / 16 * 4).toNat)] 278 := h1.set_ 2 (.int .u32 p2)
    have r2 := r1.other (Nat.ne_of_lt (Nat.lt_succ_self _)) 2 (.int .u32 p2)
    replace b2 := b2.setCell (p := ⟨w.heap.size + 1, 2, none⟩) (Nat.le_succ _) (.int .u32 p2)
    have H2 := hide h2; have R2 := hide r2; have B2 := hide b2
    clear h1 r1 b1 h2 r2 b2 z1
    go_wp2_with fail
    generalize w2.setCell ⟨w.heap.size + 1, 2, none⟩ (.int .u32 p2) = W2 at *
    clear x1 y1
    (with_reducible refine (C3.out _).mono ?_)
    rintro e w3 ⟨rfl, b3⟩
    have h2 := Cells.below b3 H2.out; have r2 := Cells.below b3 R2.out
    replace b3 : Below w.heap.size w w3 := bstep B2.out b3
    have x1 : w3.cell? ⟨w.heap.size + 1, 3, none⟩ = some (.int .u32 0) := h2.at_ 3
    have y1 := h2.free 3
    have h3 : Cells (w3.setCell ⟨w.heap.size + 1, 3, none⟩ (.int .u32 p3)) (w.heap.size + 1) #[.int .u16 p0, .int .u16 p1, .int .u32 p2, .int .u32 p3, .int .u8 (x % 16), .int .u8 y, .int .u16 0, .int .u16 0, .int .u16 0, .string (s.extract 20 (x / 16 * 4).toNat)] 278 := h2.set_ 3 (.int .u32 p3)
    have r3 := r2.other (Nat.ne_of_lt (Nat.lt_succ_self _)) 3 (.int .u32 p3)
    replace b3 := b3.setCell (p := ⟨w.heap.size + 1, 3, none⟩) (Nat.le_succ _) (.int .u32 p3)
    have H3 := hide h3; have R3 := hide r3; have B3 := hide b3
    clear H2 R2 B2 h2 r2 h3 r3 b3
    go_wp2_with fail
    have hz3 : (w3.setCell ⟨w.heap.size + 1, 3, none⟩ (.int .u32 p3)).heap.size = w3.heap.size := by simp
    generalize w3.setCell ⟨w.heap.size + 1, 3, none⟩ (.int .u32 p3) = W3 at *
    clear x1 y1
    (with_reducible refine (C4.out _ _ (Cells.alloc H3.out _) (hz3 ▸ Cells.new W3 #[.pointer (some ⟨w.heap.size + 1, 6, none⟩), .pointer (some ⟨w.heap.size + 1, 7, none⟩), .pointer (some ⟨w.heap.size + 1, 8, none⟩)] 301) (by have := H3.out.lt; omega)).mono ?_)
    rintro e w4 ⟨rfl, b4, h4⟩
    have r4 := Cells.under b4 (Cells.alloc R3.out _) (Nat.lt_succ_self _)
    replace b4 : Below w.heap.size w w4 := (B3.out.trans ((fresh_below W3 _).mono B3.out.size)).trans (b4.mono (Nat.le_succ _))
    clear H3 R3 B3
    obtain ⟨xh4_0, xh4_1, xh4_2, xh4_3, xh4_4, xh4_5, xh4_6, xh4_7, xh4_8, xh4_9⟩ := h4.x10
    have hx : w4.cell? ⟨w.heap.size, 0, none⟩ = some (.int .u16 0) := r4.at_ 0
    obtain ⟨xr4_0, xr4_1, xr4_2, xr4_3, xr4_4, xr4_5, xr4_6, xr4_7, xr4_8, xr4_9⟩ := r4.x10
    obtain ⟨yr4_0, yr4_1, yr4_2, yr4_3, yr4_4, yr4_5, yr4_6, yr4_7, yr4_8, yr4_9⟩ := r4.y10
    go_wp2_with fail
    have fS := hide (fun (X : World) (hX : Cells X (w.heap.size + 1) #[.int .u16 p0, .int .u16 p1, .int .u32 p2, .int .u32 p3, .int .u8 (x % 16), .int .u8 y, .int .u16 p4, .int .u16 p5, .int .u16 p6, .string (s.extract 20 (x / 16 * 4).toNat)] 278) => (show World.cell? X ⟨w.heap.size + 1, 0, none⟩ = some (.int .u16 p0) ∧ World.cell? X ⟨w.heap.size + 1, 1, none⟩ = some (.int .u16 p1) ∧ World.cell? X ⟨w.heap.size + 1, 2, none⟩ = some (.int .u32 p2) ∧ World.cell? X ⟨w.heap.size + 1, 3, none⟩ = some (.int .u32 p3) ∧ World.cell? X ⟨w.heap.size + 1, 4, none⟩ = some (.int .u8 (x % 16)) ∧ World.cell? X ⟨w.heap.size + 1, 5, none⟩ = some (.int .u8 y) ∧ World.cell? X ⟨w.heap.size + 1, 6, none⟩ = some (.int .u16 p4) ∧ World.cell? X ⟨w.heap.size + 1, 7, none⟩ = some (.int .u16 p5) ∧ World.cell? X ⟨w.heap.size + 1, 8, none⟩ = some (.int .u16 p6) ∧ World.cell? X ⟨w.heap.size + 1, 9, none⟩ = some (.string (s.extract 20 (x / 16 * 4).toNat)) from ⟨hX.at_ 0, hX.at_ 1, hX.at_ 2, hX.at_ 3, hX.at_ 4, hX.at_ 5, hX.at_ 6, hX.at_ 7, hX.at_ 8, hX.at_ 9⟩))
    have H4 := hide h4
    have oZ : (0 : Int) ≤ x / 16 * 4 := by omega
    go_region_held3 (fun zW => World.cell? zW ⟨w.heap.size + 1, 0, none⟩ = some (.int .u16 p0) ∧ World.cell? zW ⟨w.heap.size + 1, 1, none⟩ = some (.int .u16 p1) ∧ World.cell? zW ⟨w.heap.size + 1, 2, none⟩ = some (.int .u32 p2) ∧ World.cell? zW ⟨w.heap.size + 1, 3, none⟩ = some (.int .u32 p3) ∧ World.cell? zW ⟨w.heap.size + 1, 4, none⟩ = some (.int .u8 (x % 16)) ∧ World.cell? zW ⟨w.heap.size + 1, 5, none⟩ = some (.int .u8 y) ∧ World.cell? zW ⟨w.heap.size + 1, 6, none⟩ = some (.int .u16 p4) ∧ World.cell? zW ⟨w.heap.size + 1, 7, none⟩ = some (.int .u16 p5) ∧ World.cell? zW ⟨w.heap.size + 1, 8, none⟩ = some (.int .u16 p6) ∧ World.cell? zW ⟨w.heap.size + 1, 9, none⟩ = some (.string (s.extract 20 (x / 16 * 4).toNat))) (((try dsimp only); with_reducible refine fS.out _ ?_; (repeat' (first | with_reducible exact H4.out | with_reducible refine Cells.drew ?_ | with_reducible refine Cells.other ?_ (Nat.succ_ne_self _) _ _))))
      (fail)
    go_wp2
    have r5 := (Cells.put10 r4 (.int .u16 p0) (.int .u16 p1) (.int .u32 p2) (.int .u32 p3) (.int .u8 (x % 16)) (.int .u8 y) (.int .u16 p4) (.int .u16 p5) (.int .u16 p6) (.string (s.extract 20 (x / 16 * 4).toNat))).drew
    have b5 := (Below.put10 b4 (Nat.le_refl w.heap.size) (.int .u16 p0) (.int .u16 p1) (.int .u32 p2) (.int .u32 p3) (.int .u8 (x % 16)) (.int .u8 y) (.int .u16 p4) (.int .u16 p5) (.int .u16 p6) (.string (s.extract 20 (x / 16 * 4).toNat))).drew
    have HE1 := hide r5; have HB5 := hide b5
    generalize ((((((((((w4.setCell ⟨w.heap.size, 0, none⟩ (.int .u16 p0)).setCell ⟨w.heap.size, 1, none⟩ (.int .u16 p1)).setCell ⟨w.heap.size, 2, none⟩ (.int .u32 p2)).setCell ⟨w.heap.size, 3, none⟩ (.int .u32 p3)).setCell ⟨w.heap.size, 4, none⟩ (.int .u8 (x % 16))).setCell ⟨w.heap.size, 5, none⟩ (.int .u8 y)).setCell ⟨w.heap.size, 6, none⟩ (.int .u16 p4)).setCell ⟨w.heap.size, 7, none⟩ (.int .u16 p5)).setCell ⟨w.heap.size, 8, none⟩ (.int .u16 p6)).setCell ⟨w.heap.size, 9, none⟩ (.string (s.extract 20 (x / 16 * 4).toNat))).drew = W5 at *
    have r6 := HE1.out
    clear r5 b5 r4 h4 H4 HE1 hx fS C1 C2 C3 C4 HV HX HY
    obtain ⟨xr6_0, xr6_1, xr6_2, xr6_3, xr6_4, xr6_5, xr6_6, xr6_7, xr6_8, xr6_9⟩ := r6.x10
    (try simp only [Exit.inBlock, Exit.then]); refine bodyPost_ret (by simp [results, Tryz.results179, go_sem, *]; try rfl) rfl ?_
    exact ⟨by rw [HE.out], HB5.out⟩
end Go.Proofs.YtilfcikhipadpaaGreatDoor
end

section
/- The document's answer for tcp (porterref06) over this program: what a text is as a segment. -/
set_option linter.unusedVariables false
set_option linter.unusedSimpArgs false
namespace Go.Proofs.YtilfcikhipadpaaGreatDoor
open Go.RowKit
attribute [local go_sem] Oper.semAt_some

end Go.Proofs.YtilfcikhipadpaaGreatDoor
end
