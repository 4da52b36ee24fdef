/- Several texts of this claim, one behind the other. -/
import Derived.Test.YtilfcikhipadpaaGreatDoorK12
import Derived.Deep.RegionHeldLaw
import Derived.Deep.RegionHeld3

section
/- tcp.Parse of what is no segment; tcp.Put. -/
set_option linter.unusedVariables false
namespace Go.Proofs.YtilfcikhipadpaaGreatDoor
open Go.RowKit
attribute [local go_sem] Oper.semAt_some

/-- how many bytes a segment's header has -/
def tcpOwn (l : List UInt8) : Int := at_ l 12 / 16 * 4
/-- is it a segment -/
def tcpIs (s : ByteArray) : Bool := decide (20 ≤ s.size) && decide (20 ≤ tcpOwn (L s)) && decide (tcpOwn (L s) ≤ s.size)

set_option maxHeartbeats 1000000 in
theorem t_Parse_no (s : ByteArray) (w : World) (hs : s.size ≤ 140737488351232) (h : tcpIs s = false) :
    Calls Tryz.prog 179 #[.string s] w (Ret (.tuple #[.agg #[.int .u16 0, .int .u16 0, .int .u32 0, .int .u32 0, .int .u8 0, .int .u8 0, .int .u16 0, .int .u16 0, .int .u16 0, .string { data := #[] }], .string { data := #[] }, .bool false]) w) := by
  by_cases h8 : s.size < 20
  · have q2 : (s.size : Int) < 20 := by omega
    clear h
    go_enter Tryz.func179, Tryz.ntmps179
    go_wp2_with fail
    (try simp only [Exit.inBlock, Exit.then]); refine bodyPost_ret (by simp [results, Tryz.results179, go_sem]; try rfl) rfl ?_
    exact ⟨rfl, (by (repeat' (first | with_reducible exact Below.refl _ _ | with_reducible refine Below.setCell ?_ (by first | exact Nat.le_refl _ | (dsimp only; omega)) _ | with_reducible refine bstep ?_ (fresh_below _ _) | with_reducible refine Below.drew ?_)))⟩
  · have q2 : ¬ (s.size : Int) < 20 := by omega
    have e0 : (((s[12]'(by omega)).toNat : Nat) : Int) = at_ (L s) 12 := by rw [getElem_L s 12 (by omega)]; rfl
    have hb := at_bd (L s) 12
    have ho : tcpOwn (L s) < 20 ∨ (s.size : Int) < tcpOwn (L s) := by unfold tcpIs at h; simp at h; omega
    unfold tcpOwn at ho
    have i4 : (12 : Int) < (s.size : Int) := by omega
    have i5 : 12 < s.size := by omega
    obtain ⟨x, hx⟩ : ∃ x, x = at_ (L s) 12 := ⟨_, rfl⟩
    rw [← hx] at e0 hb ho
    clear hx h
    have hcase : x / 16 * 4 < 20 ∨ (¬ x / 16 * 4 < 20 ∧ (s.size : Int) < x / 16 * 4) := by omega
    clear ho
    rcases hcase with ho | ⟨ho1, ho2⟩
    all_goals
      go_enter Tryz.func179, Tryz.ntmps179
      go_wp2_with fail
      (try simp only [Exit.inBlock, Exit.then]); refine bodyPost_ret (by simp [results, Tryz.results179, go_sem]; try rfl) rfl ?_
      exact ⟨rfl, (by (repeat' (first | with_reducible exact Below.refl _ _ | with_reducible refine Below.setCell ?_ (by first | exact Nat.le_refl _ | (dsimp only; omega)) _ | with_reducible refine bstep ?_ (fresh_below _ _) | with_reducible refine Below.drew ?_)))⟩
end Go.Proofs.YtilfcikhipadpaaGreatDoor
end

section
/- tcp.Put over this program. -/
set_option linter.unusedVariables false
namespace Go.Proofs.YtilfcikhipadpaaGreatDoor
open Go.RowKit
attribute [local go_sem] Oper.semAt_some

/-- a segment's header -/
structure Seg where
  s : Int
  d : Int
  q : Int
  k : Int
  l : Int
  f : Int
  w : Int
  n : Int
  u : Int
  o : ByteArray
def Seg.Ok (h : Seg) : Prop := (0 ≤ h.s ∧ h.s ≤ 65535) ∧ (0 ≤ h.d ∧ h.d ≤ 65535) ∧ (0 ≤ h.q ∧ h.q ≤ 4294967295) ∧ (0 ≤ h.k ∧ h.k ≤ 4294967295) ∧ (0 ≤ h.l ∧ h.l ≤ 255) ∧ (0 ≤ h.f ∧ h.f ≤ 255) ∧ (0 ≤ h.w ∧ h.w ≤ 65535) ∧ (0 ≤ h.n ∧ h.n ≤ 65535) ∧ (0 ≤ h.u ∧ h.u ≤ 65535) ∧ h.o.size ≤ 140737488351232
/-- may it be put -/
def Seg.may (h : Seg) : Bool := decide (h.o.size ≤ 40) && decide (h.o.size % 4 = 0) && decide (h.l ≤ 15)
def Seg.off (h : Seg) : Int := (20 + (h.o.size : Int)) / 4 * 4096 + h.l * 256 + h.f
def Seg.head (h : Seg) : List UInt8 := putW [h.s, h.d] ++ put32 h.q ++ put32 h.k ++ putW [h.off, h.w, h.n, h.u]
def Seg.put (h : Seg) (p : ByteArray) : List UInt8 := h.head ++ L h.o ++ L p

theorem Row.up {X Y : World} {A : Option Addr} {n : Nat} {l : List Value} (r : Row X X.heap.size A n l) (b : Below X.heap.size X Y) : Row Y Y.heap.size A n l := (r.below b).more b.size

theorem Row.drawn {X : World} {A : Option Addr} {n : Nat} {l : List Value} (r : Row X X.heap.size A n l) : Row X.drew X.drew.heap.size A n l := r
end Go.Proofs.YtilfcikhipadpaaGreatDoor
end

section
/- tcp.halves over this program: numbers of two bytes, into a struct's cells. -/
set_option linter.unusedVariables false
namespace Go.Proofs.YtilfcikhipadpaaGreatDoor
open Go.RowKit
attribute [local go_sem] Oper.semAt_some

/-- the cells cs with k numbers of two bytes of l, from place a on, from cell o on -/
def halfTo (cs : Array Value) (o : Nat) (l : List UInt8) (a : Nat) : Nat → Array Value
  | 0 => cs
  | k + 1 => (halfTo cs o l a k).setIfInBounds (o + k) (.int .u16 (get16 l ((a : Int) + 2 * (k : Int))))
theorem halfTo_size (cs : Array Value) (o : Nat) (l : List UInt8) (a : Nat) : ∀ k, (halfTo cs o l a k).size = cs.size
  | 0 => rfl
  | k + 1 => by simp [halfTo, halfTo_size cs o l a k]

set_option maxHeartbeats 1000000 in
theorem t_halves (s : ByteArray) (a n o H B q c : Nat) (cs ps : Array Value) (T T2 : TypeId) (w : World) (hs : s.size ≤ 140737488351232) (ha : a ≤ 1000) (hn : n ≤ 1000)
    (hH : Cells w H cs T) (ho : o + n ≤ cs.size) (hB : Cells w B ps T2) (hne : B ≠ H) (hp : ∀ k, k < n → ps[q + k]? = some (.pointer (some ⟨H, o + k, none⟩))) :
    Calls Tryz.prog 204 #[.string s, .int .i64 a, .slice (some ⟨B, q, none⟩) n c] w (fun e w' => e = .returned (.tuple #[]) ∧ Below H w w' ∧ Cells w' H (halfTo cs o (L s) a n) T) := by
  have c1 := fun (k : Nat) W (hk : k < n) => Get16 s ((a : Int) + 2 * (k : Int)) W (by unfold maxLen; omega) (by omega)
  have C1 := hide c1; have HP := hide hp; have HH := hide hH; have HB := hide hB
  clear c1 hp hH hB
  go_enter Tryz.func204, Tryz.ntmps204
  go_wp2_with fail
  go_loopw [10] (fun i wr => ∃ k : Nat, k ≤ n ∧ i = .int .i64 k ∧ Below H w wr ∧ Cells wr H (halfTo cs o (L s) a k) T ∧ Cells wr B ps T2) (fun i _ => n - (intOf i).toNat)
  case atStart => exact ⟨0, by omega, rfl, Below.refl _ _, HH.out, HB.out⟩
  case round =>
    obtain ⟨k, hk, rfl, hbl, hC, hD⟩ := hrel
    by_cases hlt : k < n
    · have x1 : wr.cell? ⟨B, q + k, none⟩ = some (.pointer (some ⟨H, o + k, none⟩)) := (hD.at_ _).trans (HP.out k hlt)
      have c2 := fun W => C1.out k W hlt
      obtain ⟨v, hv⟩ : ∃ v, (halfTo cs o (L s) a k)[o + k]? = some v := ⟨_, Array.getElem?_eq_getElem (by rw [halfTo_size]; omega)⟩
      obtain ⟨x, hx⟩ : ∃ x, x = get16 (L s) ((a : Int) + 2 * (k : Int)) := ⟨_, rfl⟩
      obtain ⟨y, hy⟩ : ∃ y, y = has s.size ((a : Int) + 2 * (k : Int)) 2 := ⟨_, rfl⟩
      rw [← hx, ← hy] at c2
      have hnext : ∀ W, Cells W H (halfTo cs o (L s) a k) T → Cells (W.setCell ⟨H, o + k, none⟩ (.int .u16 x)) H (halfTo cs o (L s) a (k + 1)) T := by
        intro W hW
        have h2 := hW.set_ (o + k) (.int .u16 x)
        rw [hx] at h2 ⊢
        exact h2
      have C2 := hide c2; have HN := hide hnext; have HV := hide hv; have HC := hide hC; have HD := hide hD; have HL := hide hbl
      clear c2 hnext hv hx hy hC hD hbl
      have k1 : (k : Int) < (n : Int) := by omega
      have k2 : IntKind.i64.wrap (2 * (k : Int)) = 2 * (k : Int) := IntWalk.i64_in _ (by omega)
      have k3 : IntKind.i64.wrap ((a : Int) + 2 * (k : Int)) = (a : Int) + 2 * (k : Int) := IntWalk.i64_in _ (by omega)
      go_wp2_with fail
      refine (C2.out _).mono ?_
      rintro e w1 ⟨rfl, b1⟩
      have d1 := Cells.below b1 HC.out
      have d2 := Cells.below b1 HD.out
      have x2 : w1.cell? ⟨H, o + k, none⟩ = some v := (d1.at_ _).trans HV.out
      have f1 : w1.frozen? ⟨H, o + k, none⟩ = false := d1.free _
      have hd := HN.out _ d1
      have he := Cells.other d2 hne (o + k) (.int .u16 x)
      have hb2 := Below.setCell (HL.out.trans (b1.mono (Nat.le_of_lt HC.out.lt))) (p := ⟨H, o + k, none⟩) (Nat.le_refl _) (.int .u16 x)
      have HD2 := hide hd; have HE2 := hide he; have HB2 := hide hb2
      clear hd he hb2 d1 d2
      go_wp2_with fail
      go_roundw
      case rel => exact ⟨k + 1, by omega, by go_num, HB2.out, HD2.out, HE2.out⟩
      case measure => simp [intOf]; omega
    · obtain rfl : k = n := by omega
      go_wp2_with fail
      (try simp only [Exit.inBlock, Exit.then]); refine bodyPost_end (v := .tuple #[]) (by simp [results, Tryz.results204, go_sem]; try rfl) rfl ?_
      exact ⟨rfl, hbl, hC⟩
end Go.Proofs.YtilfcikhipadpaaGreatDoor
end
