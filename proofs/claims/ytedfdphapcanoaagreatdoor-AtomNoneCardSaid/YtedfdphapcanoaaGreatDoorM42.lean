/- Several texts of this claim, one behind the other. -/
import Derived.Test.YtedfdphapcanoaaGreatDoorM9
import Derived.Test.YtedfdphapcanoaaGreatDoorM41
import Derived.KernelRfl

section
/- A wire's points, flags, tuple, text. -/
set_option linter.unusedVariables false
namespace Go.Proofs.YtedfdphapcanoaaGreatDoor
open Go.RowKit Go.Lib

theorem idx_ev {P : Program} {T e : TypeId} {l : List Int} {k kk : IntKind} {i : Int} (hu : P.underlying T = some (.array l.length e)) (ha : Rx.pureRun P (isAgg e) = some false) (hs : Rx.pureRun P (sizeOf e) = some 1) (h : 0 ≤ i ∧ i < l.length) (W : World) :
    ((Instr.index T (.agg (l.map (Value.int k)).toArray) (.int kk i)) >>= fun v => (pure (Next.value v) : Sem Next)).run P W = .ok (.value (.int k (l.getD i.toNat 0))) W := by
  have h1 : (Instr.index T (.agg (l.map (Value.int k)).toArray) (.int kk i)).run P W = .ok (.int k (l.getD i.toNat 0)) W := by
    have hlt : i.toNat < l.length := by omega
    unfold Instr.index
    rw [Rx.run_bind_ok (show (asIntOf (.int kk i)).run P W = .ok (kk, i) W from rfl), Rx.run_bind_ok (run_underlying hu W)]
    simp only [h.1, h.2, and_self, if_true]
    rw [Rx.run_bind_ok (Rx.pureRun_run W _ _ hs)]
    unfold Go.part
    rw [Rx.run_bind_ok (Rx.pureRun_run W _ _ ha)]
    simp [List.getD_eq_getElem?_getD, hlt]
  rw [Rx.run_bind_ok h1]
  rfl
def hostL : List Int := [167772161, 167772162, 167772163, 134744072, 117901063, 151587081, 151587092, 134744073]
def portL : List Int := [4000, 4001, 53, 53, 80, 81, 82, 83, 1000, 1001, 1002, 1003, 1004, 1010, 8000, 8001]
def protoL : List Int := [17, 6, 1, 17]
def hostV (h : Int) : Int := hostL.getD (h.tmod 8).toNat 0
def portV (p : Int) : Int := portL.getD (p.tmod 16).toNat 0
def protoV (p : Int) : Int := protoL.getD (p.tmod 4).toNat 0
theorem tmod_lt {x : Int} (h : 0 ≤ x) (n : Int) (hn : 0 < n) : 0 ≤ x.tmod n ∧ x.tmod n < n := by
  rw [Int.tmod_eq_emod_of_nonneg h]
  exact ⟨Int.emod_nonneg _ (by omega), Int.emod_lt_of_pos _ (by omega)⟩
theorem getD_all {l : List Int} {p : Int → Prop} (h : ∀ x ∈ l, p x) (h0 : p 0) (i : Nat) : p (l.getD i 0) := by
  rw [List.getD_eq_getElem?_getD]
  cases hi : l[i]? with
  | none => exact h0
  | some x => exact h x (List.mem_of_getElem? hi)
theorem host_bd (h : Int) : 0 ≤ hostV h ∧ hostV h ≤ 4294967295 := getD_all (p := fun x => 0 ≤ x ∧ x ≤ 4294967295) (l := hostL) (by decide) (by decide) _
theorem port_bd (h : Int) : 0 ≤ portV h ∧ portV h ≤ 65535 := getD_all (p := fun x => 0 ≤ x ∧ x ≤ 65535) (l := portL) (by decide) (by decide) _
theorem proto_is (p : Int) (h : 0 ≤ p) : protoV p = 17 ∨ protoV p = 6 ∨ protoV p = 1 := by
  have hb := tmod_lt h 4 (by decide)
  unfold protoV
  generalize p.tmod 4 = i at *
  have : i = 0 ∨ i = 1 ∨ i = 2 ∨ i = 3 := by omega
  rcases this with rfl | rfl | rfl | rfl <;> decide
theorem w_point (h p : Int) (w : World) (h0 : 0 ≤ h) (p0 : 0 ≤ p) : Calls Tryz.prog 52 #[.int .u8 h, .int .u8 p] w (Ret (.agg #[.int .u32 (hostV h), .int .u16 (portV p)]) w) :=
  Rx.run (args := [.int .u8 h, .int .u8 p]) [Rx.gives 4 fun W _ => idx_ev (T := 211) (e := 27) (l := hostL) (k := .u32) (kk := .u8) (by kernel_rfl) (by kernel_rfl) (by kernel_rfl) (tmod_lt h0 8 (by decide)) W,
    Rx.gives 8 fun W _ => idx_ev (T := 212) (e := 28) (l := portL) (k := .u16) (kk := .u8) (by kernel_rfl) (by kernel_rfl) (by kernel_rfl) (tmod_lt p0 16 (by decide)) W]
def flV (fl : Int) : Int := if fl.tmod 4 < 2 then 2 else fl
def wireV (k p f t b p0 p1 fl : Int) (s : ByteArray) : Value := .agg #[.int .u8 k, .int .u8 p, .int .u8 f, .int .u8 t, .int .u8 b, .int .u8 p0, .int .u8 p1, .int .u8 fl, .string s]
theorem w_flags (k p f t b p0 p1 fl : Int) (s : ByteArray) (w : World) : Calls Tryz.prog 54 #[wireV k p f t b p0 p1 fl s] w (Ret (.int .u8 (flV fl)) w) := by
  unfold flV
  split
  · rename_i h
    exact Rx.run (args := [wireV k p f t b p0 p1 fl s]) [Rx.yes 6 (decide_eq_true h)]
  · rename_i h
    exact Rx.run (args := [wireV k p f t b p0 p1 fl s]) [Rx.no 6 (decide_eq_false h)]
def wireT (p f t p0 p1 fl : Int) : Tup := if protoV p = 1 then (if fl.tmod 4 = 0 then ⟨protoV p, hostV f, 0, hostV t, portV p1⟩ else ⟨protoV p, hostV f, portV p0, hostV t, 0⟩) else ⟨protoV p, hostV f, portV p0, hostV t, portV p1⟩
theorem w_Tuple (k p f t b p0 p1 fl : Int) (s : ByteArray) (w : World) (h : 0 ≤ p ∧ 0 ≤ f ∧ 0 ≤ t ∧ 0 ≤ p0 ∧ 0 ≤ p1 ∧ 0 ≤ fl) : Calls Tryz.prog 53 #[wireV k p f t b p0 p1 fl s] w (Ret (.agg #[.int .u8 (wireT p f t p0 p1 fl).p, .int .u32 (wireT p f t p0 p1 fl).a, .int .u16 (wireT p f t p0 p1 fl).b, .int .u32 (wireT p f t p0 p1 fl).c, .int .u16 (wireT p f t p0 p1 fl).d]) w) := by
  have c1 : ∀ W, (Rx.Amb.of w).S W → Calls Tryz.prog 52 #[.int .u8 f, .int .u8 p0] W (Ret (.agg #[.int .u32 (hostV f), .int .u16 (portV p0)]) W) := fun W _ => w_point f p0 W h.2.1 h.2.2.2.1
  have c2 : ∀ W, (Rx.Amb.of w).S W → Calls Tryz.prog 52 #[.int .u8 t, .int .u8 p1] W (Ret (.agg #[.int .u32 (hostV t), .int .u16 (portV p1)]) W) := fun W _ => w_point t p1 W h.2.2.1 h.2.2.2.2.1
  unfold wireT
  split
  · rename_i hp
    split
    · rename_i hf
      exact Rx.run (args := [wireV k p f t b p0 p1 fl s]) [Rx.gives 6 fun W _ => idx_ev (T := 159) (e := 5) (l := protoL) (k := .u8) (kk := .u8) (by kernel_rfl) (by kernel_rfl) (by kernel_rfl) (tmod_lt h.1 4 (by decide)) W, Rx.does 12 (args := [.int .u8 f, .int .u8 p0]) c1, Rx.does 18 (args := [.int .u8 t, .int .u8 p1]) c2,
        Rx.isT 25 (b := protoV p == 1) (by simpa using hp), Rx.yes 31 (b := fl.tmod 4 == 0) (by simpa using hf), Rx.isT 38 (b := protoV p == 1) (by simpa using hp), Rx.no 44 (b := decide (fl.tmod 4 > 0)) (by simp [hf])]
    · rename_i hf
      have hg : fl.tmod 4 > 0 := by have := (tmod_lt h.2.2.2.2.2 4 (by decide)).1; omega
      exact Rx.run (args := [wireV k p f t b p0 p1 fl s]) [Rx.gives 6 fun W _ => idx_ev (T := 159) (e := 5) (l := protoL) (k := .u8) (kk := .u8) (by kernel_rfl) (by kernel_rfl) (by kernel_rfl) (tmod_lt h.1 4 (by decide)) W, Rx.does 12 (args := [.int .u8 f, .int .u8 p0]) c1, Rx.does 18 (args := [.int .u8 t, .int .u8 p1]) c2,
        Rx.isT 25 (b := protoV p == 1) (by simpa using hp), Rx.no 31 (b := fl.tmod 4 == 0) (by simpa using hf), Rx.isT 35 (b := protoV p == 1) (by simpa using hp), Rx.yes 41 (b := decide (fl.tmod 4 > 0)) (by simpa using hg)]
  · rename_i hp
    exact Rx.run (args := [wireV k p f t b p0 p1 fl s]) [Rx.gives 6 fun W _ => idx_ev (T := 159) (e := 5) (l := protoL) (k := .u8) (kk := .u8) (by kernel_rfl) (by kernel_rfl) (by kernel_rfl) (tmod_lt h.1 4 (by decide)) W, Rx.does 12 (args := [.int .u8 f, .int .u8 p0]) c1, Rx.does 18 (args := [.int .u8 t, .int .u8 p1]) c2,
        Rx.isF 25 (b := protoV p == 1) (by simpa using hp), Rx.isF 35 (b := protoV p == 1) (by simpa using hp)]
end Go.Proofs.YtedfdphapcanoaaGreatDoor
end

section
/- A wire's text. -/
set_option linter.unusedVariables false
namespace Go.Proofs.YtedfdphapcanoaaGreatDoor
open Go.RowKit Go.Lib

theorem w_Text (k p f t b p0 p1 fl : Int) (s : ByteArray) (w : World) (h : 0 ≤ p ∧ 0 ≤ f ∧ 0 ≤ t ∧ 0 ≤ p0 ∧ 0 ≤ p1 ∧ 0 ≤ fl) (hb : 0 ≤ b) (hf : fl ≤ 255) (hs : s.size ≤ 140737488351232) :
    ∃ out : ByteArray, out.size ≤ 140737488351232 ∧ ∀ W, Below w.heap.size w W → Calls Tryz.prog 19 #[wireV k p f t b p0 p1 fl s] W (Ret (.string out) W) := by
  have cT := fun W => w_Tuple k p f t b p0 p1 fl s W h
  have hT : ((wireT p f t p0 p1 fl).p = 6 ∨ (wireT p f t p0 p1 fl).p = 17 ∨ ((wireT p f t p0 p1 fl).p = 1 ∧ ((wireT p f t p0 p1 fl).d = 0 ∨ ((wireT p f t p0 p1 fl).b = 0 ∧ (wireT p f t p0 p1 fl).d ≠ 0)))) ∧ (0 ≤ (wireT p f t p0 p1 fl).a ∧ (wireT p f t p0 p1 fl).a ≤ 4294967295) ∧ (0 ≤ (wireT p f t p0 p1 fl).b ∧ (wireT p f t p0 p1 fl).b ≤ 65535) ∧ (0 ≤ (wireT p f t p0 p1 fl).c ∧ (wireT p f t p0 p1 fl).c ≤ 4294967295) ∧ (0 ≤ (wireT p f t p0 p1 fl).d ∧ (wireT p f t p0 p1 fl).d ≤ 65535) := by
    have hp := proto_is p h.1
    have b1 := host_bd f; have b2 := host_bd t; have b3 := port_bd p0; have b4 := port_bd p1
    unfold wireT
    split
    · rename_i hp1
      split
      · exact ⟨Or.inr (Or.inr ⟨hp1, by by_cases h : portV p1 = 0 <;> simp [h]⟩), b1, (by decide : (0 : Int) ≤ 0 ∧ (0 : Int) ≤ 65535), b2, b4⟩
      · exact ⟨Or.inr (Or.inr ⟨hp1, Or.inl rfl⟩), b1, b3, b2, (by decide : (0 : Int) ≤ 0 ∧ (0 : Int) ≤ 65535)⟩
    · refine ⟨?_, b1, b3, b2, b4⟩
      simp only
      omega
  have hF : 0 ≤ flV fl ∧ flV fl ≤ 255 := by unfold flV; split <;> omega
  have cF := fun W => w_flags k p f t b p0 p1 fl s W
  generalize wireT p f t p0 p1 fl = T at *
  generalize flV fl = F at *
  obtain ⟨h1, h2, h3, h4, h5⟩ := hT
  by_cases k5 : k.tmod 8 = 5
  · obtain ⟨o1, z1, c1⟩ := madeG T.p T.a T.b T.c T.d F 9 { data := #[97, 98, 99, 100, 101, 102, 103, 104] } h1 h2 h3 h4 h5 hF (by decide) (by decide)
    have z1 : o1.size ≤ 48 := z1
    obtain ⟨o2, z2, c2⟩ := wrongG (hostV b) T.a 3 o1 (host_bd b) h2 (by decide) (by omega)
    refine ⟨o2, by omega, fun W _ => ?_⟩
    exact Rx.run (args := [wireV k p f t b p0 p1 fl s]) [Rx.yes 7 (b := k.tmod 8 == 5) (by simpa using k5), Rx.does 10 (args := [.int .u8 b, .int .u8 0]) (fun W _ => w_point b 0 W hb (by decide)), Rx.does 13 (args := [wireV k p f t b p0 p1 fl s]) (fun W _ => cT W), Rx.does 17 (args := [wireV k p f t b p0 p1 fl s]) (fun W _ => cT W), Rx.does 19 (args := [wireV k p f t b p0 p1 fl s]) (fun W _ => cF W), Rx.does 20 (args := [_, _, _, _]) (fun W _ => c1 W), Rx.does 21 (args := [_, _, _, _]) (fun W _ => c2 W)]
  have n5 : (k.tmod 8 == 5) = false := by simpa using k5
  by_cases k6 : k.tmod 8 = 6
  · obtain ⟨o1, z1, c1⟩ := madeG T.p T.a T.b T.c T.d F 1 { data := #[97, 98, 99] } h1 h2 h3 h4 h5 hF (by decide) (by decide)
    have z1 : o1.size ≤ 43 := z1
    refine ⟨o1, by omega, fun W _ => ?_⟩
    exact Rx.run (args := [wireV k p f t b p0 p1 fl s]) [Rx.no 7 n5, Rx.yes 10 (b := k.tmod 8 == 6) (by simpa using k6), Rx.does 12 (args := [wireV k p f t b p0 p1 fl s]) (fun W _ => cT W), Rx.does 14 (args := [wireV k p f t b p0 p1 fl s]) (fun W _ => cF W), Rx.does 15 (args := [_, _, _, _]) (fun W _ => c1 W)]
  have n6 : (k.tmod 8 == 6) = false := by simpa using k6
  by_cases k7 : k.tmod 8 = 7
  · exact ⟨s, hs, fun W _ => Rx.run (args := [wireV k p f t b p0 p1 fl s]) [Rx.no 7 n5, Rx.no 10 n6, Rx.yes 13 (b := k.tmod 8 == 7) (by simpa using k7)]⟩
  · obtain ⟨o1, z1, c1⟩ := madeG T.p T.a T.b T.c T.d F 64 { data := #[97, 98, 99, 100] } h1 h2 h3 h4 h5 hF (by decide) (by decide)
    have z1 : o1.size ≤ 44 := z1
    refine ⟨o1, by omega, fun W _ => ?_⟩
    exact Rx.run (args := [wireV k p f t b p0 p1 fl s]) [Rx.no 7 n5, Rx.no 10 n6, Rx.no 13 (b := k.tmod 8 == 7) (by simpa using k7), Rx.does 15 (args := [wireV k p f t b p0 p1 fl s]) (fun W _ => cT W), Rx.does 17 (args := [wireV k p f t b p0 p1 fl s]) (fun W _ => cF W), Rx.does 18 (args := [_, _, _, _]) (fun W _ => c1 W)]
end Go.Proofs.YtedfdphapcanoaaGreatDoor
end
