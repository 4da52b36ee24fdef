/- Several texts of this claim, one behind the other. -/
import Derived.Test.YtedfdphapcanoaaGreatDoorM12
import Derived.Test.YtedfdphapcanoaaGreatDoorM44
import Derived.OpenShut
import Derived.Test.YtedfdphapcanoaaGreatDoorM20
import Derived.Test.YtedfdphapcanoaaGreatDoorM42

section
/- Slices as arguments: their addresses. No program. -/
set_option linter.unusedVariables false
set_option linter.unusedSimpArgs false
namespace Go.Proofs.YtedfdphapcanoaaGreatDoor
open Go.RowKit Go.Lib Go.ChangeShapes Go.WideShapes Rx

/-- an address that came in -/
def RealA (X : Option Addr) : Prop := X = none ∨ ∃ b o, X = some ⟨b, o, none⟩
theorem RealA.real {X : Option Addr} (h : RealA X) (n c : Nat) : real (.slice X n c) = true := by
  rcases h with rfl | ⟨b, o, rfl⟩ <;> rfl
theorem real_slice {P : Program} {w : World} {base : Nat} {t e : TypeId} {X : Option Addr} {n c : Nat} (ht : P.underlying t = some (.slice e)) (h : Value.okWide P w .any base t (.slice X n c)) : RealA X := by
  simp only [Value.okWide, ht, Cell.okWide] at h
  cases X with
  | none => exact .inl rfl
  | some a =>
    simp only [Cell.ok, ht] at h
    obtain ⟨b, o, s⟩ := a
    have hs : s = none := h.2.2.2.1
    subst hs
    exact .inr ⟨b, o, rfl⟩
theorem real_cell {P : Program} {w : World} {base : Nat} {t u e : TypeId} {fs : Array Field} {cs : Array Value} {i : Nat} (hu : P.underlying t = some (.struct fs)) (h : Value.okWide P w .any base t (.agg cs)) (hi : (P.cellTypes P.depth t).bind (fun ts => ts[i]?) = some u) (he : P.underlying u = some (.slice e)) (hc : i < cs.size) :
    ∃ X n c, cs.toList[i]? = some (.slice X n c) ∧ RealA X := by
  simp only [Value.okWide, hu] at h
  obtain ⟨cs', hcs, _, ts, h1, _, h3⟩ := h
  simp only [Value.agg.injEq] at hcs
  subst hcs
  rw [h1] at hi
  simp only [Option.bind_some] at hi
  have hlt : i < ts.length := (List.getElem?_eq_some_iff.1 hi).1
  obtain ⟨v, hv⟩ : ∃ v, cs[i]? = some v := ⟨_, Array.getElem?_eq_getElem hc⟩
  obtain ⟨u', hu', hk⟩ := h3 i v hv
  rw [Nat.mod_eq_of_lt hlt, hi] at hu'
  simp only [Option.some.injEq] at hu'
  subst hu'
  simp only [Cell.okWide, he] at hk
  cases v <;> simp only [Cell.ok, he] at hk <;> try exact hk.elim
  case slice X n c =>
    refine ⟨X, n, c, by rw [Array.getElem?_toList]; exact hv, ?_⟩
    cases X with
    | none => exact .inl rfl
    | some a =>
      obtain ⟨b, o, s⟩ := a
      have hs : s = none := hk.2.2.2.1
      subst hs
      exact .inr ⟨b, o, rfl⟩
end Go.Proofs.YtedfdphapcanoaaGreatDoor
end

section
/- AtomNone: its walk. -/
set_option linter.unusedVariables false
set_option linter.unusedSimpArgs false
namespace Go.Proofs.YtedfdphapcanoaaGreatDoor
open Go.RowKit Go.Lib Rx

@[reducible] def actV (k wk wp wf wt wb w0 w1 wfl : Int) (s : ByteArray) (y0 y1 n uk up ua ub uc : Int) (r : Rule) (X : Option Addr) (m c : Nat) (rf : Int) : Value :=
  .agg #[.int .u8 k, .int .u8 wk, .int .u8 wp, .int .u8 wf, .int .u8 wt, .int .u8 wb, .int .u8 w0, .int .u8 w1, .int .u8 wfl, .string s, .int .u16 y0, .int .u16 y1, .int .i64 n, .int .u8 uk, .int .u8 up, .int .u8 ua, .int .u8 ub, .int .u8 uc, .int .i64 r.k, .int .u8 r.p, .int .u32 r.sa, .int .i64 r.sb, .int .u32 r.da, .int .i64 r.db, .int .u32 r.e, .int .u16 r.f, .int .u16 r.t, .int .u32 r.ia, .int .u16 r.ip, .slice X m c, .int .i64 rf]
theorem none_on (o ip b k wk wp wf wt wb w0 w1 wfl : Int) (s out : ByteArray) (y0 y1 n uk up ua ub uc : Int) (r : Rule) (X : Option Addr) (m c : Nat) (rf : Int) (w : World) (hM : TabOK (Amb.of w)) (ho : 0 ≤ o ∧ o ≤ 4294967295) (hi : 0 ≤ ip ∧ ip ≤ 4294967295) (hup : 0 ≤ up)
    (cT : ∀ W, (Amb.of w).S W → Calls Tryz.prog 19 #[wireV wk wp wf wt wb w0 w1 wfl s] W (Ret (.string out) W)) (ha : ([.int .u32 o, .agg #[.int .u32 ip, .int .i64 b], actV k wk wp wf wt wb w0 w1 wfl s y0 y1 n uk up ua ub uc r X m c rf] : List Value).all real = true) :
    Calls Tryz.prog 7 #[.int .u32 o, .agg #[.int .u32 ip, .int .i64 b], actV k wk wp wf wt wb w0 w1 wfl s y0 y1 n uk up ua ub uc r X m c rf] w (Ret (.bool true) w) := by
  have m1 := fun W => addrs_May ip b W hi
  have m2 := fun W => addrs_Has ip b o W hi ho
  have m3 := fun W => ref_May ip b W hi
  have m4 := fun W => ref_Has ip b o W hi ho
  generalize hm : mayP ip b = q at *
  generalize hh : hasP ip b o = h at *
  have hb : ∀ n : Nat, Ev Tryz.prog (Amb.of w) := fun n => does n (args := []) fun W k => boxed_w W (hM W k).1 (hM W k).2
  cases q
  · exact run (args := [.int .u32 o, .agg #[.int .u32 ip, .int .i64 b], actV k wk wp wf wt wb w0 w1 wfl s y0 y1 n uk up ua ub uc r X m c rf]) [does 14 (args := [.agg #[.int .u32 ip, .int .i64 b]]) fun W _ => m1 W, does 53 (args := [.agg #[.int .u32 ip, .int .i64 b]]) fun W _ => m3 W,
      does 100 (args := [wireV wk wp wf wt wb w0 w1 wfl s]) cT, does 185 (args := [rulC uk up ua ub uc r]) fun W _ => w_Rule uk up ua ub uc r W hup, does 358 (args := [wireV wk wp wf wt wb w0 w1 wfl s]) cT, does 443 (args := [rulC uk up ua ub uc r]) fun W _ => w_Rule uk up ua ub uc r W hup, does 613 (args := []) fun W k => boxed_w W (hM W k).1 (hM W k).2] (ha := ha)
  · cases h
    · exact run (args := [.int .u32 o, .agg #[.int .u32 ip, .int .i64 b], actV k wk wp wf wt wb w0 w1 wfl s y0 y1 n uk up ua ub uc r X m c rf]) [does 14 (args := [.agg #[.int .u32 ip, .int .i64 b]]) fun W _ => m1 W, does 19 (args := [.agg #[.int .u32 ip, .int .i64 b], .int .u32 o]) fun W _ => m2 W, does 59 (args := [.agg #[.int .u32 ip, .int .i64 b]]) fun W _ => m3 W, does 64 (args := [.agg #[.int .u32 ip, .int .i64 b], .int .u32 o]) fun W _ => m4 W,
        does 112 (args := [wireV wk wp wf wt wb w0 w1 wfl s]) cT, does 197 (args := [rulC uk up ua ub uc r]) fun W _ => w_Rule uk up ua ub uc r W hup, does 370 (args := [wireV wk wp wf wt wb w0 w1 wfl s]) cT, does 455 (args := [rulC uk up ua ub uc r]) fun W _ => w_Rule uk up ua ub uc r W hup, does 625 (args := []) fun W k => boxed_w W (hM W k).1 (hM W k).2] (ha := ha)
    · exact run (args := [.int .u32 o, .agg #[.int .u32 ip, .int .i64 b], actV k wk wp wf wt wb w0 w1 wfl s y0 y1 n uk up ua ub uc r X m c rf]) [does 14 (args := [.agg #[.int .u32 ip, .int .i64 b]]) fun W _ => m1 W, does 19 (args := [.agg #[.int .u32 ip, .int .i64 b], .int .u32 o]) fun W _ => m2 W, does 53 (args := [.agg #[.int .u32 ip, .int .i64 b]]) fun W _ => m3 W, does 58 (args := [.agg #[.int .u32 ip, .int .i64 b], .int .u32 o]) fun W _ => m4 W,
        does 100 (args := [wireV wk wp wf wt wb w0 w1 wfl s]) cT, does 185 (args := [rulC uk up ua ub uc r]) fun W _ => w_Rule uk up ua ub uc r W hup, does 358 (args := [wireV wk wp wf wt wb w0 w1 wfl s]) cT, does 443 (args := [rulC uk up ua ub uc r]) fun W _ => w_Rule uk up ua ub uc r W hup, does 613 (args := []) fun W k => boxed_w W (hM W k).1 (hM W k).2] (ha := ha)
theorem AtomNone_walk (o ip b k wk wp wf wt wb w0 w1 wfl : Int) (s : ByteArray) (y0 y1 n uk up ua ub uc r0 r1 r2 r3 r4 r5 r6 r7 r8 r9 r10 : Int) (X : Option Addr) (m c : Nat) (rf : Int) (w : World) (hT : Lasts w ∧ Wds w) (ho : 0 ≤ o ∧ o ≤ 4294967295) (hi : 0 ≤ ip ∧ ip ≤ 4294967295) (hb : -9223372036854775808 ≤ b ∧ b ≤ 9223372036854775807)
    (hk : 0 ≤ k ∧ k ≤ 255) (hwk : 0 ≤ wk ∧ wk ≤ 255) (hwp : 0 ≤ wp ∧ wp ≤ 255) (hwf : 0 ≤ wf ∧ wf ≤ 255) (hwt : 0 ≤ wt ∧ wt ≤ 255) (hwb : 0 ≤ wb ∧ wb ≤ 255) (hw0 : 0 ≤ w0 ∧ w0 ≤ 255) (hw1 : 0 ≤ w1 ∧ w1 ≤ 255) (hwl : 0 ≤ wfl ∧ wfl ≤ 255) (hs : s.size ≤ 140737488351232)
    (hy0 : 0 ≤ y0 ∧ y0 ≤ 65535) (hy1 : 0 ≤ y1 ∧ y1 ≤ 65535) (hn : -9223372036854775808 ≤ n ∧ n ≤ 9223372036854775807) (huk : 0 ≤ uk ∧ uk ≤ 255) (hup : 0 ≤ up ∧ up ≤ 255) (hua : 0 ≤ ua ∧ ua ≤ 255) (hub : 0 ≤ ub ∧ ub ≤ 255) (huc : 0 ≤ uc ∧ uc ≤ 255)
    (h0 : -9223372036854775808 ≤ r0 ∧ r0 ≤ 9223372036854775807) (h1 : 0 ≤ r1 ∧ r1 ≤ 255) (h2 : 0 ≤ r2 ∧ r2 ≤ 4294967295) (h3 : -9223372036854775808 ≤ r3 ∧ r3 ≤ 9223372036854775807) (h4 : 0 ≤ r4 ∧ r4 ≤ 4294967295) (h5 : -9223372036854775808 ≤ r5 ∧ r5 ≤ 9223372036854775807) (h6 : 0 ≤ r6 ∧ r6 ≤ 4294967295) (h7 : 0 ≤ r7 ∧ r7 ≤ 65535) (h8 : 0 ≤ r8 ∧ r8 ≤ 65535) (h9 : 0 ≤ r9 ∧ r9 ≤ 4294967295) (h10 : 0 ≤ r10 ∧ r10 ≤ 65535)
    (hX : RealA X) (hrf : -9223372036854775808 ≤ rf ∧ rf ≤ 9223372036854775807) :
    Calls Tryz.prog 7 #[.int .u32 o, .agg #[.int .u32 ip, .int .i64 b], actV k wk wp wf wt wb w0 w1 wfl s y0 y1 n uk up ua ub uc ⟨r0, r1, r2, r3, r4, r5, r6, r7, r8, r9, r10⟩ X m c rf] w (Ret (.bool true) w) := by
  obtain ⟨out, _, cT⟩ := w_Text wk wp wf wt wb w0 w1 wfl s w ⟨hwp.1, hwf.1, hwt.1, hw0.1, hw1.1, hwl.1⟩ hwb.1 hwl.2 hs
  refine none_on o ip b k wk wp wf wt wb w0 w1 wfl s out y0 y1 n uk up ua ub uc _ X m c rf w (tabOK_of hT.1 hT.2) ho hi hup.1 cT ?_
  rcases hX with rfl | ⟨b, o, rfl⟩ <;> rfl
end Go.Proofs.YtedfdphapcanoaaGreatDoor
end
