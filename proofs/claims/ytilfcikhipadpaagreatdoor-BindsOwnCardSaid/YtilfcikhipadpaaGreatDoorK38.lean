/- Several texts of this claim, one behind the other. -/
import Derived.Test.YtilfcikhipadpaaGreatDoorK37
import Derived.ProofKit
import Derived.LaidMore
import Derived.OpenShut
import Derived.Stop.Joined
import Derived.MakeChecks

section
/- BindsOwn: its walk. -/
set_option linter.unusedVariables false
set_option linter.unusedSimpArgs false
namespace Go.Proofs.YtilfcikhipadpaaGreatDoor
open Go.RowKit Go.Lib Rx
/-- the rulings that came in, in all worlds behind -/
theorem rulg_at {w : World} {g of : Nat} {l : List Rulg} (h : rulgK.Has w (some ⟨g, of, none⟩) l) : RulgAt (Amb.of w) g of l := fun W hW j hj k u hu => by
  obtain ⟨g', o', e, hg, hc⟩ := (h.below hW) (by omega)
  simp only [Option.some.injEq, Addr.mk.injEq, and_true] at e
  obtain ⟨rfl, rfl⟩ := e
  exact hc j hj k u hu
theorem tabs_at {w : World} {X : Option Addr} {n c : Nat} {l : List Rulg} (hX : RealA X) (hn : n = l.length) (h : rulgK.Has w X l) (hok : ∀ d ∈ l, d.Ok) : TabsSay (Amb.of w) X n c := by
  subst hn
  rcases hX with rfl | ⟨g, of, rfl⟩
  · by_cases hl : 0 < l.length
    · obtain ⟨_, _, e, _⟩ := h hl; cases e
    · rw [show l.length = 0 by omega]; exact w_Tables0
  · exact w_Tables (rulg_at h) hok
@[reducible] def taP (t r : Nat) (rs : List Rule) : Nat × Blk := (t, taB oC ipC 8 (.slice (some ⟨r, 0, some 0⟩) rs.length 0))
@[reducible] def daP (t r : Nat) (rs : List Rule) : Nat × Blk := (t, daB oC ipC 8 (.slice (some ⟨r, 0, some 0⟩) rs.length 0))
theorem tabs_ne {A : Amb} {X : Option Addr} {n c : Nat} {rs : List Rule} (h : CallJ Tryz.prog A 14 [.slice X n c] [] 0 (.tuple #[ptr 0, ptr 1]) (bothM rs) 4) (hX : RealA X) (k : Nat) : CallJ Tryz.prog A 14 [.slice X n c] [] k (.tuple #[ptr k, ptr (1 + k)]) [taP k (2 + k) rs, daP (1 + k) (3 + k) rs, (2 + k, ruB rs), (3 + k, ruB rs)] (k + 4) := by
  have hi : inBlks 4 (bothM rs) = true := by
    simp only [inBlks, List.all_cons, List.all_nil, all_flat (p := inC 4) (f := ruL) (fun _ => rfl)]
    rfl
  have h1 : ([Value.slice X n c].all (inV 0)) = true := by rcases hX with rfl | ⟨g, of, rfl⟩ <;> rfl
  have q := CallJ.at (d := 4) (k := 0) h [] k (h1 := h1) (h4 := hi)
  have e1 : (bothM rs).map (idB (sig [] k)) = [taP k (2 + k) rs, daP (1 + k) (3 + k) rs, (2 + k, ruB rs), (3 + k, ruB rs)] := by
    simp only [List.map_cons, List.map_nil, idB, flat_id (f := ruL) (fun _ => rfl), id0, idS, idA, sig, List.getElem?_nil, List.length_nil, Nat.sub_zero, Nat.zero_add]
  have e2 : [Value.slice X n c].map (idV (sig [] k)) = [.slice X n c] := by rcases hX with rfl | ⟨g, of, rfl⟩ <;> rfl
  have e3 : idV (sig [] k) (.tuple #[ptr 0, ptr 1]) = .tuple #[ptr k, ptr (1 + k)] := by
    simp only [idV, id1, id0, idS, idA, List.map_cons, List.map_nil, sig, List.getElem?_nil, List.length_nil, Nat.sub_zero, Nat.zero_add]
  rw [e1, e2, e3] at q
  exact q
theorem tabs_nil {A : Amb} {X : Option Addr} {n c : Nat} (h : CallJ Tryz.prog A 14 [.slice X n c] [] 0 (.tuple #[ptr 0, ptr 1]) bothM0 2) (hX : RealA X) (k : Nat) : CallJ Tryz.prog A 14 [.slice X n c] [] k (.tuple #[ptr k, ptr (1 + k)]) [(k, taB oC ipC 8 (.slice none 0 0)), (1 + k, daB oC ipC 8 (.slice none 0 0))] (k + 2) := by
  have h1 : ([Value.slice X n c].all (inV 0)) = true := by rcases hX with rfl | ⟨g, of, rfl⟩ <;> rfl
  have q := CallJ.at (d := 2) (k := 0) h [] k (h1 := h1)
  have e2 : [Value.slice X n c].map (idV (sig [] k)) = [.slice X n c] := by rcases hX with rfl | ⟨g, of, rfl⟩ <;> rfl
  have e1 : bothM0.map (idB (sig [] k)) = [(k, taB oC ipC 8 (.slice none 0 0)), (1 + k, daB oC ipC 8 (.slice none 0 0))] := by
    simp only [List.map_cons, List.map_nil, idB, id0, idS, idA, sig, List.getElem?_nil, List.length_nil, Nat.sub_zero, Nat.zero_add]
  have e3 : idV (sig [] k) (.tuple #[ptr 0, ptr 1]) = .tuple #[ptr k, ptr (1 + k)] := by
    simp only [idV, id1, id0, idS, idA, List.map_cons, List.map_nil, sig, List.getElem?_nil, List.length_nil, Nat.sub_zero, Nat.zero_add]
  rw [e1, e2, e3] at q
  exact q
end Go.Proofs.YtilfcikhipadpaaGreatDoor
end

section
/- BindsOwn: its walk: printed (gen/own20.py). -/
set_option linter.unusedVariables false
set_option linter.unusedSimpArgs false
namespace Go.Proofs.YtilfcikhipadpaaGreatDoor
open Go.RowKit Go.Lib Rx
theorem ouJ {A : Amb} {rs : List Rule} (hn : rs.length ≤ 1000) (a : Int) (nx : Nat) (h1 : Nat.blt 1 nx = true := by kernel_rfl) (h3 : Nat.blt 3 nx = true := by kernel_rfl) : CallJ Tryz.prog A 21 [ptr 1, .int .u32 a] (taN 1 3 oC ipC 8 rs) nx (.bool (outB oC rs a)) (taN 1 3 oC ipC 8 rs) nx := at_ta (d := 0) (r1 := 1) (rs' := rs) (outer_u (.inr rfl) hn a 2) 1 3 nx h1 h3
theorem inJ {A : Amb} {rs : List Rule} (a : Int) (ha : U32 a) (nx : Nat) (h1 : Nat.blt 1 nx = true := by kernel_rfl) (h3 : Nat.blt 3 nx = true := by kernel_rfl) : CallJ Tryz.prog A 20 [ptr 1, .int .u32 a] (taN 1 3 oC ipC 8 rs) nx (.bool (hasP ipC 8 a)) (taN 1 3 oC ipC 8 rs) nx := at_ta (d := 0) (r1 := 1) (rs' := rs) (inner_u (.inr rfl) (by decide) a ha 2) 1 3 nx h1 h3
theorem BindsOwn_walk (X : Option Addr) (n c : Nat) (l : List Rulg) (k p f t b p0 p1 fl : Int) (s : ByteArray) (w : World) (K0 : Lasts w ∧ Kinds w) (hl : n = l.length ∧ n ≤ c ∧ rulgK.Has w X l ∧ rulgK.Read w (.slice X n c) l ∧ (∀ d ∈ l, d.Ok) ∧ n ≤ 9223372036854775807) (hX : RealA X)
    (hk : 0 ≤ k ∧ k ≤ 255) (hp : 0 ≤ p ∧ p ≤ 255) (hf : 0 ≤ f ∧ f ≤ 255) (ht : 0 ≤ t ∧ t ≤ 255) (hb : 0 ≤ b ∧ b ≤ 255) (h0 : 0 ≤ p0 ∧ p0 ≤ 255) (h1 : 0 ≤ p1 ∧ p1 ≤ 255) (hfl : 0 ≤ fl ∧ fl ≤ 255) (hs : s.size ≤ 140737488351232) :
    Calls Tryz.prog 5 #[.slice X n c, wireV k p f t b p0 p1 fl s] w (Ret (.bool true) w) := by
  have ha : [Value.slice X n c, wireV k p f t b p0 p1 fl s].all real = true := by rcases hX with rfl | ⟨g, of, rfl⟩ <;> rfl
  let bd : ∀ m, Ev Tryz.prog (Amb.of w) := fun m => does m (args := []) (v := .bool true) fun W h => rx_bound W (K0.1.below h)
  obtain ⟨o, z, ct⟩ := w_Text k p f t b p0 p1 fl s w ⟨hp.1, hf.1, ht.1, h0.1, h1.1, hfl.1⟩ hb.1 hfl.2 hs
  have c2 : ∀ W, Below w.heap.size w W → _ := fun W h => b_See o W (K0.2.below h) z
  obtain ⟨x, y, e, he, hx⟩ := seeV_rg o (seenWhy o) (inTup o) (emsWhy o)
  rw [he] at c2
  have hL : ∀ W, (Amb.of w).S W → Lasts W := fun W h => K0.1.below h
  have hip : (0 : Int) ≤ ipC ∧ ipC ≤ 4294967295 := by decide
  have T := tabs_at (c := c) hX hl.1 hl.2.2.1 hl.2.2.2.2.1
  let te : Ev Tryz.prog (Amb.of w) := does 10 (args := [wireV k p f t b p0 p1 fl s]) ct
  by_cases he0 : e ≠ 0
  · rcases T with h | ⟨rs, hR, h⟩
    · exact run (args := [.slice X n c, wireV k p f t b p0 p1 fl s]) [calls 3 1 2 (tabs_nil h hX 1), te, does 11 (args := [.string o]) c2, yes 20 (bne_iff_ne.2 he0), bd 21] (ha := ha)
    · exact run (args := [.slice X n c, wireV k p f t b p0 p1 fl s]) [calls 3 1 4 (tabs_ne h hX 1), te, does 11 (args := [.string o]) c2, yes 20 (bne_iff_ne.2 he0), bd 21] (ha := ha)
  have he0 := Decidable.not_not.1 he0
  subst he0
  rcases T with h | ⟨rs, hR, h⟩
  · obtain ⟨r, hr, hr3⟩ := of_none (o := oC) (ip := ipC) (b := 8) x.t.p x.t.a x.t.b x.t.c x.t.d x.k x.f x.q
    have k24 := b_Of0 (A := Amb.of w) hip x.t.p x.t.a x.t.b x.t.c x.t.d x.k x.f x.l x.q hx.1 hx.2.1 hL 1 4 rfl hr
    rcases hr3 with rfl | rfl | rfl <;> exact run (args := [.slice X n c, wireV k p f t b p0 p1 fl s]) [calls 3 1 2 (tabs_nil h hX 1), te, does 11 (args := [.string o]) c2, calls 24 4 0 k24, bd 45] (ha := ha)
  obtain ⟨hne, hlen, hR⟩ := hR
  have hn : rs.length ≤ 1000 := by omega
  have k24 := b_OfN (A := Amb.of w) (rs := rs) (o := oC) (b := 8) hn (fun r hr => (hR r hr).2) hip x.t.p x.t.a x.t.b x.t.c x.t.d x.k x.f x.l x.q hx.1 hx.2.1 hL 1 3 6
  have k43 := at_ta (d := 0) (r1 := 1) (rs' := rs) (static_u (A := Amb.of w) (.inr (rfl : taM oC ipC 8 rs = _)) hn x.t.p x.t.c x.t.d 2) 1 3 8
  have fl4 := of_fail (o := oC) (ip := ipC) (b := 8) rs x.t.p x.t.a x.t.b x.t.c x.t.d x.k x.f x.q
  have fo := of_own hR x.t.p x.t.a x.t.b x.t.c x.t.d x.k x.f x.q hx.1 hx.2.1
  generalize ofQ oC ipC 8 rs x.t.p x.t.a x.t.b x.t.c x.t.d x.k x.f x.q = R at k24 fl4 fo
  rcases fl4 with (rfl | rfl | rfl) | hz
  iterate 3
    · exact run (args := [.slice X n c, wireV k p f t b p0 p1 fl s]) [calls 3 1 4 (tabs_ne h hX 1), te, does 11 (args := [.string o]) c2, calls 24 6 0 k24, bd 45] (ha := ha)
  obtain ⟨g1, g2, g3⟩ := fo hz
  obtain ⟨e1, q1, q2, q3, q4, q5, ei, ep, src, st, ws⟩ := R
  simp only at hz g1 g2 g3
  subst hz
  generalize lkR (fun r => stB r x.t.p x.t.c x.t.d) rs = r1 at k43 g2
  generalize (rs.any fun r => stB r x.t.p x.t.c x.t.d) = b1 at k43 g2
  rcases g3 with ⟨⟨fx1, ia1, ip1, oa1, op1, xa1, xf1, xt1⟩, rfl⟩ | ⟨⟨fx1, ia1, ip1, oa1, op1, xa1, xf1, xt1⟩, ⟨fx2, ia2, ip2, oa2, op2, xa2, xf2, xt2⟩, rfl⟩
  · replace g1 := g1 _ (List.mem_singleton.2 rfl)
    cases hI : hasP ipC 8 x.t.a
    · obtain ⟨rfl, rfl, rfl⟩ := g2 hI
      cases fx1
      · exact run (args := [.slice X n c, wireV k p f t b p0 p1 fl s]) [calls 3 1 4 (tabs_ne h hX 1), te, does 11 (args := [.string o]) c2, calls 24 6 1 k24, callsR 43 8 k43, callsR 56 9 (inJ (rs := rs) x.t.a hx.1 9), nisT 58 hI, isF 61 (b := !true) rfl, isF 69 (b := !(r1.ia == r1.ia && (r1.ip == r1.ip && true))) (by simp), callsR 98 10 (ouJ hn xa1 10), nisF 100 (b := outB oC rs xa1) g1.2.2.1, callsR 103 10 (inJ (rs := rs) xa1 g1.1 10), isF 105 (b := bif false then true else hasP ipC 8 xa1) g1.2.2.2.1, callsR 110 10 (inJ (rs := rs) ia1 g1.2.1 10), no 113 (b := bif false then true else !hasP ipC 8 ia1) (congrArg Bool.not g1.2.2.2.2), bd 123] (ha := ha)
      · exact run (args := [.slice X n c, wireV k p f t b p0 p1 fl s]) [calls 3 1 4 (tabs_ne h hX 1), te, does 11 (args := [.string o]) c2, calls 24 6 1 k24, callsR 43 8 k43, callsR 56 9 (inJ (rs := rs) x.t.a hx.1 9), nisT 58 hI, isF 61 (b := !true) rfl, isF 69 (b := !(r1.ia == r1.ia && (r1.ip == r1.ip && true))) (by simp), callsR 102 10 (ouJ hn oa1 10), nisF 104 (b := outB oC rs oa1) g1.2.2.1, callsR 107 10 (inJ (rs := rs) oa1 g1.1 10), isF 109 (b := bif false then true else hasP ipC 8 oa1) g1.2.2.2.1, callsR 114 10 (inJ (rs := rs) ia1 g1.2.1 10), no 117 (b := bif false then true else !hasP ipC 8 ia1) (congrArg Bool.not g1.2.2.2.2), bd 127] (ha := ha)
    · cases fx1
      · exact run (args := [.slice X n c, wireV k p f t b p0 p1 fl s]) [calls 3 1 4 (tabs_ne h hX 1), te, does 11 (args := [.string o]) c2, calls 24 6 1 k24, callsR 43 8 k43, callsR 56 9 (inJ (rs := rs) x.t.a hx.1 9), nisF 58 hI, callsR 98 10 (ouJ hn xa1 10), nisF 100 (b := outB oC rs xa1) g1.2.2.1, callsR 103 10 (inJ (rs := rs) xa1 g1.1 10), isF 105 (b := bif false then true else hasP ipC 8 xa1) g1.2.2.2.1, callsR 110 10 (inJ (rs := rs) ia1 g1.2.1 10), no 113 (b := bif false then true else !hasP ipC 8 ia1) (congrArg Bool.not g1.2.2.2.2), bd 123] (ha := ha)
      · exact run (args := [.slice X n c, wireV k p f t b p0 p1 fl s]) [calls 3 1 4 (tabs_ne h hX 1), te, does 11 (args := [.string o]) c2, calls 24 6 1 k24, callsR 43 8 k43, callsR 56 9 (inJ (rs := rs) x.t.a hx.1 9), nisF 58 hI, callsR 102 10 (ouJ hn oa1 10), nisF 104 (b := outB oC rs oa1) g1.2.2.1, callsR 107 10 (inJ (rs := rs) oa1 g1.1 10), isF 109 (b := bif false then true else hasP ipC 8 oa1) g1.2.2.2.1, callsR 114 10 (inJ (rs := rs) ia1 g1.2.1 10), no 117 (b := bif false then true else !hasP ipC 8 ia1) (congrArg Bool.not g1.2.2.2.2), bd 127] (ha := ha)
  · have g9 := g1 _ (List.mem_cons_of_mem _ (List.mem_singleton.2 rfl))
    replace g1 := g1 _ (List.mem_cons_self ..)
    cases hI : hasP ipC 8 x.t.a
    · obtain ⟨rfl, rfl, rfl⟩ := g2 hI
      clear g2
      have g2 := g9
      cases fx1 <;> cases fx2
      · exact run (args := [.slice X n c, wireV k p f t b p0 p1 fl s]) [calls 3 1 4 (tabs_ne h hX 1), te, does 11 (args := [.string o]) c2, calls 24 6 1 k24, callsR 43 8 k43, callsR 56 9 (inJ (rs := rs) x.t.a hx.1 9), nisT 58 hI, isF 61 (b := !true) rfl, isF 69 (b := !(r1.ia == r1.ia && (r1.ip == r1.ip && true))) (by simp), callsR 98 10 (ouJ hn xa1 10), nisF 100 (b := outB oC rs xa1) g1.2.2.1, callsR 103 10 (inJ (rs := rs) xa1 g1.1 10), isF 105 (b := bif false then true else hasP ipC 8 xa1) g1.2.2.2.1, callsR 110 10 (inJ (rs := rs) ia1 g1.2.1 10), no 113 (b := bif false then true else !hasP ipC 8 ia1) (congrArg Bool.not g1.2.2.2.2), callsR 138 11 (ouJ hn xa2 11), nisF 140 (b := outB oC rs xa2) g2.2.2.1, callsR 143 11 (inJ (rs := rs) xa2 g2.1 11), isF 145 (b := bif false then true else hasP ipC 8 xa2) g2.2.2.2.1, callsR 150 11 (inJ (rs := rs) ia2 g2.2.1 11), no 153 (b := bif false then true else !hasP ipC 8 ia2) (congrArg Bool.not g2.2.2.2.2), bd 163] (ha := ha)
      · exact run (args := [.slice X n c, wireV k p f t b p0 p1 fl s]) [calls 3 1 4 (tabs_ne h hX 1), te, does 11 (args := [.string o]) c2, calls 24 6 1 k24, callsR 43 8 k43, callsR 56 9 (inJ (rs := rs) x.t.a hx.1 9), nisT 58 hI, isF 61 (b := !true) rfl, isF 69 (b := !(r1.ia == r1.ia && (r1.ip == r1.ip && true))) (by simp), callsR 98 10 (ouJ hn xa1 10), nisF 100 (b := outB oC rs xa1) g1.2.2.1, callsR 103 10 (inJ (rs := rs) xa1 g1.1 10), isF 105 (b := bif false then true else hasP ipC 8 xa1) g1.2.2.2.1, callsR 110 10 (inJ (rs := rs) ia1 g1.2.1 10), no 113 (b := bif false then true else !hasP ipC 8 ia1) (congrArg Bool.not g1.2.2.2.2), callsR 142 11 (ouJ hn oa2 11), nisF 144 (b := outB oC rs oa2) g2.2.2.1, callsR 147 11 (inJ (rs := rs) oa2 g2.1 11), isF 149 (b := bif false then true else hasP ipC 8 oa2) g2.2.2.2.1, callsR 154 11 (inJ (rs := rs) ia2 g2.2.1 11), no 157 (b := bif false then true else !hasP ipC 8 ia2) (congrArg Bool.not g2.2.2.2.2), bd 167] (ha := ha)
      · exact run (args := [.slice X n c, wireV k p f t b p0 p1 fl s]) [calls 3 1 4 (tabs_ne h hX 1), te, does 11 (args := [.string o]) c2, calls 24 6 1 k24, callsR 43 8 k43, callsR 56 9 (inJ (rs := rs) x.t.a hx.1 9), nisT 58 hI, isF 61 (b := !true) rfl, isF 69 (b := !(r1.ia == r1.ia && (r1.ip == r1.ip && true))) (by simp), callsR 102 10 (ouJ hn oa1 10), nisF 104 (b := outB oC rs oa1) g1.2.2.1, callsR 107 10 (inJ (rs := rs) oa1 g1.1 10), isF 109 (b := bif false then true else hasP ipC 8 oa1) g1.2.2.2.1, callsR 114 10 (inJ (rs := rs) ia1 g1.2.1 10), no 117 (b := bif false then true else !hasP ipC 8 ia1) (congrArg Bool.not g1.2.2.2.2), callsR 142 11 (ouJ hn xa2 11), nisF 144 (b := outB oC rs xa2) g2.2.2.1, callsR 147 11 (inJ (rs := rs) xa2 g2.1 11), isF 149 (b := bif false then true else hasP ipC 8 xa2) g2.2.2.2.1, callsR 154 11 (inJ (rs := rs) ia2 g2.2.1 11), no 157 (b := bif false then true else !hasP ipC 8 ia2) (congrArg Bool.not g2.2.2.2.2), bd 167] (ha := ha)
      · exact run (args := [.slice X n c, wireV k p f t b p0 p1 fl s]) [calls 3 1 4 (tabs_ne h hX 1), te, does 11 (args := [.string o]) c2, calls 24 6 1 k24, callsR 43 8 k43, callsR 56 9 (inJ (rs := rs) x.t.a hx.1 9), nisT 58 hI, isF 61 (b := !true) rfl, isF 69 (b := !(r1.ia == r1.ia && (r1.ip == r1.ip && true))) (by simp), callsR 102 10 (ouJ hn oa1 10), nisF 104 (b := outB oC rs oa1) g1.2.2.1, callsR 107 10 (inJ (rs := rs) oa1 g1.1 10), isF 109 (b := bif false then true else hasP ipC 8 oa1) g1.2.2.2.1, callsR 114 10 (inJ (rs := rs) ia1 g1.2.1 10), no 117 (b := bif false then true else !hasP ipC 8 ia1) (congrArg Bool.not g1.2.2.2.2), callsR 146 11 (ouJ hn oa2 11), nisF 148 (b := outB oC rs oa2) g2.2.2.1, callsR 151 11 (inJ (rs := rs) oa2 g2.1 11), isF 153 (b := bif false then true else hasP ipC 8 oa2) g2.2.2.2.1, callsR 158 11 (inJ (rs := rs) ia2 g2.2.1 11), no 161 (b := bif false then true else !hasP ipC 8 ia2) (congrArg Bool.not g2.2.2.2.2), bd 171] (ha := ha)
    · clear g2
      have g2 := g9
      cases fx1 <;> cases fx2
      · exact run (args := [.slice X n c, wireV k p f t b p0 p1 fl s]) [calls 3 1 4 (tabs_ne h hX 1), te, does 11 (args := [.string o]) c2, calls 24 6 1 k24, callsR 43 8 k43, callsR 56 9 (inJ (rs := rs) x.t.a hx.1 9), nisF 58 hI, callsR 98 10 (ouJ hn xa1 10), nisF 100 (b := outB oC rs xa1) g1.2.2.1, callsR 103 10 (inJ (rs := rs) xa1 g1.1 10), isF 105 (b := bif false then true else hasP ipC 8 xa1) g1.2.2.2.1, callsR 110 10 (inJ (rs := rs) ia1 g1.2.1 10), no 113 (b := bif false then true else !hasP ipC 8 ia1) (congrArg Bool.not g1.2.2.2.2), callsR 138 11 (ouJ hn xa2 11), nisF 140 (b := outB oC rs xa2) g2.2.2.1, callsR 143 11 (inJ (rs := rs) xa2 g2.1 11), isF 145 (b := bif false then true else hasP ipC 8 xa2) g2.2.2.2.1, callsR 150 11 (inJ (rs := rs) ia2 g2.2.1 11), no 153 (b := bif false then true else !hasP ipC 8 ia2) (congrArg Bool.not g2.2.2.2.2), bd 163] (ha := ha)
      · exact run (args := [.slice X n c, wireV k p f t b p0 p1 fl s]) [calls 3 1 4 (tabs_ne h hX 1), te, does 11 (args := [.string o]) c2, calls 24 6 1 k24, callsR 43 8 k43, callsR 56 9 (inJ (rs := rs) x.t.a hx.1 9), nisF 58 hI, callsR 98 10 (ouJ hn xa1 10), nisF 100 (b := outB oC rs xa1) g1.2.2.1, callsR 103 10 (inJ (rs := rs) xa1 g1.1 10), isF 105 (b := bif false then true else hasP ipC 8 xa1) g1.2.2.2.1, callsR 110 10 (inJ (rs := rs) ia1 g1.2.1 10), no 113 (b := bif false then true else !hasP ipC 8 ia1) (congrArg Bool.not g1.2.2.2.2), callsR 142 11 (ouJ hn oa2 11), nisF 144 (b := outB oC rs oa2) g2.2.2.1, callsR 147 11 (inJ (rs := rs) oa2 g2.1 11), isF 149 (b := bif false then true else hasP ipC 8 oa2) g2.2.2.2.1, callsR 154 11 (inJ (rs := rs) ia2 g2.2.1 11), no 157 (b := bif false then true else !hasP ipC 8 ia2) (congrArg Bool.not g2.2.2.2.2), bd 167] (ha := ha)
      · exact run (args := [.slice X n c, wireV k p f t b p0 p1 fl s]) [calls 3 1 4 (tabs_ne h hX 1), te, does 11 (args := [.string o]) c2, calls 24 6 1 k24, callsR 43 8 k43, callsR 56 9 (inJ (rs := rs) x.t.a hx.1 9), nisF 58 hI, callsR 102 10 (ouJ hn oa1 10), nisF 104 (b := outB oC rs oa1) g1.2.2.1, callsR 107 10 (inJ (rs := rs) oa1 g1.1 10), isF 109 (b := bif false then true else hasP ipC 8 oa1) g1.2.2.2.1, callsR 114 10 (inJ (rs := rs) ia1 g1.2.1 10), no 117 (b := bif false then true else !hasP ipC 8 ia1) (congrArg Bool.not g1.2.2.2.2), callsR 142 11 (ouJ hn xa2 11), nisF 144 (b := outB oC rs xa2) g2.2.2.1, callsR 147 11 (inJ (rs := rs) xa2 g2.1 11), isF 149 (b := bif false then true else hasP ipC 8 xa2) g2.2.2.2.1, callsR 154 11 (inJ (rs := rs) ia2 g2.2.1 11), no 157 (b := bif false then true else !hasP ipC 8 ia2) (congrArg Bool.not g2.2.2.2.2), bd 167] (ha := ha)
      · exact run (args := [.slice X n c, wireV k p f t b p0 p1 fl s]) [calls 3 1 4 (tabs_ne h hX 1), te, does 11 (args := [.string o]) c2, calls 24 6 1 k24, callsR 43 8 k43, callsR 56 9 (inJ (rs := rs) x.t.a hx.1 9), nisF 58 hI, callsR 102 10 (ouJ hn oa1 10), nisF 104 (b := outB oC rs oa1) g1.2.2.1, callsR 107 10 (inJ (rs := rs) oa1 g1.1 10), isF 109 (b := bif false then true else hasP ipC 8 oa1) g1.2.2.2.1, callsR 114 10 (inJ (rs := rs) ia1 g1.2.1 10), no 117 (b := bif false then true else !hasP ipC 8 ia1) (congrArg Bool.not g1.2.2.2.2), callsR 146 11 (ouJ hn oa2 11), nisF 148 (b := outB oC rs oa2) g2.2.2.1, callsR 151 11 (inJ (rs := rs) oa2 g2.1 11), isF 153 (b := bif false then true else hasP ipC 8 oa2) g2.2.2.2.1, callsR 158 11 (inJ (rs := rs) ia2 g2.2.1 11), no 161 (b := bif false then true else !hasP ipC 8 ia2) (congrArg Bool.not g2.2.2.2.2), bd 171] (ha := ha)
end Go.Proofs.YtilfcikhipadpaaGreatDoor
end

section
/- What the cards of binds list, out of what the row lists; the heap that the program's own door leaves meets it. -/
set_option linter.unusedVariables false
namespace Go.Proofs.YtilfcikhipadpaaGreatDoor
open Go.ChangeShapes Go.WideShapes Go.ChangeAt Go.WideMaps Go.WideElems Go.RowKit Go.Maps

def lastsTab : List (List Int) := [[0, 0, 0, 0, 0, 0, 0, 0], [0, 120, 300, 0, 0, 0, 0, 0], [0, 60, 60, 0, 0, 0, 0, 0], [0, 240, 240, 7440, 240, 240, 240, 240]]
theorem lasts_is : (Rows.laid_porter_track_lasts : DataW Unit) = .agg (lastsTab.map fun r => .agg (r.map fun n => .lit (.int .i64 n))) := rfl
theorem lasts_time : ∀ i : Fin 4, ∀ j : Fin 8, (lastsTab.getD i.val []).getD j.val 0 = timeV (i.val : Nat) (j.val : Nat) := by decide
theorem lasts_size : lastsTab.length = 4 ∧ ∀ i : Fin 4, (lastsTab.getD i.val []).length = 8 := by decide
theorem map_fst_at {α β γ : Type} {xs : List (α × β)} {l : List γ} {f : γ → α} (h : xs.map (·.1) = l.map f) {i : Nat} (hi : i < l.length) : ∃ y, xs[i]? = some (f l[i], y) := by
  have hx : i < xs.length := by have := congrArg List.length h; simp at this; omega
  refine ⟨xs[i].2, ?_⟩
  rw [List.getElem?_eq_getElem hx]
  have h1 : (xs.map (·.1))[i]? = (l.map f)[i]? := by rw [h]
  rw [List.getElem?_map, List.getElem?_map, List.getElem?_eq_getElem hx, List.getElem?_eq_getElem hi] at h1
  simp only [Option.map_some, Option.some.injEq] at h1
  rw [← h1]
theorem lasts_cells {w : World} {base : Nat} {spare : Nat → Bool} {held : Bool} {fuel : Nat} {enc : TypeId × Value → Unit} {cs : List Value} {ps : List MemPlace}
    (h : DataW.trod enc Tryz.prog w base spare held fuel 273 cs = some (Rows.laid_porter_track_lasts, ps)) (i j : Nat) (hi : i < 4) (hj : j < 8) : cs[i * 8 + j]? = some (.int .i64 (timeV i j)) := by
  obtain ⟨xs, m, _, hx, _, _, hg⟩ := DataW.trod_array (n := 4) (e := 272) (by kernel_rfl) h
  rw [lasts_is] at hx
  simp only [Prod.mk.injEq, DataW.agg.injEq] at hx
  obtain ⟨y, hy⟩ := map_fst_at (i := i) hx.1.symm (by rw [lasts_size.1]; exact hi)
  have h1 := hg i hi
  rw [hy, show Tryz.prog.cellsOf 272 = 8 from by kernel_rfl] at h1
  obtain ⟨zs, m2, _, hz, _, _, hg2⟩ := DataW.trod_array (n := 8) (e := 3) (by kernel_rfl) h1
  simp only [Prod.mk.injEq, DataW.agg.injEq] at hz
  have e1 : lastsTab[i]'(by rw [lasts_size.1]; exact hi) = lastsTab.getD i [] := by rw [List.getD_eq_getElem?_getD, List.getElem?_eq_getElem (by rw [lasts_size.1]; exact hi)]; rfl
  have e2 := lasts_size.2 ⟨i, hi⟩
  rw [e1] at hz
  obtain ⟨u, hu⟩ := map_fst_at (i := j) hz.1.symm (by rw [e2]; exact hj)
  have h2 := hg2 j hj
  rw [hu, show Tryz.prog.cellsOf 3 = 1 from by kernel_rfl] at h2
  obtain ⟨k, hk, hv, _⟩ := DataW.trod_int Tryz.underlying3 h2
  simp only [Prod.mk.injEq, DataW.lit.injEq, Lit.int.injEq, true_and] at hv
  have e3 := lasts_time ⟨i, hi⟩ ⟨j, hj⟩
  simp only at e3
  rw [List.getD_eq_getElem?_getD (l := lastsTab.getD i []), List.getElem?_eq_getElem (by rw [e2]; exact hj), Option.getD_some] at e3
  have hcell : (((cs.drop (i * 8)).take 8).drop (j * 1))[0]? = some (.int .i64 k) := by
    have := congrArg (fun l => l[0]?) hk
    simpa using this
  rw [List.getElem?_drop, Nat.mul_one, Nat.add_zero, List.getElem?_take_of_lt hj, List.getElem?_drop] at hcell
  rw [hcell, ← hv.1, e3]
def laidB : List (String × DataW Unit) := [("porter/track.lasts", Rows.laid_porter_track_lasts), ("porter/icmp.kinds", Rows.laid_porter_icmp_kinds)]
theorem gLasts : Tryz.prog.globalNamed "porter/track.lasts" = some 0 := by kernel_rfl
theorem tLasts : (Tryz.prog.globals[0]?).map (·.type) = some 273 := by kernel_rfl
theorem gKinds : Tryz.prog.globalNamed "porter/icmp.kinds" = some 2 := by kernel_rfl
theorem tKinds : (Tryz.prog.globals[2]?).map (·.type) = some 303 := by kernel_rfl
set_option maxRecDepth 100000 in
theorem b_of_laid {W : World} (h : laidMetH Tryz.prog laidB W) : Lasts W ∧ Kinds W := by
  rw [MakeChecks.laidMetH_plain _ _ _ (by kernel_rfl)] at h
  obtain ⟨ps, ⟨g1, t1, cs1, f1, p1, q1, hg1, ht1, hv1, hd1, ⟨g0, t0, cs0, f0, p0, q0, hg0, ht0, hv0, hd0, _, _⟩, _⟩, _, _⟩ := h
  refine ⟨fun i j hi hj => ?_, ?_⟩
  · obtain rfl := Option.some.inj (gLasts.symm.trans hg1)
    obtain rfl := Option.some.inj (tLasts.symm.trans ht1)
    have h1 := lasts_cells hd1 i j hi hj
    rw [World.var?_cell hg1 hv1]
    simpa using h1
  · obtain rfl := Option.some.inj (gKinds.symm.trans hg0)
    obtain rfl := Option.some.inj (tKinds.symm.trans ht0)
    rcases open_map Tryz.underlying303 hd0 with ⟨_, hx⟩ | ⟨bm, es, clock, m, rfl, hcs, hb, _, F, hx⟩
    · simp [Rows.laid_porter_icmp_kinds] at hx
    simp only [Prod.mk.injEq] at hx
    have hcell : W.cell? ⟨2, 0, none⟩ = some (.map (some bm)) := by
      have := World.var?_cell hg0 hv0 0
      rw [Array.eq_one_of_toList hcs] at this
      simpa using this
    have hown := World.ownsMap_of_fit (R := plainElem Tryz.prog 3) hb F (fun x _ z hz => elemAt_plainElem_int Tryz.underlying3 hz)
    rw [← hx.1] at hown
    exact ⟨bm, _, hcell, hown⟩
theorem b_met (os : Os) (args : Array Value) : laidMetH Tryz.prog laidB ((World.doorLaid Tryz.prog 400 os).forCall (fun _ _ => 0) ⟨#[], args, []⟩).memory :=
  laidMetH_of_parts3 (fuel := 8) (laidMet_of_run' 8 (by kernel_rfl) (by kernel_rfl)) (by kernel_rfl) (by kernel_rfl)
end Go.Proofs.YtilfcikhipadpaaGreatDoor
end
