/- Several texts of this claim, one behind the other. -/
import Derived.Test.YtilfcikhipadpaaGreatDoorK37a
import Derived.ProofKit
import Derived.LaidMore
import Derived.OpenShut
import Derived.Stop.Joined
import Derived.MakeChecks

section
/- BindsOwn: its walk. -/
set_option linter.unusedVariables false
set_option linter.unusedSimpArgs false
namespace Go.Proofs.YtilfcikhipadpaaGreatDoor
open Go.RowKit Go.Lib Rx
/-- the rulings that came in, in all worlds behind -/
theorem rulg_at {w : World} {g of : Nat} {l : List Rulg} (h : rulgK.Has w (some ⟨g, of, none⟩) l) : RulgAt (Amb.of w) g of l := fun W hW j hj k u hu => by
  obtain ⟨g', o', e, hg, hc⟩ := (h.below hW) (by omega)
  simp only [Option.some.injEq, Addr.mk.injEq, and_true] at e
  obtain ⟨rfl, rfl⟩ := e
  exact hc j hj k u hu
theorem tabs_at {w : World} {X : Option Addr} {n c : Nat} {l : List Rulg} (hX : RealA X) (hn : n = l.length) (h : rulgK.Has w X l) (hok : ∀ d ∈ l, d.Ok) : TabsSay (Amb.of w) X n c := by
  subst hn
  rcases hX with rfl | ⟨g, of, rfl⟩
  · by_cases hl : 0 < l.length
    · obtain ⟨_, _, e, _⟩ := h hl; cases e
    · rw [show l.length = 0 by omega]; exact w_Tables0
  · exact w_Tables (rulg_at h) hok
@[reducible] def taP (t r : Nat) (rs : List Rule) : Nat × Blk := (t, taB oC ipC 8 (.slice (some ⟨r, 0, some 0⟩) rs.length 0))
@[reducible] def daP (t r : Nat) (rs : List Rule) : Nat × Blk := (t, daB oC ipC 8 (.slice (some ⟨r, 0, some 0⟩) rs.length 0))
theorem tabs_ne {A : Amb} {X : Option Addr} {n c : Nat} {rs : List Rule} (h : CallJ Tryz.prog A 14 [.slice X n c] [] 0 (.tuple #[ptr 0, ptr 1]) (bothM rs) 4) (hX : RealA X) (k : Nat) : CallJ Tryz.prog A 14 [.slice X n c] [] k (.tuple #[ptr k, ptr (1 + k)]) [taP k (2 + k) rs, daP (1 + k) (3 + k) rs, (2 + k, ruB rs), (3 + k, ruB rs)] (k + 4) := by
  have hi : inBlks 4 (bothM rs) = true := by
    simp only [inBlks, List.all_cons, List.all_nil, all_flat (p := inC 4) (f := ruL) (fun _ => rfl)]
    rfl
  have h1 : ([Value.slice X n c].all (inV 0)) = true := by rcases hX with rfl | ⟨g, of, rfl⟩ <;> rfl
  have q := CallJ.at (d := 4) (k := 0) h [] k (h1 := h1) (h4 := hi)
  have e1 : (bothM rs).map (idB (sig [] k)) = [taP k (2 + k) rs, daP (1 + k) (3 + k) rs, (2 + k, ruB rs), (3 + k, ruB rs)] := by
    simp only [List.map_cons, List.map_nil, idB, flat_id (f := ruL) (fun _ => rfl), id0, idS, idA, sig, List.getElem?_nil, List.length_nil, Nat.sub_zero, Nat.zero_add]
  have e2 : [Value.slice X n c].map (idV (sig [] k)) = [.slice X n c] := by rcases hX with rfl | ⟨g, of, rfl⟩ <;> rfl
  have e3 : idV (sig [] k) (.tuple #[ptr 0, ptr 1]) = .tuple #[ptr k, ptr (1 + k)] := by
    simp only [idV, id1, id0, idS, idA, List.map_cons, List.map_nil, sig, List.getElem?_nil, List.length_nil, Nat.sub_zero, Nat.zero_add]
  rw [e1, e2, e3] at q
  exact q
theorem tabs_nil {A : Amb} {X : Option Addr} {n c : Nat} (h : CallJ Tryz.prog A 14 [.slice X n c] [] 0 (.tuple #[ptr 0, ptr 1]) bothM0 2) (hX : RealA X) (k : Nat) : CallJ Tryz.prog A 14 [.slice X n c] [] k (.tuple #[ptr k, ptr (1 + k)]) [(k, taB oC ipC 8 (.slice none 0 0)), (1 + k, daB oC ipC 8 (.slice none 0 0))] (k + 2) := by
  have h1 : ([Value.slice X n c].all (inV 0)) = true := by rcases hX with rfl | ⟨g, of, rfl⟩ <;> rfl
  have q := CallJ.at (d := 2) (k := 0) h [] k (h1 := h1)
  have e2 : [Value.slice X n c].map (idV (sig [] k)) = [.slice X n c] := by rcases hX with rfl | ⟨g, of, rfl⟩ <;> rfl
  have e1 : bothM0.map (idB (sig [] k)) = [(k, taB oC ipC 8 (.slice none 0 0)), (1 + k, daB oC ipC 8 (.slice none 0 0))] := by
    simp only [List.map_cons, List.map_nil, idB, id0, idS, idA, sig, List.getElem?_nil, List.length_nil, Nat.sub_zero, Nat.zero_add]
  have e3 : idV (sig [] k) (.tuple #[ptr 0, ptr 1]) = .tuple #[ptr k, ptr (1 + k)] := by
    simp only [idV, id1, id0, idS, idA, List.map_cons, List.map_nil, sig, List.getElem?_nil, List.length_nil, Nat.sub_zero, Nat.zero_add]
  rw [e1, e2, e3] at q
  exact q
end Go.Proofs.YtilfcikhipadpaaGreatDoor
end

section
/- BindsOf: its loop, its walk. -/
set_option linter.unusedVariables false
set_option linter.unusedSimpArgs false
namespace Go.Proofs.YtilfcikhipadpaaGreatDoor
open Go.RowKit Go.Lib Rx
@[reducible] def obV (lk i : Nat) : List (Nat × Value) := [(5, ptr 1), (7, ptr 2), (8, ptr 3), (9, ptr lk), (11, .int .i64 (i : Int))]
/-- what is looked at: what is seen, and a key -/
@[reducible] def lkB (x : Seen) (y : Tup) : Blk := ([.int .u8 x.t.p, .int .u32 x.t.a, .int .u16 x.t.b, .int .u32 x.t.c, .int .u16 x.t.d, .int .i64 x.k, .int .u8 x.f, .bool x.q, .int .u8 x.l, .int .u8 y.p, .int .u32 y.a, .int .u16 y.b, .int .u32 y.c, .int .u16 y.d], 37, false)
@[reducible] def seB (x : Seen) : Blk := ([.int .u8 x.t.p, .int .u32 x.t.a, .int .u16 x.t.b, .int .u32 x.t.c, .int .u16 x.t.d, .int .i64 x.k, .int .u8 x.f, .bool x.q, .int .u8 x.l], 35, false)
@[reducible] def obM (rs : List Rule) (x X : Seen) (y : Tup) : List (Nat × Blk) := [(1, seB x), taP 2 4 rs, daP 3 5 rs, (4, ruB rs), (5, ruB rs), (6, lkB X y)]
@[reducible] def obM0 (x X : Seen) (y : Tup) : List (Nat × Blk) := [(1, seB x), (2, taB oC ipC 8 (.slice none 0 0)), (3, daB oC ipC 8 (.slice none 0 0)), (4, lkB X y)]
theorem mov_nil (nx : Nat) : mov [] nx = fun j => j := funext fun j => mov_out (by simp)
theorem obM_id (rs : List Rule) (x X : Seen) (y : Tup) : (obM rs x X y).map (idB (mov [] 7)) = obM rs x X y := by
  rw [mov_nil]
  simp only [List.map_cons, List.map_nil, idB, flat_id (f := ruL) (fun _ => rfl), id0, idS, idA]
theorem obM_live (rs : List Rule) (x X : Seen) (y : Tup) : liveB [] 7 (obM rs x X y) = true := by
  simp only [liveB, List.all_cons, List.all_nil, all_flat (p := in0 (live [] 7)) (f := ruL) (fun _ => rfl)]
  rfl
theorem obM_in (rs : List Rule) (x X : Seen) (y : Tup) : inBlks 7 (obM rs x X y) = true := by
  simp only [inBlks, List.all_cons, List.all_nil, all_flat (p := inC 7) (f := ruL) (fun _ => rfl)]
  rfl
variable {A : Amb} {rs : List Rule} {i : Nat}
def nxB (k : Nat) {i : Nat} (h : i < 2) : Ev Tryz.prog A := is k (x := .int .i64 (IntKind.wrap .i64 ((i : Int) + 1))) (y := .int .i64 ((i + 1 : Nat) : Int)) (by rw [Value.int.injEq]; exact ⟨rfl, wrap_next (by omega)⟩)
@[reducible] def wtE (fx : Bool) (ia ip oa op xa xf xt : Int) : Bool := fx == fx && (ia == ia && (ip == ip && true) && (oa == oa && (op == op && true) && (xa == xa && (xf == xf && (xt == xt && true)))))
theorem ob_on (hn : rs.length ≤ 1000) (hR : ∀ r ∈ rs, r.Ok) (x X : Seen) (y : Tup) (hX : X.Rg) (hL : ∀ W, A.S W → Lasts W) (hi : i < 2) :
    CodeR Tryz.prog A (loopOf Tryz.prog 4) 76 (obV 6 i) (obM rs x X y) [1, 2, 3, 4, 5, 6] 7 0 .nrm (obV 6 (i + 1)) (obM rs x x y) 0 := by
  have k1 := fun nx h2 h4 => b_OfN (A := A) (rs := rs) (o := oC) (b := 8) hn hR (by decide : (0 : Int) ≤ ipC ∧ ipC ≤ 4294967295) X.t.p X.t.a X.t.b X.t.c X.t.d X.k X.f X.l X.q hX.1 hX.2.1 hL 2 4 nx h2 h4
  have k2 := fun nx h2 h4 => d_OfN (A := A) (rs := rs) (o := oC) (b := 8) hn hR (by decide : (0 : Int) ≤ ipC ∧ ipC ≤ 4294967295) X.t.p X.t.a X.t.b X.t.c X.t.d X.k X.f X.l X.q hX.1 hX.2.1 hX.2.2 3 5 nx h2 h4
  have fl4 := of_fail (o := oC) (ip := ipC) (b := 8) rs X.t.p X.t.a X.t.b X.t.c X.t.d X.k X.f X.q
  have fo := of_two oC ipC 8 rs X.t.p X.t.a X.t.b X.t.c X.t.d X.k X.f X.q
  generalize ofQ oC ipC 8 rs X.t.p X.t.a X.t.b X.t.c X.t.d X.k X.f X.q = R at k1 k2 fl4 fo
  rcases fl4 with (rfl | rfl | rfl) | hz
  iterate 3
    · exact CodeJ.round (m := 0) (d := 9) (v1 := obV 6 (i + 1)) (o1 := obM rs x x y) (code [yes 2 (b := decide ((i : Int) < 2)) (by simp; omega), calls 6 7 0 (k1 7 rfl rfl), calls 21 10 0 (k2 10 rfl rfl), nxB 112 hi]) [] (h2 := obM_id _ _ _ _) (h4 := obM_live _ _ _ _)
  obtain ⟨e1, q1, q2, q3, q4, q5, ei, ep, src, st, ws⟩ := R
  simp only at hz fo
  subst hz
  rcases fo rfl with ⟨⟨fx1, ia1, ip1, oa1, op1, xa1, xf1, xt1⟩, rfl⟩ | ⟨⟨fx1, ia1, ip1, oa1, op1, xa1, xf1, xt1⟩, ⟨fx2, ia2, ip2, oa2, op2, xa2, xf2, xt2⟩, rfl⟩
  · exact CodeJ.round (m := 0) (d := 13) (v1 := obV 6 (i + 1)) (o1 := obM rs x x y) (code [yes 2 (b := decide ((i : Int) < 2)) (by simp; omega), calls 6 7 1 (k1 7 rfl rfl), calls 21 11 1 (k2 11 rfl rfl),
      isF 85 (b := !(q1 == q1 && (q2 == q2 && (q3 == q3 && true) && (q4 == q4 && (q5 == q5 && true) && true)))) (by simp), isF 92 (b := !(ei == ei && (ep == ep && true))) (by simp), isF 99 (b := !(src == src)) (by simp), isF 106 (b := !(st == st)) (by simp),
      no 134 (b := bif false then wtE fx1 ia1 ip1 oa1 op1 xa1 xf1 xt1 else !wtE fx1 ia1 ip1 oa1 op1 xa1 xf1 xt1) (by simp [wtE]), nxB 153 hi]) [] (h2 := obM_id _ _ _ _) (h4 := obM_live _ _ _ _)
  · exact CodeJ.round (m := 0) (d := 15) (v1 := obV 6 (i + 1)) (o1 := obM rs x x y) (code [yes 2 (b := decide ((i : Int) < 2)) (by simp; omega), calls 6 7 1 (k1 7 rfl rfl), calls 21 11 1 (k2 11 rfl rfl),
      isF 105 (b := !(q1 == q1 && (q2 == q2 && (q3 == q3 && true) && (q4 == q4 && (q5 == q5 && true) && true)))) (by simp), isF 112 (b := !(ei == ei && (ep == ep && true))) (by simp), isF 119 (b := !(src == src)) (by simp), isF 126 (b := !(st == st)) (by simp),
      no 154 (b := bif false then wtE fx1 ia1 ip1 oa1 op1 xa1 xf1 xt1 else !wtE fx1 ia1 ip1 oa1 op1 xa1 xf1 xt1) (by simp [wtE]), no 175 (b := bif false then wtE fx2 ia2 ip2 oa2 op2 xa2 xf2 xt2 else !wtE fx2 ia2 ip2 oa2 op2 xa2 xf2 xt2) (by simp [wtE]), nxB 194 hi]) [] (h2 := obM_id _ _ _ _) (h4 := obM_live _ _ _ _)
theorem ob0_on (x X : Seen) (y : Tup) (hX : X.Rg) (hL : ∀ W, A.S W → Lasts W) (hi : i < 2) :
    CodeR Tryz.prog A (loopOf Tryz.prog 4) 76 (obV 4 i) (obM0 x X y) [1, 2, 3, 4] 5 0 .nrm (obV 4 (i + 1)) (obM0 x x y) 0 := by
  obtain ⟨r, hr, hr3⟩ := of_none (o := oC) (ip := ipC) (b := 8) X.t.p X.t.a X.t.b X.t.c X.t.d X.k X.f X.q
  have hip : (0 : Int) ≤ ipC ∧ ipC ≤ 4294967295 := by decide
  have k1 := b_Of0 (A := A) hip X.t.p X.t.a X.t.b X.t.c X.t.d X.k X.f X.l X.q hX.1 hX.2.1 hL 2 5 rfl hr
  have k2 := d_Of0 (A := A) hip X.t.p X.t.a X.t.b X.t.c X.t.d X.k X.f X.l X.q hX.1 hX.2.1 hX.2.2 3 8 rfl hr
  rcases hr3 with rfl | rfl | rfl <;> exact CodeJ.round (m := 0) (d := 9) (v1 := obV 4 (i + 1)) (o1 := obM0 x x y) (code [yes 2 (b := decide ((i : Int) < 2)) (by simp; omega), calls 6 5 0 k1, calls 21 8 0 k2, nxB 112 hi]) []
theorem ob_end (x X : Seen) (y : Tup) : CodeR Tryz.prog A (loopOf Tryz.prog 4) 76 (obV 6 2) (obM rs x X y) [1, 2, 3, 4, 5, 6] 7 0 (.ex 0) [(5, ptr 1)] [(1, seB x)] 0 :=
  CodeJ.round (m := 0) (d := 0) (v1 := [(5, ptr 1)]) (o1 := [(1, seB x)]) (code []) []
theorem ob0_end (x X : Seen) (y : Tup) : CodeR Tryz.prog A (loopOf Tryz.prog 4) 76 (obV 4 2) (obM0 x X y) [1, 2, 3, 4] 5 0 (.ex 0) [(5, ptr 1)] [(1, seB x)] 0 :=
  CodeJ.round (m := 0) (d := 0) (v1 := [(5, ptr 1)]) (o1 := [(1, seB x)]) (code []) []
theorem obM_ok {sn0 : List (Nat × Blk)} (x X : Seen) (y : Tup) (h : sn0.map (·.1) = [1, 2, 3, 4, 5, 6]) : outOK (sn0.map (·.1)) 7 0 (obM rs x X y) = true := by rw [h]; rfl
theorem ob_loop (hn : rs.length ≤ 1000) (hR : ∀ r ∈ rs, r.Ok) (x X : Seen) (y : Tup) (hx : x.Rg) (hX : X.Rg) (hL : ∀ W, A.S W → Lasts W) :
    CodeJ Tryz.prog A (.loop (loopOf Tryz.prog 4)) 76 (obV 6 0) (obM rs x X y) 7 (.ex 0) [(5, ptr 1)] [(1, seB x)] 7 :=
  LoopI.toJ (m2 := 0) [] (LoopI.cons (ob_on hn hR x X y hX hL (by decide)) (LoopI.cons (ob_on hn hR x x y hx hL (by decide)) (LoopI.nil (ob_end x x y) (ho := obM_ok x x y rfl)) (ho := obM_ok x x y rfl)) (ho := obM_ok x X y rfl)) (hs := obM_id rs x X y) (l2 := obM_live rs x X y) (i2 := obM_in rs x X y)
theorem ob0_loop (x X : Seen) (y : Tup) (hx : x.Rg) (hX : X.Rg) (hL : ∀ W, A.S W → Lasts W) :
    CodeJ Tryz.prog A (.loop (loopOf Tryz.prog 4)) 76 (obV 4 0) (obM0 x X y) 5 (.ex 0) [(5, ptr 1)] [(1, seB x)] 5 :=
  LoopI.toJ (m2 := 0) [] (LoopI.cons (ob0_on x X y hX hL (by decide)) (LoopI.cons (ob0_on x x y hx hL (by decide)) (LoopI.nil (ob0_end x x y))))
theorem BindsOf_walk (X : Option Addr) (n c : Nat) (l : List Rulg) (k p f t b p0 p1 fl : Int) (s : ByteArray) (xp xa xb xc xd xk xf : Int) (xq : Bool) (xl : Int) (w : World) (K0 : Lasts w ∧ Kinds w) (hl : n = l.length ∧ n ≤ c ∧ rulgK.Has w X l ∧ rulgK.Read w (.slice X n c) l ∧ (∀ d ∈ l, d.Ok) ∧ n ≤ 9223372036854775807) (hX : RealA X)
    (hk : 0 ≤ k ∧ k ≤ 255) (hp : 0 ≤ p ∧ p ≤ 255) (hf : 0 ≤ f ∧ f ≤ 255) (ht : 0 ≤ t ∧ t ≤ 255) (hb : 0 ≤ b ∧ b ≤ 255) (h0 : 0 ≤ p0 ∧ p0 ≤ 255) (h1 : 0 ≤ p1 ∧ p1 ≤ 255) (hfl : 0 ≤ fl ∧ fl ≤ 255) (hs : s.size ≤ 140737488351232)
    (hxp : 0 ≤ xp ∧ xp ≤ 255) (hxa : 0 ≤ xa ∧ xa ≤ 4294967295) (hxb : 0 ≤ xb ∧ xb ≤ 65535) (hxc : 0 ≤ xc ∧ xc ≤ 4294967295) (hxd : 0 ≤ xd ∧ xd ≤ 65535) (hxk : -9223372036854775808 ≤ xk ∧ xk ≤ 9223372036854775807) (hxf : 0 ≤ xf ∧ xf ≤ 255) (hxl : 0 ≤ xl ∧ xl ≤ 255) :
    Calls Tryz.prog 4 #[.slice X n c, wireV k p f t b p0 p1 fl s, seL xp xa xb xc xd xk xf xq xl] w (Ret (.bool true) w) := by
  have ha : [Value.slice X n c, wireV k p f t b p0 p1 fl s, seL xp xa xb xc xd xk xf xq xl].all real = true := by rcases hX with rfl | ⟨g, of, rfl⟩ <;> rfl
  let bd : ∀ m, Ev Tryz.prog (Amb.of w) := fun m => does m (args := []) (v := .bool true) fun W h => rx_bound W (K0.1.below h)
  obtain ⟨o, z, ct⟩ := w_Text k p f t b p0 p1 fl s w ⟨hp.1, hf.1, ht.1, h0.1, h1.1, hfl.1⟩ hb.1 hfl.2 hs
  have c2 : ∀ W, Below w.heap.size w W → _ := fun W h => b_See o W (K0.2.below h) z
  obtain ⟨x, y, e, he, hx⟩ := seeV_rg o (seenWhy o) (inTup o) (emsWhy o)
  rw [he] at c2
  have hL : ∀ W, (Amb.of w).S W → Lasts W := fun W h => K0.1.below h
  have T := tabs_at (c := c) hX hl.1 hl.2.2.1 hl.2.2.2.2.1
  let te : Ev Tryz.prog (Amb.of w) := does 11 (args := [wireV k p f t b p0 p1 fl s]) ct
  have hx2 : (⟨⟨xp, xa, xb, xc, xd⟩, xk, xf, xq, xl⟩ : Seen).Rg := ⟨hxa, hxc, hxf⟩
  rcases T with h | ⟨rs, hR, h⟩
  · have q := ob0_loop (A := Amb.of w) ⟨⟨xp, xa, xb, xc, xd⟩, xk, xf, xq, xl⟩ x y hx2 hx hL
    cases h3 : xk == 3
    · exact run (args := [.slice X n c, wireV k p f t b p0 p1 fl s, seL xp xa xb xc xd xk xf xq xl]) [calls 4 2 2 (tabs_nil h hX 2), te, does 12 (args := [.string o]) c2, loops 20 5 0 q, no 27 h3, bd 249] (ha := ha)
    · exact run (args := [.slice X n c, wireV k p f t b p0 p1 fl s, seL xp xa xb xc xd xk xf xq xl]) [calls 4 2 2 (tabs_nil h hX 2), te, does 12 (args := [.string o]) c2, loops 20 5 0 q, yes 27 h3, bd 116] (ha := ha)
  · have q := ob_loop (A := Amb.of w) (rs := rs) (by have := hR.2.1; omega) (fun r hr => (hR.2.2 r hr).2) ⟨⟨xp, xa, xb, xc, xd⟩, xk, xf, xq, xl⟩ x y hx2 hx hL
    cases h3 : xk == 3
    · exact run (args := [.slice X n c, wireV k p f t b p0 p1 fl s, seL xp xa xb xc xd xk xf xq xl]) [calls 4 2 4 (tabs_ne h hX 2), te, does 12 (args := [.string o]) c2, loops 20 7 0 q, no 27 h3, bd 249] (ha := ha)
    · exact run (args := [.slice X n c, wireV k p f t b p0 p1 fl s, seL xp xa xb xc xd xk xf xq xl]) [calls 4 2 4 (tabs_ne h hX 2), te, does 12 (args := [.string o]) c2, loops 20 7 0 q, yes 27 h3, bd 116] (ha := ha)
end Go.Proofs.YtilfcikhipadpaaGreatDoor
end

section
/- What the cards of binds list, out of what the row lists; the heap that the program's own door leaves meets it. -/
set_option linter.unusedVariables false
namespace Go.Proofs.YtilfcikhipadpaaGreatDoor
open Go.ChangeShapes Go.WideShapes Go.ChangeAt Go.WideMaps Go.WideElems Go.RowKit Go.Maps

def lastsTab : List (List Int) := [[0, 0, 0, 0, 0, 0, 0, 0], [0, 120, 300, 0, 0, 0, 0, 0], [0, 60, 60, 0, 0, 0, 0, 0], [0, 240, 240, 7440, 240, 240, 240, 240]]
theorem lasts_is : (Rows.laid_porter_track_lasts : DataW Unit) = .agg (lastsTab.map fun r => .agg (r.map fun n => .lit (.int .i64 n))) := rfl
theorem lasts_time : ∀ i : Fin 4, ∀ j : Fin 8, (lastsTab.getD i.val []).getD j.val 0 = timeV (i.val : Nat) (j.val : Nat) := by decide
theorem lasts_size : lastsTab.length = 4 ∧ ∀ i : Fin 4, (lastsTab.getD i.val []).length = 8 := by decide
theorem map_fst_at {α β γ : Type} {xs : List (α × β)} {l : List γ} {f : γ → α} (h : xs.map (·.1) = l.map f) {i : Nat} (hi : i < l.length) : ∃ y, xs[i]? = some (f l[i], y) := by
  have hx : i < xs.length := by have := congrArg List.length h; simp at this; omega
  refine ⟨xs[i].2, ?_⟩
  rw [List.getElem?_eq_getElem hx]
  have h1 : (xs.map (·.1))[i]? = (l.map f)[i]? := by rw [h]
  rw [List.getElem?_map, List.getElem?_map, List.getElem?_eq_getElem hx, List.getElem?_eq_getElem hi] at h1
  simp only [Option.map_some, Option.some.injEq] at h1
  rw [← h1]
theorem lasts_cells {w : World} {base : Nat} {spare : Nat → Bool} {held : Bool} {fuel : Nat} {enc : TypeId × Value → Unit} {cs : List Value} {ps : List MemPlace}
    (h : DataW.trod enc Tryz.prog w base spare held fuel 273 cs = some (Rows.laid_porter_track_lasts, ps)) (i j : Nat) (hi : i < 4) (hj : j < 8) : cs[i * 8 + j]? = some (.int .i64 (timeV i j)) := by
  obtain ⟨xs, m, _, hx, _, _, hg⟩ := DataW.trod_array (n := 4) (e := 272) (by kernel_rfl) h
  rw [lasts_is] at hx
  simp only [Prod.mk.injEq, DataW.agg.injEq] at hx
  obtain ⟨y, hy⟩ := map_fst_at (i := i) hx.1.symm (by rw [lasts_size.1]; exact hi)
  have h1 := hg i hi
  rw [hy, show Tryz.prog.cellsOf 272 = 8 from by kernel_rfl] at h1
  obtain ⟨zs, m2, _, hz, _, _, hg2⟩ := DataW.trod_array (n := 8) (e := 3) (by kernel_rfl) h1
  simp only [Prod.mk.injEq, DataW.agg.injEq] at hz
  have e1 : lastsTab[i]'(by rw [lasts_size.1]; exact hi) = lastsTab.getD i [] := by rw [List.getD_eq_getElem?_getD, List.getElem?_eq_getElem (by rw [lasts_size.1]; exact hi)]; rfl
  have e2 := lasts_size.2 ⟨i, hi⟩
  rw [e1] at hz
  obtain ⟨u, hu⟩ := map_fst_at (i := j) hz.1.symm (by rw [e2]; exact hj)
  have h2 := hg2 j hj
  rw [hu, show Tryz.prog.cellsOf 3 = 1 from by kernel_rfl] at h2
  obtain ⟨k, hk, hv, _⟩ := DataW.trod_int Tryz.underlying3 h2
  simp only [Prod.mk.injEq, DataW.lit.injEq, Lit.int.injEq, true_and] at hv
  have e3 := lasts_time ⟨i, hi⟩ ⟨j, hj⟩
  simp only at e3
  rw [List.getD_eq_getElem?_getD (l := lastsTab.getD i []), List.getElem?_eq_getElem (by rw [e2]; exact hj), Option.getD_some] at e3
  have hcell : (((cs.drop (i * 8)).take 8).drop (j * 1))[0]? = some (.int .i64 k) := by
    have := congrArg (fun l => l[0]?) hk
    simpa using this
  rw [List.getElem?_drop, Nat.mul_one, Nat.add_zero, List.getElem?_take_of_lt hj, List.getElem?_drop] at hcell
  rw [hcell, ← hv.1, e3]
def laidB : List (String × DataW Unit) := [("porter/track.lasts", Rows.laid_porter_track_lasts), ("porter/icmp.kinds", Rows.laid_porter_icmp_kinds)]
theorem gLasts : Tryz.prog.globalNamed "porter/track.lasts" = some 0 := by kernel_rfl
theorem tLasts : (Tryz.prog.globals[0]?).map (·.type) = some 273 := by kernel_rfl
theorem gKinds : Tryz.prog.globalNamed "porter/icmp.kinds" = some 2 := by kernel_rfl
theorem tKinds : (Tryz.prog.globals[2]?).map (·.type) = some 303 := by kernel_rfl
set_option maxRecDepth 100000 in
theorem b_of_laid {W : World} (h : laidMetH Tryz.prog laidB W) : Lasts W ∧ Kinds W := by
  rw [MakeChecks.laidMetH_plain _ _ _ (by kernel_rfl)] at h
  obtain ⟨ps, ⟨g1, t1, cs1, f1, p1, q1, hg1, ht1, hv1, hd1, ⟨g0, t0, cs0, f0, p0, q0, hg0, ht0, hv0, hd0, _, _⟩, _⟩, _, _⟩ := h
  refine ⟨fun i j hi hj => ?_, ?_⟩
  · obtain rfl := Option.some.inj (gLasts.symm.trans hg1)
    obtain rfl := Option.some.inj (tLasts.symm.trans ht1)
    have h1 := lasts_cells hd1 i j hi hj
    rw [World.var?_cell hg1 hv1]
    simpa using h1
  · obtain rfl := Option.some.inj (gKinds.symm.trans hg0)
    obtain rfl := Option.some.inj (tKinds.symm.trans ht0)
    rcases open_map Tryz.underlying303 hd0 with ⟨_, hx⟩ | ⟨bm, es, clock, m, rfl, hcs, hb, _, F, hx⟩
    · simp [Rows.laid_porter_icmp_kinds] at hx
    simp only [Prod.mk.injEq] at hx
    have hcell : W.cell? ⟨2, 0, none⟩ = some (.map (some bm)) := by
      have := World.var?_cell hg0 hv0 0
      rw [Array.eq_one_of_toList hcs] at this
      simpa using this
    have hown := World.ownsMap_of_fit (R := plainElem Tryz.prog 3) hb F (fun x _ z hz => elemAt_plainElem_int Tryz.underlying3 hz)
    rw [← hx.1] at hown
    exact ⟨bm, _, hcell, hown⟩
theorem b_met (os : Os) (args : Array Value) : laidMetH Tryz.prog laidB ((World.doorLaid Tryz.prog 400 os).forCall (fun _ _ => 0) ⟨#[], args, []⟩).memory :=
  laidMetH_of_parts3 (fuel := 8) (laidMet_of_run' 8 (by kernel_rfl) (by kernel_rfl)) (by kernel_rfl) (by kernel_rfl)
end Go.Proofs.YtilfcikhipadpaaGreatDoor
end
