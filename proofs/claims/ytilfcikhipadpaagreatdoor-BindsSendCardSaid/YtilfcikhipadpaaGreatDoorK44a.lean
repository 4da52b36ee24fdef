/- Several texts of this claim, one behind the other. -/
import Derived.Test.YtilfcikhipadpaaGreatDoorK43a
import Derived.Test.YtilfcikhipadpaaGreatDoorK40b
import Derived.ProofKit
import Derived.LaidMore
import Derived.OpenShut
import Derived.Stop.Joined
import Derived.MakeChecks

section
/- BindsOwn: its walk. -/
set_option linter.unusedVariables false
set_option linter.unusedSimpArgs false
namespace Go.Proofs.YtilfcikhipadpaaGreatDoor
open Go.RowKit Go.Lib Rx
/-- the rulings that came in, in all worlds behind -/
theorem rulg_at {w : World} {g of : Nat} {l : List Rulg} (h : rulgK.Has w (some ⟨g, of, none⟩) l) : RulgAt (Amb.of w) g of l := fun W hW j hj k u hu => by
  obtain ⟨g', o', e, hg, hc⟩ := (h.below hW) (by omega)
  simp only [Option.some.injEq, Addr.mk.injEq, and_true] at e
  obtain ⟨rfl, rfl⟩ := e
  exact hc j hj k u hu
theorem tabs_at {w : World} {X : Option Addr} {n c : Nat} {l : List Rulg} (hX : RealA X) (hn : n = l.length) (h : rulgK.Has w X l) (hok : ∀ d ∈ l, d.Ok) : TabsSay (Amb.of w) X n c := by
  subst hn
  rcases hX with rfl | ⟨g, of, rfl⟩
  · by_cases hl : 0 < l.length
    · obtain ⟨_, _, e, _⟩ := h hl; cases e
    · rw [show l.length = 0 by omega]; exact w_Tables0
  · exact w_Tables (rulg_at h) hok
@[reducible] def taP (t r : Nat) (rs : List Rule) : Nat × Blk := (t, taB oC ipC 8 (.slice (some ⟨r, 0, some 0⟩) rs.length 0))
@[reducible] def daP (t r : Nat) (rs : List Rule) : Nat × Blk := (t, daB oC ipC 8 (.slice (some ⟨r, 0, some 0⟩) rs.length 0))
theorem tabs_ne {A : Amb} {X : Option Addr} {n c : Nat} {rs : List Rule} (h : CallJ Tryz.prog A 14 [.slice X n c] [] 0 (.tuple #[ptr 0, ptr 1]) (bothM rs) 4) (hX : RealA X) (k : Nat) : CallJ Tryz.prog A 14 [.slice X n c] [] k (.tuple #[ptr k, ptr (1 + k)]) [taP k (2 + k) rs, daP (1 + k) (3 + k) rs, (2 + k, ruB rs), (3 + k, ruB rs)] (k + 4) := by
  have hi : inBlks 4 (bothM rs) = true := by
    simp only [inBlks, List.all_cons, List.all_nil, all_flat (p := inC 4) (f := ruL) (fun _ => rfl)]
    rfl
  have h1 : ([Value.slice X n c].all (inV 0)) = true := by rcases hX with rfl | ⟨g, of, rfl⟩ <;> rfl
  have q := CallJ.at (d := 4) (k := 0) h [] k (h1 := h1) (h4 := hi)
  have e1 : (bothM rs).map (idB (sig [] k)) = [taP k (2 + k) rs, daP (1 + k) (3 + k) rs, (2 + k, ruB rs), (3 + k, ruB rs)] := by
    simp only [List.map_cons, List.map_nil, idB, flat_id (f := ruL) (fun _ => rfl), id0, idS, idA, sig, List.getElem?_nil, List.length_nil, Nat.sub_zero, Nat.zero_add]
  have e2 : [Value.slice X n c].map (idV (sig [] k)) = [.slice X n c] := by rcases hX with rfl | ⟨g, of, rfl⟩ <;> rfl
  have e3 : idV (sig [] k) (.tuple #[ptr 0, ptr 1]) = .tuple #[ptr k, ptr (1 + k)] := by
    simp only [idV, id1, id0, idS, idA, List.map_cons, List.map_nil, sig, List.getElem?_nil, List.length_nil, Nat.sub_zero, Nat.zero_add]
  rw [e1, e2, e3] at q
  exact q
theorem tabs_nil {A : Amb} {X : Option Addr} {n c : Nat} (h : CallJ Tryz.prog A 14 [.slice X n c] [] 0 (.tuple #[ptr 0, ptr 1]) bothM0 2) (hX : RealA X) (k : Nat) : CallJ Tryz.prog A 14 [.slice X n c] [] k (.tuple #[ptr k, ptr (1 + k)]) [(k, taB oC ipC 8 (.slice none 0 0)), (1 + k, daB oC ipC 8 (.slice none 0 0))] (k + 2) := by
  have h1 : ([Value.slice X n c].all (inV 0)) = true := by rcases hX with rfl | ⟨g, of, rfl⟩ <;> rfl
  have q := CallJ.at (d := 2) (k := 0) h [] k (h1 := h1)
  have e2 : [Value.slice X n c].map (idV (sig [] k)) = [.slice X n c] := by rcases hX with rfl | ⟨g, of, rfl⟩ <;> rfl
  have e1 : bothM0.map (idB (sig [] k)) = [(k, taB oC ipC 8 (.slice none 0 0)), (1 + k, daB oC ipC 8 (.slice none 0 0))] := by
    simp only [List.map_cons, List.map_nil, idB, id0, idS, idA, sig, List.getElem?_nil, List.length_nil, Nat.sub_zero, Nat.zero_add]
  have e3 : idV (sig [] k) (.tuple #[ptr 0, ptr 1]) = .tuple #[ptr k, ptr (1 + k)] := by
    simp only [idV, id1, id0, idS, idA, List.map_cons, List.map_nil, sig, List.getElem?_nil, List.length_nil, Nat.sub_zero, Nat.zero_add]
  rw [e1, e2, e3] at q
  exact q
end Go.Proofs.YtilfcikhipadpaaGreatDoor
end

section
/- BindsSend: its loop, its walk. -/
set_option linter.unusedVariables false
set_option linter.unusedSimpArgs false
namespace Go.Proofs.YtilfcikhipadpaaGreatDoor
open Go.RowKit Go.Lib Rx
@[reducible] def bsV (s : ByteArray) (i : Nat) : List (Nat × Value) := [(5, ptr 1), (7, ptr 2), (8, ptr 3), (9, .string s), (10, .int .i64 (i : Int))]
@[reducible] def bsE (O R : Tup) (st dl : Int) (v : Value) : Blk := ([.int .u8 O.p, .int .u32 O.a, .int .u16 O.b, .int .u32 O.c, .int .u16 O.d, .int .u8 R.p, .int .u32 R.a, .int .u16 R.b, .int .u32 R.c, .int .u16 R.d, .int .i64 st, .int .i64 dl, v], 77, false)
@[reducible] def bsM (rs : List Rule) (O R : Tup) (st dl : Int) (v : Value) : List (Nat × Blk) := [(1, bsE O R st dl v), taP 2 4 rs, daP 3 5 rs, (4, ruB rs), (5, ruB rs)]
@[reducible] def bsM0 (O R : Tup) (st dl : Int) (v : Value) : List (Nat × Blk) := [(1, bsE O R st dl v), (2, taB oC ipC 8 (.slice none 0 0)), (3, daB oC ipC 8 (.slice none 0 0))]
theorem bs_nil (nx : Nat) : mov [] nx = fun j => j := funext fun j => mov_out (by simp)
theorem bsM_id (rs : List Rule) (O R : Tup) (st dl : Int) {X : Option Addr} (hX : RealA X) (n c : Nat) : (bsM rs O R st dl (.slice X n c)).map (idB (mov [] 6)) = bsM rs O R st dl (.slice X n c) := by
  rw [bs_nil]
  rcases hX with rfl | ⟨g, of, rfl⟩ <;> simp only [List.map_cons, List.map_nil, idB, flat_id (f := ruL) (fun _ => rfl), id0, idS, idA]
theorem bsM_live (rs : List Rule) (O R : Tup) (st dl : Int) {X : Option Addr} (hX : RealA X) (n c : Nat) : liveB [] 6 (bsM rs O R st dl (.slice X n c)) = true := by
  rcases hX with rfl | ⟨g, of, rfl⟩ <;> simp only [liveB, List.all_cons, List.all_nil, all_flat (p := in0 (live [] 6)) (f := ruL) (fun _ => rfl)] <;> rfl
theorem bsM_in (rs : List Rule) (O R : Tup) (st dl : Int) {X : Option Addr} (hX : RealA X) (n c : Nat) : inBlks 6 (bsM rs O R st dl (.slice X n c)) = true := by
  rcases hX with rfl | ⟨g, of, rfl⟩ <;> simp only [inBlks, List.all_cons, List.all_nil, all_flat (p := inC 6) (f := ruL) (fun _ => rfl)] <;> rfl
variable {A : Amb} {rs : List Rule} {s : ByteArray} {x : Seen} {y : Tup} {e : Int}
/-! ### both Sends and Doc, under the round's names -/
theorem doc_at {op oa ob oc od rp ra rb rc rd st dl : Int} {X : Option Addr} {n c : Nat} {l : List Hol} (hX : RealA X) (h : CallJ Tryz.prog A 24 [enV op oa ob oc od rp ra rb rc rd st dl (.slice X n c)] [] 0 (enV op oa ob oc od rp ra rb rc rd st dl (.slice (some ⟨0, 0, some 0⟩) l.length 0)) [(0, hdB l)] 1) (nx : Nat) :
    CallJ Tryz.prog A 24 [enV op oa ob oc od rp ra rb rc rd st dl (.slice X n c)] [] nx (enV op oa ob oc od rp ra rb rc rd st dl (.slice (some ⟨nx, 0, some 0⟩) l.length 0)) [(nx, hdB l)] (nx + 1) := by
  have hi : inBlks 1 [(0, hdB l)] = true := by
    simp only [inBlks, List.all_cons, List.all_nil, all_flat (p := inC 1) (f := hoL) (fun _ => rfl)]
    rfl
  have h1 : [enV op oa ob oc od rp ra rb rc rd st dl (.slice X n c)].all (inV 0) = true := by rcases hX with rfl | ⟨g, of, rfl⟩ <;> rfl
  have q := CallJ.at (d := 1) (k := 0) h [] nx (h1 := h1) (h4 := hi)
  have e1 : [(0, hdB l)].map (idB (sig [] nx)) = [(nx, hdB l)] := by
    simp only [List.map_cons, List.map_nil, idB, flat_id (f := hoL) (fun _ => rfl), sig, List.getElem?_nil, List.length_nil, Nat.sub_zero, Nat.zero_add]
  have e2 : [enV op oa ob oc od rp ra rb rc rd st dl (.slice X n c)].map (idV (sig [] nx)) = [enV op oa ob oc od rp ra rb rc rd st dl (.slice X n c)] := by rcases hX with rfl | ⟨g, of, rfl⟩ <;> rfl
  have e3 : idV (sig [] nx) (enV op oa ob oc od rp ra rb rc rd st dl (.slice (some ⟨0, 0, some 0⟩) l.length 0)) = enV op oa ob oc od rp ra rb rc rd st dl (.slice (some ⟨nx, 0, some 0⟩) l.length 0) := by
    simp only [idV, id1, id0, idS, idA, List.map_cons, List.map_nil, sig, List.getElem?_nil, List.length_nil, Nat.sub_zero, Nat.zero_add]
  rw [e1, e2, e3] at q
  exact q
theorem sd_at2 {f : FuncId} {args : List Value} {v : Value} {l : List Hol} (h : CallJ Tryz.prog A f args (dnM oC ipC 8 ++ [(1, hdB l)]) 2 v (dnM oC ipC 8 ++ [(1, hdB l)]) 2) (h1 : args.all (inV 2) = true) (h3 : inV 2 v = true) :
    CallJ Tryz.prog A f (args.map (idV (sig [3, 4] 5))) [(3, daB oC ipC 8 (.slice none 0 0)), (4, hdB l)] 5 (idV (sig [3, 4] 5) v) [(3, daB oC ipC 8 (.slice none 0 0)), (4, hdB l)] 5 := by
  have hi : inBlks 2 (dnM oC ipC 8 ++ [(1, hdB l)]) = true := by
    simp only [inBlks, dnM, List.cons_append, List.nil_append, List.all_cons, List.all_nil, all_flat (p := inC 2) (f := hoL) (fun _ => rfl)]
    rfl
  have q := CallJ.at (d := 0) h [3, 4] 5 (h1 := h1) (h2 := hi) (h3 := h3) (h4 := hi)
  have e1 : (dnM oC ipC 8 ++ [(1, hdB l)]).map (idB (sig [3, 4] 5)) = [(3, daB oC ipC 8 (.slice none 0 0)), (4, hdB l)] := by
    simp only [dnM, List.cons_append, List.nil_append, List.map_cons, List.map_nil, idB, flat_id (f := hoL) (fun _ => rfl), id0, idS, idA]
    rfl
  rw [e1] at q
  exact q
theorem sd_at3 {f : FuncId} {args : List Value} {v : Value} {l : List Hol} (h : CallJ Tryz.prog A f args (daM oC ipC 8 rs ++ [(2, hdB l)]) 3 v (daM oC ipC 8 rs ++ [(2, hdB l)]) 3) (h1 : args.all (inV 3) = true) (h3 : inV 3 v = true) :
    CallJ Tryz.prog A f (args.map (idV (sig [3, 5, 6] 7))) [daP 3 5 rs, (5, ruB rs), (6, hdB l)] 7 (idV (sig [3, 5, 6] 7) v) [daP 3 5 rs, (5, ruB rs), (6, hdB l)] 7 := by
  have hi : inBlks 3 (daM oC ipC 8 rs ++ [(2, hdB l)]) = true := by
    simp only [inBlks, daM, List.cons_append, List.nil_append, List.all_cons, List.all_nil, all_flat (p := inC 3) (f := ruL) (fun _ => rfl), all_flat (p := inC 3) (f := hoL) (fun _ => rfl)]
    rfl
  have q := CallJ.at (d := 0) h [3, 5, 6] 7 (h1 := h1) (h2 := hi) (h3 := h3) (h4 := hi)
  have e1 : (daM oC ipC 8 rs ++ [(2, hdB l)]).map (idB (sig [3, 5, 6] 7)) = [daP 3 5 rs, (5, ruB rs), (6, hdB l)] := by
    simp only [daM, daP, List.cons_append, List.nil_append, List.map_cons, List.map_nil, idB, flat_id (f := ruL) (fun _ => rfl), flat_id (f := hoL) (fun _ => rfl), id0, idS, idA]
    rfl
  rw [e1] at q
  exact q
/-- a round that gives no names -/
theorem round0 {P : Program} {c : Code} {n nx d : Nat} {vals vals' : List (Nat × Value)} {sn out' : List (Nat × Blk)} {base : List Nat} {x : X} (h : CodeJ P A c n vals sn (nx + 0) x vals' out' (nx + 0 + d)) (h1 : (vals'.map fun e => (e.1, idV (mov [] nx) e.2)) = vals' := by kernel_rfl) (h2 : out'.map (idB (mov [] nx)) = out' := by kernel_rfl)
    (ho : outOK (sn.map (·.1)) (nx + 0) d out' = true := by kernel_rfl) (hb : outOK base nx (0 + d) out' = true := by kernel_rfl) (h3 : vals'.all (fun e => liveV [] nx e.2) = true := by kernel_rfl) (h4 : liveB [] nx out' = true := by kernel_rfl) :
    CodeR P A c n vals sn base nx 0 x vals' out' 0 := CodeJ.round (m := 0) (d := d) (v1 := vals') (o1 := out') h [] (h1 := h1) (h2 := h2) (ho := ho) (hb := hb) (h3 := h3) (h4 := h4)
/-! ### a round -/
@[reducible] def nO (i : Nat) (O y : Tup) : Tup := if i = 1 then O else y
@[reducible] def nR (i : Nat) (O y : Tup) : Tup := if i = 1 then y else O
/-- what the entry's holds give, as the document's -/
def HoldsSay (A : Amb) (X : Option Addr) (n c : Nat) (l : List Hol) : Prop := ∀ (O R : Tup) (st dl : Int), CallJ Tryz.prog A 24 [enT O R st dl (.slice X n c)] [] 0 (enT O R st dl (.slice none 0 0)) [] 0 ∨ CallJ Tryz.prog A 24 [enT O R st dl (.slice X n c)] [] 0 (enT O R st dl (.slice (some ⟨0, 0, some 0⟩) l.length 0)) [(0, hdB l)] 1
theorem bs_on (hK : ∀ W, A.S W → Kinds W) (hs : s.size ≤ 140737488351232) (he : seeV (seenOf s) (seenWhy s) (inTup s) (emsWhy s) = glanceV x y e) (hx : 0 ≤ x.t.a ∧ x.t.a ≤ 4294967295) {X : Option Addr} (hX : RealA X) {n c : Nat} {l : List Hol} (hD : HoldsSay A X n c l) {O R : Tup} (hO : TR O) (hR : TR R) (st dl : Int) {i : Nat} (hi : i < 3) :
    CodeR Tryz.prog A (loopOf Tryz.prog 6) 82 (bsV s i) (bsM rs O R st dl (.slice X n c)) [1, 2, 3, 4, 5] 6 0 .nrm (bsV s (i + 1)) (bsM rs (nO i O y) (nR i O y) st dl (.slice X n c)) 0 := by
  have kb := snd_b (A := A) (rs := rs) hK (.inr rfl) n c hX hs he hx hO hR st dl
  have kd1 := snd_d (A := A) (rs := rs) (hs' := l) (.inl ⟨rfl, rfl, .inr rfl⟩) hs he hx hO hR st dl
  have kd2 := snd_d (A := A) (rs := rs) (hs' := l) (.inr (.inr ⟨rfl, rfl, rfl⟩)) hs he hx hO hR st dl
  obtain ⟨S, r, hv⟩ := snd_val s x y e O R
  rw [hv] at kb kd1 kd2
  have c3 := fun W (_ : A.S W) => d_See s W hs
  rw [he] at c3
  have h2 := bsM_id rs (nO i O y) (nR i O y) st dl hX n c
  have h4 := bsM_live rs (nO i O y) (nR i O y) st dl hX n c
  rcases hD O R st dl with kd | kd
  · have kd := CallJ.lvl kd 6
    rcases hX with rfl | ⟨g, of, rfl⟩ <;> rcases i with _ | _ | _ | i
    all_goals first | (exfalso; omega) | exact round0 (d := 1) (code [calls 6 6 0 (at_ta (d := 0) (r1 := 1) (rs' := rs) kb 2 4 6), calls 15 6 0 kd, calls 16 6 0 (at_da (d := 0) (r1 := 1) (rs' := rs) (CallJ.lvl kd1 2) 3 5 6), isF 25 (b := !(S.toList == S.toList)) (by simp), no 30 (b := bif false then true else r != r) (by simp), does 32 (args := [.string s]) c3]) (h2 := h2) (h4 := h4)
  · have kd := doc_at hX kd 6
    rcases hX with rfl | ⟨g, of, rfl⟩ <;> rcases i with _ | _ | _ | i
    all_goals first | (exfalso; omega) | exact round0 (d := 2) (code [calls 6 6 0 (at_ta (d := 0) (r1 := 1) (rs' := rs) kb 2 4 6), calls 15 6 1 kd, calls 16 7 0 (sd_at3 kd2 rfl rfl), isF 25 (b := !(S.toList == S.toList)) (by simp), no 30 (b := bif false then true else r != r) (by simp), does 32 (args := [.string s]) c3]) (h2 := h2) (h4 := h4)
theorem bs0_on (hK : ∀ W, A.S W → Kinds W) (hs : s.size ≤ 140737488351232) (he : seeV (seenOf s) (seenWhy s) (inTup s) (emsWhy s) = glanceV x y e) (hx : 0 ≤ x.t.a ∧ x.t.a ≤ 4294967295) {X : Option Addr} (hX : RealA X) {n c : Nat} {l : List Hol} (hD : HoldsSay A X n c l) {O R : Tup} (hO : TR O) (hR : TR R) (st dl : Int) {i : Nat} (hi : i < 3) :
    CodeR Tryz.prog A (loopOf Tryz.prog 6) 82 (bsV s i) (bsM0 O R st dl (.slice X n c)) [1, 2, 3] 4 0 .nrm (bsV s (i + 1)) (bsM0 (nO i O y) (nR i O y) st dl (.slice X n c)) 0 := by
  have kb := snd_b (A := A) (rs := []) hK (.inl ⟨rfl, rfl⟩) n c hX hs he hx hO hR st dl
  have kd1 := snd_d (A := A) (rs := []) (hs' := l) (.inl ⟨rfl, rfl, .inl ⟨rfl, rfl⟩⟩) hs he hx hO hR st dl
  have kd2 := snd_d (A := A) (rs := []) (hs' := l) (.inr (.inl ⟨rfl, rfl, rfl⟩)) hs he hx hO hR st dl
  obtain ⟨S, r, hv⟩ := snd_val s x y e O R
  rw [hv] at kb kd1 kd2
  have c3 := fun W (_ : A.S W) => d_See s W hs
  rw [he] at c3
  rcases hD O R st dl with kd | kd
  · have kd := CallJ.lvl kd 4
    rcases hX with rfl | ⟨g, of, rfl⟩ <;> rcases i with _ | _ | _ | i
    all_goals first | (exfalso; omega) | exact round0 (d := 1) (code [calls 6 4 0 ((CallJ.lvl kb 1).at (d := 0) [2] 4), calls 15 4 0 kd, calls 16 4 0 ((CallJ.lvl kd1 1).at (d := 0) [3] 4), isF 25 (b := !(S.toList == S.toList)) (by simp), no 30 (b := bif false then true else r != r) (by simp), does 32 (args := [.string s]) c3])
  · have kd := doc_at hX kd 4
    rcases hX with rfl | ⟨g, of, rfl⟩ <;> rcases i with _ | _ | _ | i
    all_goals first | (exfalso; omega) | exact round0 (d := 2) (code [calls 6 4 0 ((CallJ.lvl kb 1).at (d := 0) [2] 4), calls 15 4 1 kd, calls 16 5 0 (sd_at2 (CallJ.lvl kd2 2) rfl rfl), isF 25 (b := !(S.toList == S.toList)) (by simp), no 30 (b := bif false then true else r != r) (by simp), does 32 (args := [.string s]) c3])
theorem bs_end (O R : Tup) (st dl : Int) {X : Option Addr} (hX : RealA X) (n c : Nat) : CodeR Tryz.prog A (loopOf Tryz.prog 6) 82 (bsV s 3) (bsM rs O R st dl (.slice X n c)) [1, 2, 3, 4, 5] 6 0 (.ex 0) [] [] 0 := by
  rcases hX with rfl | ⟨g, of, rfl⟩ <;> exact round0 (d := 0) (code [])
theorem bs0_end (O R : Tup) (st dl : Int) {X : Option Addr} (hX : RealA X) (n c : Nat) : CodeR Tryz.prog A (loopOf Tryz.prog 6) 82 (bsV s 3) (bsM0 O R st dl (.slice X n c)) [1, 2, 3] 4 0 (.ex 0) [] [] 0 := by
  rcases hX with rfl | ⟨g, of, rfl⟩ <;> exact round0 (d := 0) (code [])
theorem bsM_ok (O R : Tup) (st dl : Int) {X : Option Addr} (hX : RealA X) (n c : Nat) {sn0 : List (Nat × Blk)} (h : sn0.map (·.1) = [1, 2, 3, 4, 5]) : outOK (sn0.map (·.1)) 6 0 (bsM rs O R st dl (.slice X n c)) = true := by
  rw [h]; rcases hX with rfl | ⟨g, of, rfl⟩ <;> rfl
theorem bsM0_ok (O R : Tup) (st dl : Int) {X : Option Addr} (hX : RealA X) (n c : Nat) {sn0 : List (Nat × Blk)} (h : sn0.map (·.1) = [1, 2, 3]) : outOK (sn0.map (·.1)) 4 0 (bsM0 O R st dl (.slice X n c)) = true := by
  rw [h]; rcases hX with rfl | ⟨g, of, rfl⟩ <;> rfl
theorem bs_loop (hK : ∀ W, A.S W → Kinds W) (hs : s.size ≤ 140737488351232) (he : seeV (seenOf s) (seenWhy s) (inTup s) (emsWhy s) = glanceV x y e) (hx : 0 ≤ x.t.a ∧ x.t.a ≤ 4294967295) (hy : TR y) {X : Option Addr} (hX : RealA X) {n c : Nat} {l : List Hol} (hD : HoldsSay A X n c l) {O R : Tup} (hO : TR O) (hR : TR R) (st dl : Int) :
    CodeJ Tryz.prog A (.loop (loopOf Tryz.prog 6)) 82 (bsV s 0) (bsM rs O R st dl (.slice X n c)) 6 (.ex 0) [] [] 6 :=
  LoopI.toJ (m2 := 0) [] (LoopI.cons (bs_on hK hs he hx hX hD hO hR st dl (i := 0) (by decide)) (LoopI.cons (bs_on hK hs he hx hX hD hy hO st dl (i := 1) (by decide)) (LoopI.cons (bs_on hK hs he hx hX hD hy hy st dl (i := 2) (by decide)) (LoopI.nil (bs_end _ _ st dl hX n c) (ho := bsM_ok _ _ st dl hX n c rfl)) (ho := bsM_ok _ _ st dl hX n c rfl)) (ho := bsM_ok _ _ st dl hX n c rfl)) (ho := bsM_ok _ _ st dl hX n c rfl)) (hs := bsM_id rs O R st dl hX n c) (l2 := bsM_live rs O R st dl hX n c) (i2 := bsM_in rs O R st dl hX n c)
theorem bs0_loop (hK : ∀ W, A.S W → Kinds W) (hs : s.size ≤ 140737488351232) (he : seeV (seenOf s) (seenWhy s) (inTup s) (emsWhy s) = glanceV x y e) (hx : 0 ≤ x.t.a ∧ x.t.a ≤ 4294967295) (hy : TR y) {X : Option Addr} (hX : RealA X) {n c : Nat} {l : List Hol} (hD : HoldsSay A X n c l) {O R : Tup} (hO : TR O) (hR : TR R) (st dl : Int) :
    CodeJ Tryz.prog A (.loop (loopOf Tryz.prog 6)) 82 (bsV s 0) (bsM0 O R st dl (.slice X n c)) 4 (.ex 0) [] [] 4 := by
  have z : (bsM0 O R st dl (.slice X n c)).map (idB (mov [] 4)) = bsM0 O R st dl (.slice X n c) := by
    rw [bs_nil]; rcases hX with rfl | ⟨g, of, rfl⟩ <;> rfl
  have z2 : liveB [] 4 (bsM0 O R st dl (.slice X n c)) = true := by rcases hX with rfl | ⟨g, of, rfl⟩ <;> rfl
  have z3 : inBlks 4 (bsM0 O R st dl (.slice X n c)) = true := by rcases hX with rfl | ⟨g, of, rfl⟩ <;> rfl
  exact LoopI.toJ (m2 := 0) [] (LoopI.cons (bs0_on hK hs he hx hX hD hO hR st dl (i := 0) (by decide)) (LoopI.cons (bs0_on hK hs he hx hX hD hy hO st dl (i := 1) (by decide)) (LoopI.cons (bs0_on hK hs he hx hX hD hy hy st dl (i := 2) (by decide)) (LoopI.nil (bs0_end _ _ st dl hX n c) (ho := bsM0_ok _ _ st dl hX n c rfl)) (ho := bsM0_ok _ _ st dl hX n c rfl)) (ho := bsM0_ok _ _ st dl hX n c rfl)) (ho := bsM0_ok _ _ st dl hX n c rfl)) (hs := z) (l2 := z2) (i2 := z3)
theorem holds_say {w : World} {X : Option Addr} {n c : Nat} {l : List Hol} (hX : RealA X) (hn : n = l.length) (h : holdK.Has w X l) (h5 : n ≤ 5) : HoldsSay (Amb.of w) X n c l := fun O R st dl => by
  refine doc_J _ _ _ _ _ _ _ _ _ _ st dl hX hn (by omega) (fun g of e => hold_at (by rw [← e]; exact h)) ?_
  by_cases hl : 0 < l.length
  · obtain ⟨_, _, e, _⟩ := h hl; exact .inr (by rw [e]; simp)
  · exact .inl (List.length_eq_zero_iff.1 (by omega))
theorem BindsSend_walk (X : Option Addr) (n c : Nat) (l : List Rulg) (k p f t b p0 p1 fl : Int) (s : ByteArray) (op oa ob oc od rp ra rb rc rd st dl : Int) (Y : Option Addr) (n2 c2 : Nat) (l2 : List Hol) (w : World) (K0 : Lasts w ∧ Kinds w) (hl : n = l.length ∧ n ≤ c ∧ rulgK.Has w X l ∧ rulgK.Read w (.slice X n c) l ∧ (∀ d ∈ l, d.Ok) ∧ n ≤ 9223372036854775807) (hX : RealA X)
    (hk : 0 ≤ k ∧ k ≤ 255) (hp : 0 ≤ p ∧ p ≤ 255) (hf : 0 ≤ f ∧ f ≤ 255) (ht : 0 ≤ t ∧ t ≤ 255) (hb : 0 ≤ b ∧ b ≤ 255) (h0 : 0 ≤ p0 ∧ p0 ≤ 255) (h1 : 0 ≤ p1 ∧ p1 ≤ 255) (hfl : 0 ≤ fl ∧ fl ≤ 255) (hs : s.size ≤ 140737488351232)
    (hop : 0 ≤ op ∧ op ≤ 255) (hoa : 0 ≤ oa ∧ oa ≤ 4294967295) (hob : 0 ≤ ob ∧ ob ≤ 65535) (hoc : 0 ≤ oc ∧ oc ≤ 4294967295) (hod : 0 ≤ od ∧ od ≤ 65535) (hrp : 0 ≤ rp ∧ rp ≤ 255) (hra : 0 ≤ ra ∧ ra ≤ 4294967295) (hrb : 0 ≤ rb ∧ rb ≤ 65535) (hrc : 0 ≤ rc ∧ rc ≤ 4294967295) (hrd : 0 ≤ rd ∧ rd ≤ 65535)
    (hst : -9223372036854775808 ≤ st ∧ st ≤ 9223372036854775807) (hdl : -9223372036854775808 ≤ dl ∧ dl ≤ 9223372036854775807) (hh : n2 = l2.length ∧ n2 ≤ c2 ∧ holdK.Has w Y l2 ∧ holdK.Read w (.slice Y n2 c2) l2 ∧ (∀ d ∈ l2, d.Ok) ∧ n2 ≤ 9223372036854775807) (hY : RealA Y) :
    Calls Tryz.prog 6 #[.slice X n c, wireV k p f t b p0 p1 fl s, enV op oa ob oc od rp ra rb rc rd st dl (.slice Y n2 c2)] w (Ret (.bool true) w) := by
  have ha : [Value.slice X n c, wireV k p f t b p0 p1 fl s, enV op oa ob oc od rp ra rb rc rd st dl (.slice Y n2 c2)].all real = true := by rcases hX with rfl | ⟨g, of, rfl⟩ <;> rcases hY with rfl | ⟨g2, of2, rfl⟩ <;> rfl
  let bd : ∀ m, Ev Tryz.prog (Amb.of w) := fun m => does m (args := []) (v := .bool true) fun W h => rx_bound W (K0.1.below h)
  by_cases h5 : n2 ≤ 5
  rotate_left
  · rcases hX with rfl | ⟨g, of, rfl⟩ <;> rcases hY with rfl | ⟨g2, of2, rfl⟩ <;> exact run (args := [.slice _ n c, wireV k p f t b p0 p1 fl s, enV op oa ob oc od rp ra rb rc rd st dl (.slice _ n2 c2)]) [isT 7 (b := decide ((n2 : Int) > 5)) (by simp; omega), bd 14]
  have g7 : decide ((n2 : Int) > 5) = false := by simp; omega
  by_cases h22 : s.size ≤ 2200
  rotate_left
  · rcases hX with rfl | ⟨g, of, rfl⟩ <;> rcases hY with rfl | ⟨g2, of2, rfl⟩ <;> exact run (args := [.slice _ n c, wireV k p f t b p0 p1 fl s, enV op oa ob oc od rp ra rb rc rd st dl (.slice _ n2 c2)]) [isF 7 g7, yes 13 (b := bif false then true else decide ((s.size : Int) > 2200)) (by simp; omega), bd 14]
  have g13 : (bif false then true else decide ((s.size : Int) > 2200)) = false := by simp; omega
  obtain ⟨o, z, ct⟩ := w_Text k p f t b p0 p1 fl s w ⟨hp.1, hf.1, ht.1, h0.1, h1.1, hfl.1⟩ hb.1 hfl.2 hs
  obtain ⟨x, y, e, he, hx, hy⟩ := see_is o
  have T := tabs_at (c := c) hX hl.1 hl.2.2.1 hl.2.2.2.2.1
  have D := holds_say (c := c2) hY hh.1 hh.2.2.1 h5
  let te : Ev Tryz.prog (Amb.of w) := does 22 (args := [wireV k p f t b p0 p1 fl s]) ct
  have hK : ∀ W, (Amb.of w).S W → Kinds W := fun W h => K0.2.below h
  rcases T with h | ⟨rs, hR, h⟩
  · have q := bs0_loop (A := Amb.of w) (O := ⟨op, oa, ob, oc, od⟩) (R := ⟨rp, ra, rb, rc, rd⟩) hK z he hx hy hY D ⟨hoa, hob, hoc, hod⟩ ⟨hra, hrb, hrc, hrd⟩ st dl
    have k4 := tabs_nil h hX 2
    rcases hX with rfl | ⟨g, of, rfl⟩ <;> rcases hY with rfl | ⟨g2, of2, rfl⟩ <;> exact run (args := [.slice _ n c, wireV k p f t b p0 p1 fl s, enV op oa ob oc od rp ra rb rc rd st dl (.slice _ n2 c2)]) [isF 7 g7, no 13 g13, calls 15 2 2 k4, te, loops 25 4 0 q, bd 25]
  · have q := bs_loop (A := Amb.of w) (rs := rs) (O := ⟨op, oa, ob, oc, od⟩) (R := ⟨rp, ra, rb, rc, rd⟩) hK z he hx hy hY D ⟨hoa, hob, hoc, hod⟩ ⟨hra, hrb, hrc, hrd⟩ st dl
    have k4 := tabs_ne h hX 2
    rcases hX with rfl | ⟨g, of, rfl⟩ <;> rcases hY with rfl | ⟨g2, of2, rfl⟩ <;> exact run (args := [.slice _ n c, wireV k p f t b p0 p1 fl s, enV op oa ob oc od rp ra rb rc rd st dl (.slice _ n2 c2)]) [isF 7 g7, no 13 g13, calls 15 2 4 k4, te, loops 25 6 0 q, bd 25]
end Go.Proofs.YtilfcikhipadpaaGreatDoor
end

section
/- What the cards of binds list, out of what the row lists; the heap that the program's own door leaves meets it. -/
set_option linter.unusedVariables false
namespace Go.Proofs.YtilfcikhipadpaaGreatDoor
open Go.ChangeShapes Go.WideShapes Go.ChangeAt Go.WideMaps Go.WideElems Go.RowKit Go.Maps

def lastsTab : List (List Int) := [[0, 0, 0, 0, 0, 0, 0, 0], [0, 120, 300, 0, 0, 0, 0, 0], [0, 60, 60, 0, 0, 0, 0, 0], [0, 240, 240, 7440, 240, 240, 240, 240]]
theorem lasts_is : (Rows.laid_porter_track_lasts : DataW Unit) = .agg (lastsTab.map fun r => .agg (r.map fun n => .lit (.int .i64 n))) := rfl
theorem lasts_time : ∀ i : Fin 4, ∀ j : Fin 8, (lastsTab.getD i.val []).getD j.val 0 = timeV (i.val : Nat) (j.val : Nat) := by decide
theorem lasts_size : lastsTab.length = 4 ∧ ∀ i : Fin 4, (lastsTab.getD i.val []).length = 8 := by decide
theorem map_fst_at {α β γ : Type} {xs : List (α × β)} {l : List γ} {f : γ → α} (h : xs.map (·.1) = l.map f) {i : Nat} (hi : i < l.length) : ∃ y, xs[i]? = some (f l[i], y) := by
  have hx : i < xs.length := by have := congrArg List.length h; simp at this; omega
  refine ⟨xs[i].2, ?_⟩
  rw [List.getElem?_eq_getElem hx]
  have h1 : (xs.map (·.1))[i]? = (l.map f)[i]? := by rw [h]
  rw [List.getElem?_map, List.getElem?_map, List.getElem?_eq_getElem hx, List.getElem?_eq_getElem hi] at h1
  simp only [Option.map_some, Option.some.injEq] at h1
  rw [← h1]
theorem lasts_cells {w : World} {base : Nat} {spare : Nat → Bool} {held : Bool} {fuel : Nat} {enc : TypeId × Value → Unit} {cs : List Value} {ps : List MemPlace}
    (h : DataW.trod enc Tryz.prog w base spare held fuel 273 cs = some (Rows.laid_porter_track_lasts, ps)) (i j : Nat) (hi : i < 4) (hj : j < 8) : cs[i * 8 + j]? = some (.int .i64 (timeV i j)) := by
  obtain ⟨xs, m, _, hx, _, _, hg⟩ := DataW.trod_array (n := 4) (e := 272) (by kernel_rfl) h
  rw [lasts_is] at hx
  simp only [Prod.mk.injEq, DataW.agg.injEq] at hx
  obtain ⟨y, hy⟩ := map_fst_at (i := i) hx.1.symm (by rw [lasts_size.1]; exact hi)
  have h1 := hg i hi
  rw [hy, show Tryz.prog.cellsOf 272 = 8 from by kernel_rfl] at h1
  obtain ⟨zs, m2, _, hz, _, _, hg2⟩ := DataW.trod_array (n := 8) (e := 3) (by kernel_rfl) h1
  simp only [Prod.mk.injEq, DataW.agg.injEq] at hz
  have e1 : lastsTab[i]'(by rw [lasts_size.1]; exact hi) = lastsTab.getD i [] := by rw [List.getD_eq_getElem?_getD, List.getElem?_eq_getElem (by rw [lasts_size.1]; exact hi)]; rfl
  have e2 := lasts_size.2 ⟨i, hi⟩
  rw [e1] at hz
  obtain ⟨u, hu⟩ := map_fst_at (i := j) hz.1.symm (by rw [e2]; exact hj)
  have h2 := hg2 j hj
  rw [hu, show Tryz.prog.cellsOf 3 = 1 from by kernel_rfl] at h2
  obtain ⟨k, hk, hv, _⟩ := DataW.trod_int Tryz.underlying3 h2
  simp only [Prod.mk.injEq, DataW.lit.injEq, Lit.int.injEq, true_and] at hv
  have e3 := lasts_time ⟨i, hi⟩ ⟨j, hj⟩
  simp only at e3
  rw [List.getD_eq_getElem?_getD (l := lastsTab.getD i []), List.getElem?_eq_getElem (by rw [e2]; exact hj), Option.getD_some] at e3
  have hcell : (((cs.drop (i * 8)).take 8).drop (j * 1))[0]? = some (.int .i64 k) := by
    have := congrArg (fun l => l[0]?) hk
    simpa using this
  rw [List.getElem?_drop, Nat.mul_one, Nat.add_zero, List.getElem?_take_of_lt hj, List.getElem?_drop] at hcell
  rw [hcell, ← hv.1, e3]
def laidB : List (String × DataW Unit) := [("porter/track.lasts", Rows.laid_porter_track_lasts), ("porter/icmp.kinds", Rows.laid_porter_icmp_kinds)]
theorem gLasts : Tryz.prog.globalNamed "porter/track.lasts" = some 0 := by kernel_rfl
theorem tLasts : (Tryz.prog.globals[0]?).map (·.type) = some 273 := by kernel_rfl
theorem gKinds : Tryz.prog.globalNamed "porter/icmp.kinds" = some 2 := by kernel_rfl
theorem tKinds : (Tryz.prog.globals[2]?).map (·.type) = some 303 := by kernel_rfl
set_option maxRecDepth 100000 in
theorem b_of_laid {W : World} (h : laidMetH Tryz.prog laidB W) : Lasts W ∧ Kinds W := by
  rw [MakeChecks.laidMetH_plain _ _ _ (by kernel_rfl)] at h
  obtain ⟨ps, ⟨g1, t1, cs1, f1, p1, q1, hg1, ht1, hv1, hd1, ⟨g0, t0, cs0, f0, p0, q0, hg0, ht0, hv0, hd0, _, _⟩, _⟩, _, _⟩ := h
  refine ⟨fun i j hi hj => ?_, ?_⟩
  · obtain rfl := Option.some.inj (gLasts.symm.trans hg1)
    obtain rfl := Option.some.inj (tLasts.symm.trans ht1)
    have h1 := lasts_cells hd1 i j hi hj
    rw [World.var?_cell hg1 hv1]
    simpa using h1
  · obtain rfl := Option.some.inj (gKinds.symm.trans hg0)
    obtain rfl := Option.some.inj (tKinds.symm.trans ht0)
    rcases open_map Tryz.underlying303 hd0 with ⟨_, hx⟩ | ⟨bm, es, clock, m, rfl, hcs, hb, _, F, hx⟩
    · simp [Rows.laid_porter_icmp_kinds] at hx
    simp only [Prod.mk.injEq] at hx
    have hcell : W.cell? ⟨2, 0, none⟩ = some (.map (some bm)) := by
      have := World.var?_cell hg0 hv0 0
      rw [Array.eq_one_of_toList hcs] at this
      simpa using this
    have hown := World.ownsMap_of_fit (R := plainElem Tryz.prog 3) hb F (fun x _ z hz => elemAt_plainElem_int Tryz.underlying3 hz)
    rw [← hx.1] at hown
    exact ⟨bm, _, hcell, hown⟩
theorem b_met (os : Os) (args : Array Value) : laidMetH Tryz.prog laidB ((World.doorLaid Tryz.prog 400 os).forCall (fun _ _ => 0) ⟨#[], args, []⟩).memory :=
  laidMetH_of_parts3 (fuel := 8) (laidMet_of_run' 8 (by kernel_rfl) (by kernel_rfl)) (by kernel_rfl) (by kernel_rfl)
end Go.Proofs.YtilfcikhipadpaaGreatDoor
end
