/- Several texts of this claim, one behind the other. -/
import Derived.Test.YtilfcikhipadpaaGreatDoorK10b
import Derived.Test.YtilfcikhipadpaaGreatDoorProg

section
/- the document's rules: loops over a table, by the executor: printed (gen/ways.py, gen/rules.spec.py). -/
set_option linter.unusedVariables false
set_option linter.unusedSimpArgs false
namespace Go.Proofs.YtilfcikhipadpaaGreatDoor
open Go.RowKit Go.Lib Rx
variable {A : Amb} {rs : List Rule}
@[reducible] def daB (o ip b : Int) (v : Value) : Blk := ([.int .u32 o, .int .u32 ip, .int .i64 b, v], 199, false)
@[reducible] def daM (o ip b : Int) (rs : List Rule) : List (Nat × Blk) := [(0, daB o ip b (.slice (some ⟨1, 0, some 0⟩) rs.length 0)), (1, ruB rs)]
@[reducible] def dnM (o ip b : Int) : List (Nat × Blk) := [(0, daB o ip b (.slice none 0 0))]
def rIx (n nx : Nat) {i : Nat} (hi : i < rs.length) : Ev Tryz.prog A := idx n nx (b := ruB rs) (T := 115) (ty := 0) (ik := .i64) (id := 1) (off := 0) (q := 0) (len := rs.length) (c := 0) (j := i) (s := 11) hi
def rLd (n nx : Nat) {i : Nat} (hi : i < rs.length) : Ev Tryz.prog A := ld n nx (T := 68) (ty := 0) (id := 1) (off := 0 + i * 11) (q := 0) (k := 11) (b := ruB rs) (vs := ruL rs[i]) (by show _ ≤ (rs.flatMap ruL).length; rw [flat_len ruL_len]; have := fit_le (c := 11) hi; omega) (by rw [Nat.zero_add]; exact cut_flat ruL_len rs i hi)
def nxE (n : Nat) {i : Nat} (hi : i < rs.length) (hn : rs.length ≤ 1000) : Ev Tryz.prog A := is n (x := .int .i64 (IntKind.wrap .i64 ((i : Int) + 1))) (y := .int .i64 ((i + 1 : Nat) : Int)) (by rw [Value.int.injEq]; exact ⟨rfl, wrap_next (by omega)⟩)
theorem dcl_J (o ip b : Int) (x r : Rule) (n : Nat) (h2 : 2 ≤ n := by decide) : CallJ Tryz.prog A 98 [ptr 0, .agg (ruL x).toArray, .agg (ruL r).toArray] [(0, daB o ip b (.slice (some ⟨1, 0, some 0⟩) rs.length 0))] n (.bool (dcq o x r)) [(0, daB o ip b (.slice (some ⟨1, 0, some 0⟩) rs.length 0))] n := by
  refine CallJ.up ?_ h2
  rw [← dclash_val o ip b (.slice (some ⟨1, 0, some 0⟩) rs.length 0) x r]
  exact rd_Clash o ip b _ _ _ _ _ _ _ _ _ _ _ _ _ _ _ _ _ _ _ _ _ _ _ rfl
theorem dmy_J (o ip b : Int) (v : Value) (r : Rule) (hip : 0 ≤ ip ∧ ip ≤ 4294967295) (hr : r.Ok) (n : Nat) (h2 : 2 ≤ n := by decide) (hv : inC 2 v = true := by kernel_rfl) : CallJ Tryz.prog A 97 [ptr 0, .agg (ruL r).toArray] [(0, daB o ip b v)] n (.bool (mayR ip b r)) [(0, daB o ip b v)] n := by
  refine CallJ.up ?_ h2 (h2 := by simp only [inBlks, List.all_cons, List.all_nil, hv]; rfl)
  rw [← dmay_val o ip b v r hr]
  exact rd_May o ip b v r.k r.p r.sa r.sb r.da r.db r.e r.f r.t r.ia r.ip hip hr hv
@[reducible] def ds_V (o ip b q ei ep : Int) (rs : List Rule) (i : Nat) : List (Nat × Value) := [(0, ptr 0), (1, .int .u8 q), (5, ptr 2), (6, ptr 3), (7, .bool false), (8, .int .i64 (i : Int))]
@[reducible] def ds_M (o ip b q ei ep : Int) (rs : List Rule) (r : Rule) : List (Nat × Blk) := daM o ip b rs ++ [(2, ([.int .u32 ei, .int .u16 ep], 31, false)), (3, (ruL r, 68, false))]
@[reducible] def do_V := ds_V
@[reducible] def do_M := ds_M
@[reducible] def du_V (o ip b q si sp di dp : Int) (rs : List Rule) (i : Nat) : List (Nat × Value) := [(0, ptr 0), (3, ptr 2), (4, ptr 3), (5, .bool false), (6, .int .i64 (i : Int))]
@[reducible] def du_M (o ip b q si sp di dp : Int) (rs : List Rule) (r : Rule) : List (Nat × Blk) := daM o ip b rs ++ [(2, ([.int .u8 q, .int .u32 si, .int .u16 sp, .int .u32 di, .int .u16 dp], 33, false)), (3, (ruL r, 68, false))]
@[reducible] def dt_V (o ip b a : Int) (rs : List Rule) (i : Nat) : List (Nat × Value) := [(0, ptr 0), (1, .int .u32 a), (4, .bool false), (5, .int .i64 (i : Int))]
@[reducible] def dt_M (o ip b a : Int) (rs : List Rule) : List (Nat × Blk) := daM o ip b rs
@[reducible] def dc_V (o ip b : Int) (r : Rule) (rs : List Rule) (i : Nat) : List (Nat × Value) := [(0, ptr 0), (1, .int .i64 (rs.length : Int)), (5, ptr 2), (6, .int .i64 0), (7, .int .i64 (i : Int))]
@[reducible] def dc_M (o ip b : Int) (r : Rule) (rs : List Rule) : List (Nat × Blk) := daM o ip b rs ++ [(2, (ruL r, 68, false))]
theorem dc_in {o ip b : Int} {r : Rule} : inBlks 3 (dc_M o ip b r rs) = true := by
  simp only [inBlks, List.all_cons, List.all_nil, List.all_append, all_flat (p := inC 3) (f := ruL) (fun _ => rfl)]
  rfl
theorem dc_on (o ip b : Int) (r : Rule)  (i : Nat) (hi : i < rs.length) (hn : rs.length ≤ 1000) (hp : dcq o rs[i] r = false) : CodeJ Tryz.prog A (loopOf Tryz.prog 45) 70 (dc_V o ip b r rs i) (dc_M o ip b r rs) 3 .nrm (dc_V o ip b r rs (i + 1)) (dc_M o ip b r rs) 3 := by
  cases h1 : (dcq o rs[i] r)
  · exact (code (nx' := 3) [yes 7 (b := decide ((i : Int) < (rs.length : Int))) (by simpa using hi), rIx 14 3 hi, rLd 15 3 hi, calls 17 3 0 (dcl_J (rs := rs) o ip b rs[i] r 3), no 18 h1, nxE 20 hi hn]).drop (h2 := dc_in) (h4 := dc_in)
  · exact absurd hp (by simp_all)
theorem dc_hit (o ip b : Int) (r : Rule)  (i : Nat) (hi : i < rs.length) (hn : rs.length ≤ 1000) (hp : dcq o rs[i] r = true) : CodeJ Tryz.prog A (loopOf Tryz.prog 45) 70 (dc_V o ip b r rs i) (dc_M o ip b r rs) 3 .ret [(6, .int .i64 11)] (dc_M o ip b r rs) 3 := by
  cases h1 : (dcq o rs[i] r)
  · exact absurd hp (by simp_all)
  · exact (code (nx' := 3) [yes 7 (b := decide ((i : Int) < (rs.length : Int))) (by simpa using hi), rIx 14 3 hi, rLd 15 3 hi, calls 17 3 0 (dcl_J (rs := rs) o ip b rs[i] r 3), yes 18 h1]).drop (h2 := dc_in) (h4 := dc_in)
end Go.Proofs.YtilfcikhipadpaaGreatDoor
end

section
/- the document's rules: what a table tells, Add, by the executor. -/
set_option linter.unusedVariables false
set_option linter.unusedSimpArgs false
namespace Go.Proofs.YtilfcikhipadpaaGreatDoor
open Go.RowKit Go.Lib Rx
variable {A : Amb} {rs : List Rule} {M : List (Nat × Blk)} {o ip b : Int}
theorem daM_in (o ip b : Int) (rs : List Rule) : inBlks 2 (daM o ip b rs) = true := by
  simp only [inBlks, List.all_cons, List.all_nil, all_flat (p := inC 2) (f := ruL) (fun _ => rfl)]
  rfl
/-- the document's table in blocks -/
def IsDoc (o ip b : Int) (rs : List Rule) (M : List (Nat × Blk)) : Prop := (rs = [] ∧ M = dnM o ip b) ∨ M = daM o ip b rs
theorem IsDoc.in_ (h : IsDoc o ip b rs M) : inBlks 2 M = true := by
  rcases h with ⟨_, rfl⟩ | rfl
  · rfl
  · exact daM_in o ip b rs
theorem dc_end (r : Rule) : CodeJ Tryz.prog A (loopOf Tryz.prog 45) 70 (dc_V o ip b r rs rs.length) (dc_M o ip b r rs) 3 (.ex 0) [(0, ptr 0), (1, .int .i64 (rs.length : Int)), (5, ptr 2)] (dc_M o ip b r rs) 3 := code [no 7 (b := decide ((rs.length : Int) < (rs.length : Int))) (by simp)]
end Go.Proofs.YtilfcikhipadpaaGreatDoor
end

section
/- What a first packet may become, in blocks. -/
set_option linter.unusedVariables false
set_option linter.unusedSimpArgs false
namespace Go.Proofs.YtilfcikhipadpaaGreatDoor
open Go.RowKit Go.Lib Rx
/-- a want -/
structure Wt where
  fx : Bool
  ia : Int
  ip : Int
  oa : Int
  op : Int
  xa : Int
  xf : Int
  xt : Int
def wtL (w : Wt) : List Value := [.bool w.fx, .int .u32 w.ia, .int .u16 w.ip, .int .u32 w.oa, .int .u16 w.op, .int .u32 w.xa, .int .u16 w.xf, .int .u16 w.xt]
/-- a plan -/
structure Pl where
  q : Int
  si : Int
  sp : Int
  di : Int
  dp : Int
  ei : Int
  ep : Int
  src : Bool
  st : Int
  ws : List Wt
def pl0 : Pl := ⟨0, 0, 0, 0, 0, 0, 0, false, 0, []⟩
def ofR (q si sp di dp ki : Int) (inn : Int → Bool) (b1 b2 b3 O go ask : Bool) (ia1 ip1 e2 f2 e3 f3 t3 st : Int) : Int × Pl :=
  bif ki == 3 then (10, pl0) else bif inn si && (inn di || (b1 && (ia1 == si && (ip1 == sp && true)))) then (9, pl0) else bif !b1 && (!(inn si) || O) then (10, pl0) else bif inn si && !(b2 || b3) then (10, pl0)
  else bif (q == 1) && !ask then (10, pl0) else bif !go then (11, pl0)
  else (0, ⟨q, si, sp, di, dp, bif b1 then ia1 else di, bif b1 then ip1 else dp, inn si, st, (bif inn si then [bif b2 then ⟨true, si, sp, e2, f2, 0, 0, 0⟩ else ⟨false, si, sp, 0, 0, e3, f3, t3⟩] else []) ++ (bif b1 then [⟨true, ia1, ip1, di, dp, 0, 0, 0⟩] else [])⟩)
def oV (id : Nat) (R : Int × Pl) : Value := .tuple #[.agg #[.int .u8 R.2.q, .int .u32 R.2.si, .int .u16 R.2.sp, .int .u32 R.2.di, .int .u16 R.2.dp, .int .u32 R.2.ei, .int .u16 R.2.ep, .bool R.2.src, .int .i64 R.2.st, match R.2.ws with | [] => .slice none 0 0 | w :: ws => .slice (some ⟨id, 0, some 0⟩) (w :: ws).length 0], .int .i64 R.1]
def oM (id : Nat) (T : TypeId) (M : List (Nat × Blk)) (R : Int × Pl) : List (Nat × Blk) := match R.2.ws with | [] => M | w :: ws => M ++ [(id, ((w :: ws).flatMap wtL, T, true))]
def oN (R : Int × Pl) : Nat := match R.2.ws with | [] => 2 | _ :: _ => 3
/-- blocks of the names 0 and 1 -/
structure TwoM (M : List (Nat × Blk)) : Prop where
  in_ : inBlks 2 M = true
  id : ∀ id, 2 ≤ id → M.map (idB (mov [id] 2)) = M
theorem mov0 {id j : Nat} (h : 2 ≤ id) (hj : j < 2) : mov [id] 2 j = j := mov_out (by simp; omega)
theorem IsTab.two {o ip b : Int} {rs : List Rule} {M : List (Nat × Blk)} (h : IsTab o ip b rs M) : TwoM M := ⟨h.in_, fun id hid => by
  have h0 := mov0 hid (j := 0) (by decide); have h1 := mov0 hid (j := 1) (by decide)
  rcases h with ⟨_, rfl⟩ | rfl
  · simp only [List.map_cons, List.map_nil, idB, h0]
    rfl
  · simp only [List.map_cons, List.map_nil, idB, h0, h1, flat_id (f := ruL) (fun _ => rfl), id0, idS, idA]⟩
theorem IsDoc.two {o ip b : Int} {rs : List Rule} {M : List (Nat × Blk)} (h : IsDoc o ip b rs M) : TwoM M := ⟨h.in_, fun id hid => by
  have h0 := mov0 hid (j := 0) (by decide); have h1 := mov0 hid (j := 1) (by decide)
  rcases h with ⟨_, rfl⟩ | rfl
  · simp only [List.map_cons, List.map_nil, idB, h0]
    rfl
  · simp only [List.map_cons, List.map_nil, idB, h0, h1, flat_id (f := ruL) (fun _ => rfl), id0, idS, idA]⟩
theorem in0_mono {p q : Nat → Bool} (k : ∀ i, p i = true → q i = true) {v : Value} (h : in0 p v = true) : in0 q v = true := by
  have ha : ∀ a : Option Addr, inA p a = true → inA q a = true := fun a h => by
    unfold inA at h ⊢
    split <;> simp_all
  have hs : ∀ v : Value, inS p v = true → inS q v = true := fun v h => by
    unfold inS at h ⊢
    split <;> simp_all
  unfold in0 at h ⊢
  split <;> simp_all
theorem TwoM.lv {M : List (Nat × Blk)} (h : TwoM M) (id : Nat) : liveB [id] 2 M = true := List.all_eq_true.2 fun e he => by
  have := List.all_eq_true.1 h.in_ e he
  rw [Bool.and_eq_true] at this
  have hl : ∀ j, Nat.blt j 2 = true → live [id] 2 j = true := fun j hj => by unfold live; rw [hj, Bool.or_true]
  rw [Bool.and_eq_true]
  exact ⟨hl _ this.1, List.all_eq_true.2 fun v hv => in0_mono hl (List.all_eq_true.1 this.2 v hv)⟩
theorem TwoM.ok {M : List (Nat × Blk)} (h : TwoM M) (d : Nat) : outOK (M.map (·.1)) 2 d M = true := List.all_eq_true.2 fun e he => by
  rw [mem_has1 (List.mem_map_of_mem he)]; rfl
theorem fin {P : Program} {A : Amb} {f : FuncId} {args : List Value} {M : List (Nat × Blk)} (hM : TwoM M) (id d : Nat) {T : TypeId} {R : Int × Pl} (h : CallJ P A f args M 2 (oV id R) (oM id T M R) (2 + d)) (hid : (Nat.ble 2 id && Nat.blt id (2 + d)) = true := by kernel_rfl) (h1 : args.all (inV 2) = true := by kernel_rfl) : CallJ P A f args M 2 (oV 2 R) (oM 2 T M R) (oN R) := by
  obtain ⟨r, q, si, sp, di, dp, ei, ep, src, st, ws⟩ := R
  rw [Bool.and_eq_true] at hid
  have hid2 : 2 ≤ id := Nat.le_of_ble_eq_true hid.1
  have hL : ∀ ws : List Wt, (ws.flatMap wtL).all real0 = true := all_flat (fun _ => rfl)
  have hr : ∀ (p : Nat → Bool) (ws : List Wt), (ws.flatMap wtL).all (in0 p) = true := fun p => all_flat (fun _ => rfl)
  have hm : mov [id] 2 id = 2 := by unfold mov atN; simp
  cases ws with
  | nil => exact h.drop (h1 := h1) (h2 := hM.in_) (h4 := hM.in_)
  | cons w ws =>
    have hl : live [id] 2 id = true := by unfold live atN; simp
    have k := h.re [id] (hn := by simp) (ho := by
        refine List.all_eq_true.2 fun e he => ?_
        rcases List.mem_append.1 he with he | he
        · rw [mem_has1 (List.mem_map_of_mem he)]; rfl
        · rcases List.mem_singleton.1 he with rfl
          rw [show (Nat.ble 2 id && Nat.blt id (2 + d)) = true by rw [hid.1, hid.2]; rfl, Bool.or_true]) (h3 := by
        show inP (live [id] 2) _ = true
        simp only [oV, inP, in1, in0, inS, inA, List.all_cons, List.all_nil, hl]
        rfl) (h4 := by
        refine List.all_eq_true.2 fun e he => ?_
        rcases List.mem_append.1 he with he | he
        · exact List.all_eq_true.1 (hM.lv id) e he
        · rcases List.mem_singleton.1 he with rfl
          rw [Bool.and_eq_true]
          exact ⟨hl, hr _ _⟩) (h1 := h1) (h2 := hM.in_)
    refine k.eq rfl ?_ rfl ?_
    · show (M ++ [(id, _)]).map _ = M ++ [(2, _)]
      rw [List.map_append, hM.id id hid2]
      simp only [List.map_cons, List.map_nil, idB, hm, flat_id (f := wtL) (fun _ => rfl)]
    · simp only [oV, idV, id1, id0, idS, idA, List.map_cons, List.map_nil, hm]
end Go.Proofs.YtilfcikhipadpaaGreatDoor
end

section
/- track: how long a state lasts, out of the program's table; the state of a first packet. -/
set_option linter.unusedVariables false
set_option linter.unusedSimpArgs false
namespace Go.Proofs.YtilfcikhipadpaaGreatDoor
open Go.RowKit Go.Lib
attribute [local go_sem] Oper.semAt_some

/-- how many ticks a state lasts -/
def timeV (fl st : Int) : Int :=
  if fl = 1 then (if st = 1 then 120 else if st = 2 then 300 else 0)
  else if fl = 2 then (if st = 1 then 60 else if st = 2 then 60 else 0)
  else if fl = 3 then (if st = 3 then 7440 else if 1 ≤ st ∧ st ≤ 7 then 240 else 0)
  else 0
/-- the table as it lies -/
def Lasts (W : World) : Prop := ∀ i j : Nat, i < 4 → j < 8 → W.cell? ⟨0, i * 8 + j, none⟩ = some (.int .i64 (timeV i j))
theorem Lasts.below {W W' : World} (h : Lasts W) (k : Below W.heap.size W W') : Lasts W' := fun i j hi hj => by
  rw [k.cell (p := ⟨0, _, none⟩) (World.block_lt_of_cell? W _ (h i j hi hj))]
  exact h i j hi hj

set_option maxHeartbeats 2000000 in
theorem tk_Timeout (w : World) (fl st : Int) (h : Lasts w) : Calls Tryz.prog 120 #[.int .i64 fl, .int .i64 st] w (Ret (.int .i64 (timeV fl st)) w) := by
  by_cases h1 : fl < 0
  · have e : timeV fl st = 0 := by unfold timeV; rw [if_neg (by omega), if_neg (by omega), if_neg (by omega)]
    rw [e]
    clear e h
    have bb : Below w.heap.size w w := Below.refl _ _
    go_enter Tryz.func120, Tryz.ntmps120
    go_wp2_with fail
    go_ret
    exact ⟨rfl, by assumption⟩
  by_cases h2 : 4 ≤ fl
  · have e : timeV fl st = 0 := by unfold timeV; rw [if_neg (by omega), if_neg (by omega), if_neg (by omega)]
    rw [e]
    clear e h
    have bb : Below w.heap.size w w := Below.refl _ _
    go_enter Tryz.func120, Tryz.ntmps120
    go_wp2_with fail
    go_ret
    exact ⟨rfl, by assumption⟩
  by_cases h3 : st < 0
  · have e : timeV fl st = 0 := by unfold timeV; repeat' split <;> omega
    rw [e]
    clear e h
    have bb : Below w.heap.size w w := Below.refl _ _
    go_enter Tryz.func120, Tryz.ntmps120
    go_wp2_with fail
    go_ret
    exact ⟨rfl, by assumption⟩
  by_cases h4 : 7 < st
  · have e : timeV fl st = 0 := by unfold timeV; repeat' split <;> omega
    rw [e]
    clear e h
    have bb : Below w.heap.size w w := Below.refl _ _
    go_enter Tryz.func120, Tryz.ntmps120
    go_wp2_with fail
    go_ret
    exact ⟨rfl, by assumption⟩
  obtain ⟨i, rfl⟩ := Int.eq_ofNat_of_zero_le (show 0 ≤ fl by omega)
  obtain ⟨j, rfl⟩ := Int.eq_ofNat_of_zero_le (show 0 ≤ st by omega)
  have hi : i < 4 := by omega
  have hj : j < 8 := by omega
  have hc := h i j hi hj
  generalize timeV (i : Int) (j : Int) = x at *
  clear h
  have bb : Below w.heap.size w w := Below.refl _ _
  go_enter Tryz.func120, Tryz.ntmps120
  go_wp2_with fail
  go_ret
  exact ⟨rfl, by assumption⟩
theorem tk_May (w : World) (fl st : Int) (h : Lasts w) : Calls Tryz.prog 100 #[.int .i64 fl, .int .i64 st] w (Ret (.bool (decide (0 < timeV fl st))) w) := by
  have c := fun W (hW : Below w.heap.size w W) => tk_Timeout W fl st (h.below hW)
  have C := hide c
  clear c h
  generalize timeV fl st = x at *
  have bb : Below w.heap.size w w := Below.refl _ _
  go_enter Tryz.func100, Tryz.ntmps100
  go_wp2_with ((go_at_call 120; (with_reducible refine (C.out _ (by assumption)).mono ?_); rintro e2 w2 ⟨rfl, b2⟩; have b2' := bstep (by assumption : Below w.heap.size w _) b2; clear b2))
  go_ret
  exact ⟨rfl, by assumption⟩
/-- the kind of flow of a protocol -/
def flowV (p : Int) : Int := if p = 1 then 2 else if p = 6 then 3 else if p = 17 then 1 else 0
theorem tk_Flow (w : World) (p : Int) : Calls Tryz.prog 48 #[.int .u8 p] w (Ret (.int .i64 (flowV p)) w) := by
  unfold flowV
  have bb : Below w.heap.size w w := Below.refl _ _
  by_cases h1 : p = 1
  · subst h1
    go_enter Tryz.func48, Tryz.ntmps48
    go_wp2_with fail
    go_ret
    exact ⟨rfl, by assumption⟩
  by_cases h6 : p = 6
  · subst h6
    go_enter Tryz.func48, Tryz.ntmps48
    go_wp2_with fail
    go_ret
    exact ⟨rfl, by assumption⟩
  by_cases h17 : p = 17
  · subst h17
    go_enter Tryz.func48, Tryz.ntmps48
    go_wp2_with fail
    go_ret
    exact ⟨rfl, by assumption⟩
  rw [if_neg h1, if_neg h6, if_neg h17]
  have q1 : (p == 1) = false := by simpa using h1
  have q6 : (p == 6) = false := by simpa using h6
  have q17 : (p == 17) = false := by simpa using h17
  clear h1 h6 h17
  go_enter Tryz.func48, Tryz.ntmps48
  go_wp2_with fail
  go_ret
  exact ⟨rfl, by assumption⟩
/-- may a first packet of these flags begin a flow of this kind? -/
def firstV (fl fg : Int) : Bool := decide (0 < timeV fl 1) && !(decide (fl = 3) && !decide (bits .and .u8 fg 23 = 2))
theorem tk_First (w : World) (fl fg : Int) (h : Lasts w) : Calls Tryz.prog 47 #[.int .i64 fl, .int .u8 fg] w (Ret (.tuple #[.int .i64 (if firstV fl fg = true then 1 else 0), .bool (firstV fl fg)]) w) := by
  have c := fun W (hW : Below w.heap.size w W) => tk_May W fl 1 (h.below hW)
  unfold firstV
  have C := hide c
  clear c h
  have bb : Below w.heap.size w w := Below.refl _ _
  by_cases h1 : 0 < timeV fl 1
  · rw [decide_eq_true h1] at C ⊢
    clear h1
    by_cases h3 : fl = 3
    · subst h3
      by_cases h2 : bits .and .u8 fg 23 = 2
      · have q : (bits .and .u8 fg 23 != 2) = false := by simp [h2]
        have e : (if (true && !(decide ((3 : Int) = 3) && !decide (bits .and .u8 fg 23 = 2))) = true then (1 : Int) else 0) = 1 := by simp [h2]
        have e' : (true && !(decide ((3 : Int) = 3) && !decide (bits .and .u8 fg 23 = 2))) = true := by simp [h2]
        rw [e, e']
        clear e e' h2
        go_enter Tryz.func47, Tryz.ntmps47
        go_wp2_with ((go_at_call 100; (with_reducible refine (C.out _ (by assumption)).mono ?_); rintro e2 w2 ⟨rfl, b2⟩; have b2' := bstep (by assumption : Below w.heap.size w _) b2; clear b2))
        go_ret2
        exact ⟨rfl, by assumption⟩
      · have q : (bits .and .u8 fg 23 != 2) = true := by simp [h2]
        have e : (if (true && !(decide ((3 : Int) = 3) && !decide (bits .and .u8 fg 23 = 2))) = true then (1 : Int) else 0) = 0 := by simp [h2]
        have e' : (true && !(decide ((3 : Int) = 3) && !decide (bits .and .u8 fg 23 = 2))) = false := by simp [h2]
        rw [e, e']
        clear e e' h2
        go_enter Tryz.func47, Tryz.ntmps47
        go_wp2_with ((go_at_call 100; (with_reducible refine (C.out _ (by assumption)).mono ?_); rintro e2 w2 ⟨rfl, b2⟩; have b2' := bstep (by assumption : Below w.heap.size w _) b2; clear b2))
        go_ret2
        exact ⟨rfl, by assumption⟩
    · have q : (fl == 3) = false := by simp [h3]
      have e : (if (true && !(decide (fl = 3) && !decide (bits .and .u8 fg 23 = 2))) = true then (1 : Int) else 0) = 1 := by simp [h3]
      have e' : (true && !(decide (fl = 3) && !decide (bits .and .u8 fg 23 = 2))) = true := by simp [h3]
      rw [e, e']
      clear e e' h3
      go_enter Tryz.func47, Tryz.ntmps47
      go_wp2_with ((go_at_call 100; (with_reducible refine (C.out _ (by assumption)).mono ?_); rintro e2 w2 ⟨rfl, b2⟩; have b2' := bstep (by assumption : Below w.heap.size w _) b2; clear b2))
      go_ret2
      exact ⟨rfl, by assumption⟩
  · rw [decide_eq_false h1] at C ⊢
    clear h1
    go_enter Tryz.func47, Tryz.ntmps47
    go_wp2_with ((go_at_call 100; (with_reducible refine (C.out _ (by assumption)).mono ?_); rintro e2 w2 ⟨rfl, b2⟩; have b2' := bstep (by assumption : Below w.heap.size w _) b2; clear b2))
    go_ret2
    exact ⟨rfl, by assumption⟩
end Go.Proofs.YtilfcikhipadpaaGreatDoor
end
