/- Several texts of this claim, one behind the other. -/
import Derived.Test.YtilfcikhipadpaaGreatDoorK12a
import Derived.Test.YtilfcikhipadpaaGreatDoorProg
import Derived.KernelRfl

section
/- What a first packet may become, in blocks. -/
set_option linter.unusedVariables false
set_option linter.unusedSimpArgs false
namespace Go.Proofs.YtilfcikhipadpaaGreatDoor
open Go.RowKit Go.Lib Rx
/-- a want -/
structure Wt where
  fx : Bool
  ia : Int
  ip : Int
  oa : Int
  op : Int
  xa : Int
  xf : Int
  xt : Int
def wtL (w : Wt) : List Value := [.bool w.fx, .int .u32 w.ia, .int .u16 w.ip, .int .u32 w.oa, .int .u16 w.op, .int .u32 w.xa, .int .u16 w.xf, .int .u16 w.xt]
/-- a plan -/
structure Pl where
  q : Int
  si : Int
  sp : Int
  di : Int
  dp : Int
  ei : Int
  ep : Int
  src : Bool
  st : Int
  ws : List Wt
def oV (id : Nat) (R : Int × Pl) : Value := .tuple #[.agg #[.int .u8 R.2.q, .int .u32 R.2.si, .int .u16 R.2.sp, .int .u32 R.2.di, .int .u16 R.2.dp, .int .u32 R.2.ei, .int .u16 R.2.ep, .bool R.2.src, .int .i64 R.2.st, match R.2.ws with | [] => .slice none 0 0 | w :: ws => .slice (some ⟨id, 0, some 0⟩) (w :: ws).length 0], .int .i64 R.1]
def oM (id : Nat) (T : TypeId) (M : List (Nat × Blk)) (R : Int × Pl) : List (Nat × Blk) := match R.2.ws with | [] => M | w :: ws => M ++ [(id, ((w :: ws).flatMap wtL, T, true))]
def oN (R : Int × Pl) : Nat := match R.2.ws with | [] => 2 | _ :: _ => 3
/-- blocks of the names 0 and 1 -/
structure TwoM (M : List (Nat × Blk)) : Prop where
  in_ : inBlks 2 M = true
  id : ∀ id, 2 ≤ id → M.map (idB (mov [id] 2)) = M
theorem mov0 {id j : Nat} (h : 2 ≤ id) (hj : j < 2) : mov [id] 2 j = j := mov_out (by simp; omega)
theorem IsTab.two {o ip b : Int} {rs : List Rule} {M : List (Nat × Blk)} (h : IsTab o ip b rs M) : TwoM M := ⟨h.in_, fun id hid => by
  have h0 := mov0 hid (j := 0) (by decide); have h1 := mov0 hid (j := 1) (by decide)
  rcases h with ⟨_, rfl⟩ | rfl
  · simp only [List.map_cons, List.map_nil, idB, h0]
    rfl
  · simp only [List.map_cons, List.map_nil, idB, h0, h1, flat_id (f := ruL) (fun _ => rfl), id0, idS, idA]⟩
theorem IsDoc.two {o ip b : Int} {rs : List Rule} {M : List (Nat × Blk)} (h : IsDoc o ip b rs M) : TwoM M := ⟨h.in_, fun id hid => by
  have h0 := mov0 hid (j := 0) (by decide); have h1 := mov0 hid (j := 1) (by decide)
  rcases h with ⟨_, rfl⟩ | rfl
  · simp only [List.map_cons, List.map_nil, idB, h0]
    rfl
  · simp only [List.map_cons, List.map_nil, idB, h0, h1, flat_id (f := ruL) (fun _ => rfl), id0, idS, idA]⟩
theorem in0_mono {p q : Nat → Bool} (k : ∀ i, p i = true → q i = true) {v : Value} (h : in0 p v = true) : in0 q v = true := by
  have ha : ∀ a : Option Addr, inA p a = true → inA q a = true := fun a h => by
    unfold inA at h ⊢
    split <;> simp_all
  have hs : ∀ v : Value, inS p v = true → inS q v = true := fun v h => by
    unfold inS at h ⊢
    split <;> simp_all
  unfold in0 at h ⊢
  split <;> simp_all
theorem TwoM.lv {M : List (Nat × Blk)} (h : TwoM M) (id : Nat) : liveB [id] 2 M = true := List.all_eq_true.2 fun e he => by
  have := List.all_eq_true.1 h.in_ e he
  rw [Bool.and_eq_true] at this
  have hl : ∀ j, Nat.blt j 2 = true → live [id] 2 j = true := fun j hj => by unfold live; rw [hj, Bool.or_true]
  rw [Bool.and_eq_true]
  exact ⟨hl _ this.1, List.all_eq_true.2 fun v hv => in0_mono hl (List.all_eq_true.1 this.2 v hv)⟩
theorem TwoM.ok {M : List (Nat × Blk)} (h : TwoM M) (d : Nat) : outOK (M.map (·.1)) 2 d M = true := List.all_eq_true.2 fun e he => by
  rw [mem_has1 (List.mem_map_of_mem he)]; rfl
theorem fin {P : Program} {A : Amb} {f : FuncId} {args : List Value} {M : List (Nat × Blk)} (hM : TwoM M) (id d : Nat) {T : TypeId} {R : Int × Pl} (h : CallJ P A f args M 2 (oV id R) (oM id T M R) (2 + d)) (hid : (Nat.ble 2 id && Nat.blt id (2 + d)) = true := by kernel_rfl) (h1 : args.all (inV 2) = true := by kernel_rfl) : CallJ P A f args M 2 (oV 2 R) (oM 2 T M R) (oN R) := by
  obtain ⟨r, q, si, sp, di, dp, ei, ep, src, st, ws⟩ := R
  rw [Bool.and_eq_true] at hid
  have hid2 : 2 ≤ id := Nat.le_of_ble_eq_true hid.1
  have hL : ∀ ws : List Wt, (ws.flatMap wtL).all real0 = true := all_flat (fun _ => rfl)
  have hr : ∀ (p : Nat → Bool) (ws : List Wt), (ws.flatMap wtL).all (in0 p) = true := fun p => all_flat (fun _ => rfl)
  have hm : mov [id] 2 id = 2 := by unfold mov atN; simp
  cases ws with
  | nil => exact h.drop (h1 := h1) (h2 := hM.in_) (h4 := hM.in_)
  | cons w ws =>
    have hl : live [id] 2 id = true := by unfold live atN; simp
    have k := h.re [id] (hn := by simp) (ho := by
        refine List.all_eq_true.2 fun e he => ?_
        rcases List.mem_append.1 he with he | he
        · rw [mem_has1 (List.mem_map_of_mem he)]; rfl
        · rcases List.mem_singleton.1 he with rfl
          rw [show (Nat.ble 2 id && Nat.blt id (2 + d)) = true by rw [hid.1, hid.2]; rfl, Bool.or_true]) (h3 := by
        show inP (live [id] 2) _ = true
        simp only [oV, inP, in1, in0, inS, inA, List.all_cons, List.all_nil, hl]
        rfl) (h4 := by
        refine List.all_eq_true.2 fun e he => ?_
        rcases List.mem_append.1 he with he | he
        · exact List.all_eq_true.1 (hM.lv id) e he
        · rcases List.mem_singleton.1 he with rfl
          rw [Bool.and_eq_true]
          exact ⟨hl, hr _ _⟩) (h1 := h1) (h2 := hM.in_)
    refine k.eq rfl ?_ rfl ?_
    · show (M ++ [(id, _)]).map _ = M ++ [(2, _)]
      rw [List.map_append, hM.id id hid2]
      simp only [List.map_cons, List.map_nil, idB, hm, flat_id (f := wtL) (fun _ => rfl)]
    · simp only [oV, idV, id1, id0, idS, idA, List.map_cons, List.map_nil, hm]
end Go.Proofs.YtilfcikhipadpaaGreatDoor
end

section
/- track: how long a state lasts, out of the program's table; the state of a first packet. -/
set_option linter.unusedVariables false
set_option linter.unusedSimpArgs false
namespace Go.Proofs.YtilfcikhipadpaaGreatDoor
open Go.RowKit Go.Lib
attribute [local go_sem] Oper.semAt_some

/-- how many ticks a state lasts -/
def timeV (fl st : Int) : Int :=
  if fl = 1 then (if st = 1 then 120 else if st = 2 then 300 else 0)
  else if fl = 2 then (if st = 1 then 60 else if st = 2 then 60 else 0)
  else if fl = 3 then (if st = 3 then 7440 else if 1 ≤ st ∧ st ≤ 7 then 240 else 0)
  else 0
/-- the table as it lies -/
def Lasts (W : World) : Prop := ∀ i j : Nat, i < 4 → j < 8 → W.cell? ⟨0, i * 8 + j, none⟩ = some (.int .i64 (timeV i j))
theorem Lasts.below {W W' : World} (h : Lasts W) (k : Below W.heap.size W W') : Lasts W' := fun i j hi hj => by
  rw [k.cell (p := ⟨0, _, none⟩) (World.block_lt_of_cell? W _ (h i j hi hj))]
  exact h i j hi hj

set_option maxHeartbeats 2000000 in
theorem tk_Timeout (w : World) (fl st : Int) (h : Lasts w) : Calls Tryz.prog 120 #[.int .i64 fl, .int .i64 st] w (Ret (.int .i64 (timeV fl st)) w) := by
  by_cases h1 : fl < 0
  · have e : timeV fl st = 0 := by unfold timeV; rw [if_neg (by omega), if_neg (by omega), if_neg (by omega)]
    rw [e]
    clear e h
    have bb : Below w.heap.size w w := Below.refl _ _
    go_enter Tryz.func120, Tryz.ntmps120
    go_wp2_with fail
    go_ret
    exact ⟨rfl, by assumption⟩
  by_cases h2 : 4 ≤ fl
  · have e : timeV fl st = 0 := by unfold timeV; rw [if_neg (by omega), if_neg (by omega), if_neg (by omega)]
    rw [e]
    clear e h
    have bb : Below w.heap.size w w := Below.refl _ _
    go_enter Tryz.func120, Tryz.ntmps120
    go_wp2_with fail
    go_ret
    exact ⟨rfl, by assumption⟩
  by_cases h3 : st < 0
  · have e : timeV fl st = 0 := by unfold timeV; repeat' split <;> omega
    rw [e]
    clear e h
    have bb : Below w.heap.size w w := Below.refl _ _
    go_enter Tryz.func120, Tryz.ntmps120
    go_wp2_with fail
    go_ret
    exact ⟨rfl, by assumption⟩
  by_cases h4 : 7 < st
  · have e : timeV fl st = 0 := by unfold timeV; repeat' split <;> omega
    rw [e]
    clear e h
    have bb : Below w.heap.size w w := Below.refl _ _
    go_enter Tryz.func120, Tryz.ntmps120
    go_wp2_with fail
    go_ret
    exact ⟨rfl, by assumption⟩
  obtain ⟨i, rfl⟩ := Int.eq_ofNat_of_zero_le (show 0 ≤ fl by omega)
  obtain ⟨j, rfl⟩ := Int.eq_ofNat_of_zero_le (show 0 ≤ st by omega)
  have hi : i < 4 := by omega
  have hj : j < 8 := by omega
  have hc := h i j hi hj
  generalize timeV (i : Int) (j : Int) = x at *
  clear h
  have bb : Below w.heap.size w w := Below.refl _ _
  go_enter Tryz.func120, Tryz.ntmps120
  go_wp2_with fail
  go_ret
  exact ⟨rfl, by assumption⟩
theorem tk_May (w : World) (fl st : Int) (h : Lasts w) : Calls Tryz.prog 100 #[.int .i64 fl, .int .i64 st] w (Ret (.bool (decide (0 < timeV fl st))) w) := by
  have c := fun W (hW : Below w.heap.size w W) => tk_Timeout W fl st (h.below hW)
  have C := hide c
  clear c h
  generalize timeV fl st = x at *
  have bb : Below w.heap.size w w := Below.refl _ _
  go_enter Tryz.func100, Tryz.ntmps100
  go_wp2_with ((go_at_call 120; (with_reducible refine (C.out _ (by assumption)).mono ?_); rintro e2 w2 ⟨rfl, b2⟩; have b2' := bstep (by assumption : Below w.heap.size w _) b2; clear b2))
  go_ret
  exact ⟨rfl, by assumption⟩
/-- may a first packet of these flags begin a flow of this kind? -/
def firstV (fl fg : Int) : Bool := decide (0 < timeV fl 1) && !(decide (fl = 3) && !decide (bits .and .u8 fg 23 = 2))
theorem tk_First (w : World) (fl fg : Int) (h : Lasts w) : Calls Tryz.prog 47 #[.int .i64 fl, .int .u8 fg] w (Ret (.tuple #[.int .i64 (if firstV fl fg = true then 1 else 0), .bool (firstV fl fg)]) w) := by
  have c := fun W (hW : Below w.heap.size w W) => tk_May W fl 1 (h.below hW)
  unfold firstV
  have C := hide c
  clear c h
  have bb : Below w.heap.size w w := Below.refl _ _
  by_cases h1 : 0 < timeV fl 1
  · rw [decide_eq_true h1] at C ⊢
    clear h1
    by_cases h3 : fl = 3
    · subst h3
      by_cases h2 : bits .and .u8 fg 23 = 2
      · have q : (bits .and .u8 fg 23 != 2) = false := by simp [h2]
        have e : (if (true && !(decide ((3 : Int) = 3) && !decide (bits .and .u8 fg 23 = 2))) = true then (1 : Int) else 0) = 1 := by simp [h2]
        have e' : (true && !(decide ((3 : Int) = 3) && !decide (bits .and .u8 fg 23 = 2))) = true := by simp [h2]
        rw [e, e']
        clear e e' h2
        go_enter Tryz.func47, Tryz.ntmps47
        go_wp2_with ((go_at_call 100; (with_reducible refine (C.out _ (by assumption)).mono ?_); rintro e2 w2 ⟨rfl, b2⟩; have b2' := bstep (by assumption : Below w.heap.size w _) b2; clear b2))
        go_ret2
        exact ⟨rfl, by assumption⟩
      · have q : (bits .and .u8 fg 23 != 2) = true := by simp [h2]
        have e : (if (true && !(decide ((3 : Int) = 3) && !decide (bits .and .u8 fg 23 = 2))) = true then (1 : Int) else 0) = 0 := by simp [h2]
        have e' : (true && !(decide ((3 : Int) = 3) && !decide (bits .and .u8 fg 23 = 2))) = false := by simp [h2]
        rw [e, e']
        clear e e' h2
        go_enter Tryz.func47, Tryz.ntmps47
        go_wp2_with ((go_at_call 100; (with_reducible refine (C.out _ (by assumption)).mono ?_); rintro e2 w2 ⟨rfl, b2⟩; have b2' := bstep (by assumption : Below w.heap.size w _) b2; clear b2))
        go_ret2
        exact ⟨rfl, by assumption⟩
    · have q : (fl == 3) = false := by simp [h3]
      have e : (if (true && !(decide (fl = 3) && !decide (bits .and .u8 fg 23 = 2))) = true then (1 : Int) else 0) = 1 := by simp [h3]
      have e' : (true && !(decide (fl = 3) && !decide (bits .and .u8 fg 23 = 2))) = true := by simp [h3]
      rw [e, e']
      clear e e' h3
      go_enter Tryz.func47, Tryz.ntmps47
      go_wp2_with ((go_at_call 100; (with_reducible refine (C.out _ (by assumption)).mono ?_); rintro e2 w2 ⟨rfl, b2⟩; have b2' := bstep (by assumption : Below w.heap.size w _) b2; clear b2))
      go_ret2
      exact ⟨rfl, by assumption⟩
  · rw [decide_eq_false h1] at C ⊢
    clear h1
    go_enter Tryz.func47, Tryz.ntmps47
    go_wp2_with ((go_at_call 100; (with_reducible refine (C.out _ (by assumption)).mono ?_); rintro e2 w2 ⟨rfl, b2⟩; have b2' := bstep (by assumption : Below w.heap.size w _) b2; clear b2))
    go_ret2
    exact ⟨rfl, by assumption⟩
end Go.Proofs.YtilfcikhipadpaaGreatDoor
end

section
/- what a first packet may become: printed (gen/of.py). -/
set_option linter.unusedVariables false
namespace Go.Proofs.YtilfcikhipadpaaGreatDoor
open Go.RowKit Go.Lib Rx
end Go.Proofs.YtilfcikhipadpaaGreatDoor
end

section
/- the document's track: Flow, First: printed (gen/d17.spec.py); what they come to. -/
set_option linter.unusedVariables false
namespace Go.Proofs.YtilfcikhipadpaaGreatDoor
open Go.RowKit Go.Lib Rx
end Go.Proofs.YtilfcikhipadpaaGreatDoor
end
