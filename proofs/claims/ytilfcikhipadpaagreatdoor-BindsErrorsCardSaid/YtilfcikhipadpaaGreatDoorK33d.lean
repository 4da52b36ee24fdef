/- Several texts of this claim, one behind the other. -/
import Derived.Test.YtilfcikhipadpaaGreatDoorK32d
import Derived.KernelRfl
import Derived.Test.YtilfcikhipadpaaGreatDoorK12b
import Derived.Test.YtilfcikhipadpaaGreatDoorK27c

section
/- binds.See, the program's and the document's. -/
set_option linter.unusedVariables false
namespace Go.Proofs.YtilfcikhipadpaaGreatDoor
open Go.RowKit Go.Lib

def seenV (x : Seen) : Value := .agg #[.int .u8 x.t.p, .int .u32 x.t.a, .int .u16 x.t.b, .int .u32 x.t.c, .int .u16 x.t.d, .int .i64 x.k, .int .u8 x.f, .bool x.q, .int .u8 x.l]
def tupV (t : Tup) : Value := .agg #[.int .u8 t.p, .int .u32 t.a, .int .u16 t.b, .int .u32 t.c, .int .u16 t.d]
def glanceV (x : Seen) (t : Tup) (r : Int) : Value := .tuple #[.agg #[.int .u8 x.t.p, .int .u32 x.t.a, .int .u16 x.t.b, .int .u32 x.t.c, .int .u16 x.t.d, .int .i64 x.k, .int .u8 x.f, .bool x.q, .int .u8 x.l, .int .u8 t.p, .int .u32 t.a, .int .u16 t.b, .int .u32 t.c, .int .u16 t.d], .int .i64 r]
/-- the other way about -/
def backT (t : Tup) : Tup := ⟨t.p, t.c, t.d, t.a, t.b⟩
def tup0 : Tup := ⟨0, 0, 0, 0, 0⟩
/-- what is seen, by what is seen of a packet, and of what an error is about -/
def seeV (X : Seen) (r : Int) (T : Tup) (q : Int) : Value :=
  if r ≠ 0 then glanceV seenNone tup0 r else if X.l < 2 then glanceV seenNone tup0 8 else if X.k ≠ 3 then glanceV X X.t 0 else if q ≠ 0 then glanceV seenNone tup0 q else if T.a ≠ X.t.c then glanceV seenNone tup0 15 else glanceV X (backT T) 0
theorem b_see (s : ByteArray) (w : World) (X : Seen) (r : Int) (T : Tup) (q : Int)
    (c1 : ∀ W, Below w.heap.size w W → Calls Tryz.prog 27 #[.string s] W (Ret (.tuple #[seenV X, .int .i64 r]) W))
    (c2 : ∀ W, Below w.heap.size w W → Calls Tryz.prog 31 #[.string s] W (Ret (.tuple #[tupV T, .int .i64 q]) W)) :
    Calls Tryz.prog 11 #[.string s] w (Ret (seeV X r T q) w) := by
  unfold seeV
  split
  · rename_i h1
    exact Rx.run [Rx.does 3 (args := [.string s]) c1, Rx.yes 12 (bne_iff_ne.2 h1)]
  rename_i h1
  have h1 : r = 0 := Decidable.not_not.1 h1
  subst h1
  split
  · rename_i h2
    exact Rx.run [Rx.does 3 (args := [.string s]) c1, Rx.yes 16 (decide_eq_true h2)]
  rename_i h2
  split
  · rename_i h3
    exact Rx.run [Rx.does 3 (args := [.string s]) c1, Rx.no 16 (decide_eq_false h2), Rx.yes 20 (bne_iff_ne.2 h3)]
  rename_i h3
  have h3 : (X.k != 3) = false := by simpa using h3
  split
  · rename_i h4
    exact Rx.run [Rx.does 3 (args := [.string s]) c1, Rx.no 16 (decide_eq_false h2), Rx.no 20 h3, Rx.does 22 (args := [.string s]) c2, Rx.yes 31 (bne_iff_ne.2 h4)]
  rename_i h4
  have h4 : q = 0 := Decidable.not_not.1 h4
  subst h4
  split
  · rename_i h5
    exact Rx.run [Rx.does 3 (args := [.string s]) c1, Rx.no 16 (decide_eq_false h2), Rx.no 20 h3, Rx.does 22 (args := [.string s]) c2, Rx.yes 40 (bne_iff_ne.2 h5)]
  rename_i h5
  have h5 : (T.a != X.t.c) = false := by simpa using h5
  exact Rx.run [Rx.does 3 (args := [.string s]) c1, Rx.no 16 (decide_eq_false h2), Rx.no 20 h3, Rx.does 22 (args := [.string s]) c2, Rx.no 40 h5]
/-- See, of any text -/
theorem b_See (s : ByteArray) (w : World) (K : Kinds w) (hs : s.size ≤ 140737488351232) : Calls Tryz.prog 11 #[.string s] w (Ret (seeV (seenOf s) (seenWhy s) (inTup s) (emsWhy s)) w) :=
  b_see s w _ _ _ _ (fun W h => tu_Of s W (K.below h) hs) (fun W h => e_Inner W s (K.below h) hs)
end Go.Proofs.YtilfcikhipadpaaGreatDoor
end

section
/- What is wanted is the table's own: plain. -/
set_option linter.unusedVariables false
set_option linter.unusedSimpArgs false
namespace Go.Proofs.YtilfcikhipadpaaGreatDoor
open Go.RowKit Go.Lib Rx
theorem lkR_in {p : Rule → Bool} {rs : List Rule} (h : rs.any p = true) : lkR p rs ∈ rs ∧ p (lkR p rs) = true := by
  rcases find_cases p rs with ⟨k, hk, q1, q2, q3, q4⟩ | ⟨q1, q3, q4⟩
  · rw [lk_yes q3]; exact ⟨List.getElem_mem hk, q2⟩
  · rw [q4] at h; cases h
/-- a want that is the table's own -/
def U32 (a : Int) : Prop := 0 ≤ a ∧ a ≤ 4294967295
end Go.Proofs.YtilfcikhipadpaaGreatDoor
end

section
/- What a first packet may become: under other names; what fails. -/
set_option linter.unusedVariables false
set_option linter.unusedSimpArgs false
namespace Go.Proofs.YtilfcikhipadpaaGreatDoor
open Go.RowKit Go.Lib Rx
variable {A : Amb} {rs : List Rule} {o ip b : Int}
theorem of_fail (rs : List Rule) (q si sp di dp ki fl : Int) (ask : Bool) : ((ofQ o ip b rs q si sp di dp ki fl ask) = (9, pl0) ∨ (ofQ o ip b rs q si sp di dp ki fl ask) = (10, pl0) ∨ (ofQ o ip b rs q si sp di dp ki fl ask) = (11, pl0)) ∨ (ofQ o ip b rs q si sp di dp ki fl ask).1 = 0 := by
  unfold ofQ ofR
  simp only [Bool.cond_eq_ite]
  repeat' split
  all_goals simp
theorem of_none (q si sp di dp ki fl : Int) (ask : Bool) : ∃ r, (ofQ o ip b [] q si sp di dp ki fl ask) = (r, pl0) ∧ (r = 9 ∨ r = 10 ∨ r = 11) := by
  rcases of_fail (o := o) (ip := ip) (b := b) [] q si sp di dp ki fl ask with (h | h | h) | h
  · exact ⟨_, h, .inl rfl⟩
  · exact ⟨_, h, .inr (.inl rfl)⟩
  · exact ⟨_, h, .inr (.inr rfl)⟩
  · exfalso
    unfold ofQ ofR at h
    simp only [List.any_nil, Bool.cond_eq_ite] at h
    repeat' split at h
    all_goals simp_all
@[reducible] def oK (R : Int × Pl) : Nat := match R.2.ws with | [] => 0 | _ :: _ => 1
theorem wt_id (σ : Nat → Nat) (ws : List Wt) : (ws.flatMap wtL).map (id0 σ) = ws.flatMap wtL := flat_id (fun _ => rfl) σ ws
theorem of_at {f : FuncId} {args : List Value} {T : TypeId} {R : Int × Pl} {M : List (Nat × Blk)} {M' : (Nat → Nat) → List (Nat × Blk)} (h : CallJ Tryz.prog A f args M 2 (oV 2 R) (oM 2 T M R) (oN R)) (hk : M.map (·.1) = List.range 2) (hin : inBlks 2 M = true) (hid : ∀ σ, M.map (idB σ) = M' σ) (t r nx : Nat) (ht : Nat.blt t nx = true := by kernel_rfl) (hr : Nat.blt r nx = true := by kernel_rfl) (hne : ([t, r] : List Nat).Nodup := by decide) (h1 : args.all (inV 2) = true := by kernel_rfl) :
    CallJ Tryz.prog A f (args.map (idV (sig [t, r] nx))) (M' (sig [t, r] nx)) nx (oV nx R) (oM nx T (M' (sig [t, r] nx)) R) (nx + oK R) := by
  obtain ⟨e, q, si, sp, di, dp, ei, ep, src, st, ws⟩ := R
  have hw : ∀ (p : Nat → Bool) (ws : List Wt), (ws.flatMap wtL).all (in0 p) = true := fun p => all_flat (fun _ => rfl)
  cases ws with
  | nil =>
    have k := CallJ.at (d := 0) h [t, r] nx (hk := hk) (hnd := by simp only [List.all_cons, List.all_nil, ht, hr]; rfl) (hn := hne) (h1 := h1) (h2 := hin) (h4 := hin)
    rw [show (oM 2 T M (e, ⟨q, si, sp, di, dp, ei, ep, src, st, []⟩)) = M from rfl, hid] at k
    exact k
  | cons w ws =>
    have hin3 : inBlks 3 (M ++ [(2, ((w :: ws).flatMap wtL, T, true))]) = true := by
      refine List.all_eq_true.2 fun e he => ?_
      rcases List.mem_append.1 he with he | he
      · have := List.all_eq_true.1 hin e he
        rw [Bool.and_eq_true] at this
        rw [Bool.and_eq_true]
        refine ⟨?_, List.all_eq_true.2 fun v hv => in0_mono (fun i hi => ?_) (List.all_eq_true.1 this.2 v hv)⟩
        · have h := this.1; simp [Nat.blt_eq] at h ⊢; omega
        · simp [ltB, Nat.blt_eq] at hi ⊢; omega
      · rcases List.mem_singleton.1 he with rfl
        rw [Bool.and_eq_true]
        exact ⟨rfl, hw _ _⟩
    have h' : CallJ Tryz.prog A f args M 2 (oV 2 (e, ⟨q, si, sp, di, dp, ei, ep, src, st, w :: ws⟩)) (M ++ [(2, ((w :: ws).flatMap wtL, T, true))]) (2 + 1) := h
    have k := CallJ.at (d := 1) h' [t, r] nx (hk := hk) (hnd := by simp only [List.all_cons, List.all_nil, ht, hr]; rfl) (hn := hne) (h1 := h1) (h2 := hin) (h4 := hin3)
    have hs : sig [t, r] nx 2 = nx := by rw [sig_ge (Nat.le_refl 2)]; show 2 - 2 + nx = nx; omega
    rw [List.map_append, hid] at k
    have e1 : ([(2, ((w :: ws).flatMap wtL, T, true))] : List (Nat × Blk)).map (idB (sig [t, r] nx)) = [(nx, ((w :: ws).flatMap wtL, T, true))] := by
      simp only [List.map_cons, List.map_nil, idB, hs, wt_id]
    have e2 : idV (sig [t, r] nx) (oV 2 (e, ⟨q, si, sp, di, dp, ei, ep, src, st, w :: ws⟩)) = oV nx (e, ⟨q, si, sp, di, dp, ei, ep, src, st, w :: ws⟩) := by
      simp only [oV, idV, id1, id0, idS, idA, List.map_cons, List.map_nil, hs]
    rw [e1, e2] at k
    exact k
@[reducible] def seL (q si sp di dp ki fl : Int) (ask : Bool) (ttl : Int) : Value := .agg #[.int .u8 q, .int .u32 si, .int .u16 sp, .int .u32 di, .int .u16 dp, .int .i64 ki, .int .u8 fl, .bool ask, .int .u8 ttl]
theorem b_OfN (hn : rs.length ≤ 1000) (hok : ∀ r ∈ rs, r.Ok) (hip : 0 ≤ ip ∧ ip ≤ 4294967295) (q si sp di dp ki fl ttl : Int) (ask : Bool) (hs : 0 ≤ si ∧ si ≤ 4294967295) (hd : 0 ≤ di ∧ di ≤ 4294967295) (hL : ∀ W, A.S W → Lasts W) (t r nx : Nat) (ht : Nat.blt t nx = true := by kernel_rfl) (hr : Nat.blt r nx = true := by kernel_rfl) (hne : ([t, r] : List Nat).Nodup := by decide) :
    CallJ Tryz.prog A 15 [ptr t, seL q si sp di dp ki fl ask ttl] (taN t r o ip b rs) nx (oV nx (ofQ o ip b rs q si sp di dp ki fl ask)) (oM nx 73 (taN t r o ip b rs) (ofQ o ip b rs q si sp di dp ki fl ask)) (nx + oK (ofQ o ip b rs q si sp di dp ki fl ask)) := by
  have k := of_at (b_Of (A := A) (.inr rfl) hn hok hip q si sp di dp ki fl ttl ask hs hd hL) rfl (taM_in o ip b rs) (fun σ => taN_id σ 0 1) t r nx ht hr hne
  exact k
/-- of no rules -/
theorem b_Of0 (hip : 0 ≤ ip ∧ ip ≤ 4294967295) (q si sp di dp ki fl ttl : Int) (ask : Bool) (hs : 0 ≤ si ∧ si ≤ 4294967295) (hd : 0 ≤ di ∧ di ≤ 4294967295) (hL : ∀ W, A.S W → Lasts W) (t nx : Nat) (ht : Nat.blt t nx = true := by kernel_rfl) {r : Int} (h : ofQ o ip b [] q si sp di dp ki fl ask = (r, pl0)) :
    CallJ Tryz.prog A 15 [ptr t, seL q si sp di dp ki fl ask ttl] [(t, taB o ip b (.slice none 0 0))] nx (oV nx (r, pl0)) [(t, taB o ip b (.slice none 0 0))] nx := by
  have k := b_Of (A := A) (o := o) (b := b) (.inl ⟨rfl, rfl⟩) (by decide) (fun r h => by cases h) hip q si sp di dp ki fl ttl ask hs hd hL
  rw [h] at k
  exact (CallJ.lvl (a := 2) k 1).at (d := 0) [t] nx (hnd := by simp only [List.all_cons, List.all_nil, ht]; rfl) (hn := by simp)
/-! ### what is seen: its bounds -/
end Go.Proofs.YtilfcikhipadpaaGreatDoor
end

section
/- A wire's text. -/
set_option linter.unusedVariables false
namespace Go.Proofs.YtilfcikhipadpaaGreatDoor
open Go.RowKit Go.Lib

theorem w_Text (k p f t b p0 p1 fl : Int) (s : ByteArray) (w : World) (h : 0 ≤ p ∧ 0 ≤ f ∧ 0 ≤ t ∧ 0 ≤ p0 ∧ 0 ≤ p1 ∧ 0 ≤ fl) (hb : 0 ≤ b) (hf : fl ≤ 255) (hs : s.size ≤ 140737488351232) :
    ∃ out : ByteArray, out.size ≤ 140737488351232 ∧ ∀ W, Below w.heap.size w W → Calls Tryz.prog 10 #[wireV k p f t b p0 p1 fl s] W (Ret (.string out) W) := by
  have cT := fun W => w_Tuple k p f t b p0 p1 fl s W h
  have hT : ((wireT p f t p0 p1 fl).p = 6 ∨ (wireT p f t p0 p1 fl).p = 17 ∨ ((wireT p f t p0 p1 fl).p = 1 ∧ ((wireT p f t p0 p1 fl).d = 0 ∨ ((wireT p f t p0 p1 fl).b = 0 ∧ (wireT p f t p0 p1 fl).d ≠ 0)))) ∧ (0 ≤ (wireT p f t p0 p1 fl).a ∧ (wireT p f t p0 p1 fl).a ≤ 4294967295) ∧ (0 ≤ (wireT p f t p0 p1 fl).b ∧ (wireT p f t p0 p1 fl).b ≤ 65535) ∧ (0 ≤ (wireT p f t p0 p1 fl).c ∧ (wireT p f t p0 p1 fl).c ≤ 4294967295) ∧ (0 ≤ (wireT p f t p0 p1 fl).d ∧ (wireT p f t p0 p1 fl).d ≤ 65535) := by
    have hp := proto_is p h.1
    have b1 := host_bd f; have b2 := host_bd t; have b3 := port_bd p0; have b4 := port_bd p1
    unfold wireT
    split
    · rename_i hp1
      split
      · exact ⟨Or.inr (Or.inr ⟨hp1, by by_cases h : portV p1 = 0 <;> simp [h]⟩), b1, (by decide : (0 : Int) ≤ 0 ∧ (0 : Int) ≤ 65535), b2, b4⟩
      · exact ⟨Or.inr (Or.inr ⟨hp1, Or.inl rfl⟩), b1, b3, b2, (by decide : (0 : Int) ≤ 0 ∧ (0 : Int) ≤ 65535)⟩
    · refine ⟨?_, b1, b3, b2, b4⟩
      simp only
      omega
  have hF : 0 ≤ flV fl ∧ flV fl ≤ 255 := by unfold flV; split <;> omega
  have cF := fun W => w_flags k p f t b p0 p1 fl s W
  generalize wireT p f t p0 p1 fl = T at *
  generalize flV fl = F at *
  obtain ⟨h1, h2, h3, h4, h5⟩ := hT
  by_cases k5 : k.tmod 8 = 5
  · obtain ⟨o1, z1, c1⟩ := madeG T.p T.a T.b T.c T.d F 9 { data := #[97, 98, 99, 100, 101, 102, 103, 104] } h1 h2 h3 h4 h5 hF (by decide) (by decide)
    have z1 : o1.size ≤ 48 := z1
    obtain ⟨o2, z2, c2⟩ := wrongG (hostV b) T.a 3 o1 (host_bd b) h2 (by decide) (by omega)
    refine ⟨o2, by omega, fun W _ => ?_⟩
    exact Rx.run (args := [wireV k p f t b p0 p1 fl s]) [Rx.yes 7 (b := k.tmod 8 == 5) (by simpa using k5), Rx.does 10 (args := [.int .u8 b, .int .u8 0]) (fun W _ => w_point b 0 W hb (by decide)), Rx.does 13 (args := [wireV k p f t b p0 p1 fl s]) (fun W _ => cT W), Rx.does 17 (args := [wireV k p f t b p0 p1 fl s]) (fun W _ => cT W), Rx.does 19 (args := [wireV k p f t b p0 p1 fl s]) (fun W _ => cF W), Rx.does 20 (args := [_, _, _, _]) (fun W _ => c1 W), Rx.does 21 (args := [_, _, _, _]) (fun W _ => c2 W)]
  have n5 : (k.tmod 8 == 5) = false := by simpa using k5
  by_cases k6 : k.tmod 8 = 6
  · obtain ⟨o1, z1, c1⟩ := madeG T.p T.a T.b T.c T.d F 1 { data := #[97, 98, 99] } h1 h2 h3 h4 h5 hF (by decide) (by decide)
    have z1 : o1.size ≤ 43 := z1
    refine ⟨o1, by omega, fun W _ => ?_⟩
    exact Rx.run (args := [wireV k p f t b p0 p1 fl s]) [Rx.no 7 n5, Rx.yes 10 (b := k.tmod 8 == 6) (by simpa using k6), Rx.does 12 (args := [wireV k p f t b p0 p1 fl s]) (fun W _ => cT W), Rx.does 14 (args := [wireV k p f t b p0 p1 fl s]) (fun W _ => cF W), Rx.does 15 (args := [_, _, _, _]) (fun W _ => c1 W)]
  have n6 : (k.tmod 8 == 6) = false := by simpa using k6
  by_cases k7 : k.tmod 8 = 7
  · exact ⟨s, hs, fun W _ => Rx.run (args := [wireV k p f t b p0 p1 fl s]) [Rx.no 7 n5, Rx.no 10 n6, Rx.yes 13 (b := k.tmod 8 == 7) (by simpa using k7)]⟩
  · obtain ⟨o1, z1, c1⟩ := madeG T.p T.a T.b T.c T.d F 64 { data := #[97, 98, 99, 100] } h1 h2 h3 h4 h5 hF (by decide) (by decide)
    have z1 : o1.size ≤ 44 := z1
    refine ⟨o1, by omega, fun W _ => ?_⟩
    exact Rx.run (args := [wireV k p f t b p0 p1 fl s]) [Rx.no 7 n5, Rx.no 10 n6, Rx.no 13 (b := k.tmod 8 == 7) (by simpa using k7), Rx.does 15 (args := [wireV k p f t b p0 p1 fl s]) (fun W _ => cT W), Rx.does 17 (args := [wireV k p f t b p0 p1 fl s]) (fun W _ => cF W), Rx.does 18 (args := [_, _, _, _]) (fun W _ => c1 W)]
end Go.Proofs.YtilfcikhipadpaaGreatDoor
end
