/- Several texts of this claim, one behind the other. -/
import Derived.Test.YtedfdphapcanoaaGreatDoorM21
import Derived.Test.YtedfdphapcanoaaGreatDoorM1
import Derived.Test.YtedfdphapcanoaaGreatDoorM16
import Derived.Test.YtedfdphapcanoaaGreatDoorM23
import Derived.Deep.RegionHeldLaw
import Derived.Deep.RegionHeld3
import Derived.StillTailTactics

section
/- The document's answer for icmp (porterref07) over this program. -/
set_option linter.unusedVariables false
namespace Go.Proofs.YtedfdphapcanoaaGreatDoor
open Go.RowKit
attribute [local go_sem] Oper.semAt_some

/-- a message's cells -/
structure Msg where
  t : Int
  c : Int
  n : Int
  r : ByteArray
  d : ByteArray
def Msg.Ok (m : Msg) : Prop := (0 ≤ m.t ∧ m.t ≤ 255) ∧ (0 ≤ m.c ∧ m.c ≤ 255) ∧ (0 ≤ m.n ∧ m.n ≤ 65535) ∧ m.r.size ≤ 140737488351232 ∧ m.d.size ≤ 140737488351232
/-- what a text is as a message -/
def msgOf (s : ByteArray) : Msg := ⟨at_ (L s) 0, at_ (L s) 1, be16 (L s) 2, s.extract 4 8, s.extract 8 s.size⟩
theorem msgOf_ok {s : ByteArray} (hs : s.size ≤ 140737488351232) : (msgOf s).Ok := by
  refine ⟨at_bd _ _, at_bd _ _, be16_bd _ _, ?_, ?_⟩
  · show (s.extract 4 8).size ≤ _; rw [ByteArray.size_extract]; omega
  · show (s.extract 8 s.size).size ≤ _; rw [ByteArray.size_extract]; omega
/-- a message's bytes -/
def msgPut (m : Msg) : List UInt8 := [byt m.t, byt m.c] ++ put16 m.n ++ L m.r ++ L m.d

theorem r7_Parse_no (s : ByteArray) (w : World) (h : s.size < 8) :
    Calls Tryz.prog 196 #[.string s] w (Ret (.tuple #[.agg #[.int .u8 0, .int .u8 0, .int .u16 0, .string { data := #[] }, .string { data := #[] }], .bool false]) w) := by
  have q2 : (s.size : Int) < 8 := by omega
  go_enter Tryz.func196, Tryz.ntmps196
  go_wp2_with fail
  (try simp only [Exit.inBlock, Exit.then]); refine bodyPost_ret (by simp [results, Tryz.results196, go_sem]; try rfl) rfl ?_
  exact ⟨rfl, fresh_below _ _⟩

set_option maxRecDepth 100000 in
set_option maxHeartbeats 4000000 in
theorem r7_Parse_yes (s : ByteArray) (w : World) (hs : s.size ≤ 140737488351232) (h : 8 ≤ s.size) :
    Calls Tryz.prog 196 #[.string s] w (Ret (.tuple #[.agg #[.int .u8 (msgOf s).t, .int .u8 (msgOf s).c, .int .u16 (msgOf s).n, .string (msgOf s).r, .string (msgOf s).d], .bool true]) w) := by
  have c1 := fun w => r_Get16 s 2 w (reach_max hs) (by omega)
  have hh : has s.size 2 2 = true := has_true (by omega) (by omega)
  have hn : get16 (L s) 2 = (msgOf s).n := by rw [show (2 : Int) = ((2 : Nat) : Int) from rfl, get16_nat (by rw [L_length]; omega)]; rfl
  rw [hh, hn] at c1
  have e0 : (((s[0]'(by omega)).toNat : Nat) : Int) = (msgOf s).t := by rw [getElem_L s 0 (by omega)]; rfl
  have e1 : (((s[1]'(by omega)).toNat : Nat) : Int) = (msgOf s).c := by rw [getElem_L s 1 (by omega)]; rfl
  have e2 : s.extract 4 8 = (msgOf s).r := rfl
  have e3 : s.extract 8 s.size = (msgOf s).d := rfl
  obtain ⟨m, hm⟩ : ∃ m, m = msgOf s := ⟨_, rfl⟩
  rw [← hm] at c1 e0 e1 e2 e3 ⊢
  have q2 : ¬ (s.size : Int) < 8 := by omega
  have i1 : (4 : Int) ≤ (s.size : Int) := by omega
  have i2 : (8 : Int) ≤ (s.size : Int) := by omega
  have i3 : (1 : Int) < (s.size : Int) := by omega
  have i4 : (0 : Int) < (s.size : Int) := by omega
  have i5 : 0 < s.size := by omega
  have i6 : 1 < s.size := by omega
  have i7 : 8 ≤ s.size := h
  have i8 : 4 ≤ s.size := by omega
  have C1 := hide c1; have E0 := hide e0; have E1 := hide e1; have E2 := hide e2; have E3 := hide e3
  clear c1 e0 e1 e2 e3 hh hn hm
  go_enter Tryz.func196, Tryz.ntmps196
  have d0 := Cells.new w #[.int .u8 0, .int .u8 0, .int .u16 0, .string { data := #[] }, .string { data := #[] }] 209
  go_wp2_with fail
  (with_reducible refine (C1.out _).mono ?_)
  rintro e w1 ⟨rfl, b1⟩
  replace d0 := Cells.up d0 (by (repeat' (first | with_reducible exact Below.refl _ _ | with_reducible refine bstep ?_ (fresh_below _ _) | with_reducible refine Below.drew ?_))) b1
  replace b1 : Below w.heap.size w w1 := by (refine bstep ?_ b1); (repeat' (first | with_reducible exact Below.refl _ _ | with_reducible refine Below.setCell ?_ (by first | exact Nat.le_refl _ | (dsimp only; omega)) _ | with_reducible refine bstep ?_ (fresh_below _ _) | with_reducible refine Below.drew ?_))
  have z1 : w.heap.size ≤ w1.heap.size := b1.size
  go_wp2_with fail
  have d1 : Cells w1.drew w.heap.size #[.int .u8 0, .int .u8 0, .int .u16 0, .string { data := #[] }, .string { data := #[] }] 209 := d0
  have b2 := b1.drew
  go_still_tail 10, (by kernel_rfl)
  change wpList _ _ _ _ _ w1.drew
  generalize w1.drew = w2 at *
  have xd1_0 : w2.cell? ⟨w.heap.size, 0, none⟩ = some (.int .u8 0) := d1.at_ 0
  have xd1_1 : w2.cell? ⟨w.heap.size, 1, none⟩ = some (.int .u8 0) := d1.at_ 1
  have xd1_2 : w2.cell? ⟨w.heap.size, 2, none⟩ = some (.int .u16 0) := d1.at_ 2
  have xd1_3 : w2.cell? ⟨w.heap.size, 3, none⟩ = some (.string { data := #[] }) := d1.at_ 3
  have xd1_4 : w2.cell? ⟨w.heap.size, 4, none⟩ = some (.string { data := #[] }) := d1.at_ 4
  have yd1_0 : w2.frozen? ⟨w.heap.size, 0, none⟩ = false := d1.free 0
  have yd1_1 : w2.frozen? ⟨w.heap.size, 1, none⟩ = false := d1.free 1
  have yd1_2 : w2.frozen? ⟨w.heap.size, 2, none⟩ = false := d1.free 2
  have yd1_3 : w2.frozen? ⟨w.heap.size, 3, none⟩ = false := d1.free 3
  have yd1_4 : w2.frozen? ⟨w.heap.size, 4, none⟩ = false := d1.free 4
  go_wp2
  (try simp only [Exit.inBlock, Exit.then]); refine bodyPost_ret (by simp [results, Tryz.results196, go_sem, *]; try rfl) rfl ?_
  exact ⟨by rw [← E0.out, ← E1.out, ← E2.out, ← E3.out], (by (repeat' (first | exact b2 | with_reducible exact Below.refl _ _ | with_reducible refine Below.setCell ?_ (by first | exact Nat.le_refl _ | (dsimp only; omega)) _ | with_reducible refine bstep ?_ bq0 | with_reducible refine bstep ?_ bq1 | with_reducible refine bstep ?_ bq2 | with_reducible refine bstep ?_ bq3 | with_reducible refine bstep ?_ bq4 | with_reducible refine bstep ?_ bq5 | with_reducible refine bstep ?_ (fresh_below _ _) | with_reducible refine Below.drew ?_)))⟩

theorem r7_Put_no (m : Msg) (w : World) (h : m.r.size ≠ 4) :
    Calls Tryz.prog 110 #[.agg #[.int .u8 m.t, .int .u8 m.c, .int .u16 m.n, .string m.r, .string m.d]] w (Ret (.tuple #[.string { data := #[] }, .int .i64 2]) w) := by
  have q1 : ((m.r.size : Int) == 4) = false := by simp; omega
  have q2 : ((m.r.size : Int) != 4) = true := by simp; omega
  go_enter Tryz.func110, Tryz.ntmps110
  go_wp2_with fail
  go_ret2
  exact ⟨rfl, (by (repeat' (first | with_reducible exact Below.refl _ _ | with_reducible refine Below.setCell ?_ (by first | exact Nat.le_refl _ | (dsimp only; omega)) _ | with_reducible refine bstep ?_ (fresh_below _ _) | with_reducible refine Below.drew ?_)))⟩

/-- a message with its sum -/
def icmpSum (l : List UInt8) : Int := sumL [lay l 2 0]
def icmpSeal (l : List UInt8) : List UInt8 := if l.length < 8 then l else lay l 2 (icmpSum l)
theorem icmpSum_bd (l : List UInt8) : 0 ≤ icmpSum l ∧ icmpSum l ≤ 65535 := sumL_bd _

end Go.Proofs.YtedfdphapcanoaaGreatDoor
end

section
/- Put of the document's icmp (porterref07) over this program. -/
set_option linter.unusedVariables false
namespace Go.Proofs.YtedfdphapcanoaaGreatDoor
open Go.RowKit
attribute [local go_sem] Oper.semAt_some

set_option maxRecDepth 100000 in
set_option maxHeartbeats 4000000 in
theorem r7_Put_yes (m : Msg) (w : World) (ho : m.Ok) (h : m.r.size = 4) :
    Calls Tryz.prog 110 #[.agg #[.int .u8 m.t, .int .u8 m.c, .int .u16 m.n, .string m.r, .string m.d]] w (Ret (.tuple #[.string (S (msgPut m)), .int .i64 0]) w) := by
  obtain ⟨⟨t0, t1⟩, ⟨c0, c1⟩, ⟨n0, n1⟩, hr, hd⟩ := ho
  have f1 := fun w => r_Put16 m.n w n0 n1
  obtain ⟨s2, e2⟩ : ∃ s, s = S (put16 m.n) := ⟨_, rfl⟩
  rw [← e2] at f1
  have z2 : s2.size = 2 := by rw [e2]; rfl
  have z1 : (S [byt m.t, byt m.c]).size = 2 := rfl
  have hend : S [byt m.t, byt m.c] ++ s2 ++ m.r ++ m.d = S (msgPut m) := by
    apply L_inj; rw [L_append, L_append, L_append, e2]; rfl
  obtain ⟨s1, e1⟩ : ∃ s, s = S [byt m.t, byt m.c] := ⟨_, rfl⟩
  rw [← e1] at z1 hend
  have cv : ∀ (W : World) (b : Nat), W.cell? ⟨b, 0, none⟩ = some (.int .u8 m.t) → W.cell? ⟨b, 1, none⟩ = some (.int .u8 m.c) → (convert 283 9 (.slice (some ⟨b, 0, none⟩) 2 2)).run Tryz.prog W = .ok (.string s1) W := fun W b h0 h1 => by
    rw [e1]
    exact run_convert_bytes_arg (P := Tryz.prog) W 283 5 Tryz.underlying283 Tryz.underlying5 b 0 2 2 [m.t, m.c] rfl
      (fun i hi => by
        match i, hi with
        | 0, _ => exact h0
        | 1, _ => exact h1) 9 Tryz.underlying9
  have y1 : (s1 ++ s2).size = 4 := by rw [ByteArray.size_append, z1, z2]
  have y2 : (s1 ++ s2 ++ m.r).size = 8 := by rw [ByteArray.size_append, y1, h]
  have q1 : ((m.r.size : Int) == 4) = true := by simp; omega
  have q2 : ((m.r.size : Int) != 4) = false := by simp; omega
  have hd2 : (m.d.size : Int) ≤ 140737488351232 := by omega
  have F1 := hide f1; have HE := hide hend
  clear f1 hend e1 e2 h
  go_enter Tryz.func110, Tryz.ntmps110
  have d0 := Cells.new w #[.int .u8 m.t, .int .u8 m.c, .int .u16 m.n, .string m.r, .string m.d] 209
  go_wp2_with fail
  have qA : ∀ (W : World), (W.alloc (.cells #[.int .u8 m.t, .int .u8 m.c] 5)).cell? ⟨W.heap.size, 0, none⟩ = some (.int .u8 m.t) := fun W => Lib.cell_of_heap (heap_alloc_new W _) 0
  have qB : ∀ (W : World), (W.alloc (.cells #[.int .u8 m.t, .int .u8 m.c] 5)).cell? ⟨W.heap.size, 1, none⟩ = some (.int .u8 m.c) := fun W => Lib.cell_of_heap (heap_alloc_new W _) 1
  have SK := hide (fun (zX zY : World) (zh : (Below w.heap.size w zX ∧ zX.cell? ⟨w.heap.size, 0, none⟩ = some (.int .u8 m.t) ∧ zX.cell? ⟨w.heap.size, 1, none⟩ = some (.int .u8 m.c) ∧ zX.cell? ⟨w.heap.size, 2, none⟩ = some (.int .u16 m.n) ∧ zX.cell? ⟨w.heap.size, 3, none⟩ = some (.string m.r) ∧ zX.cell? ⟨w.heap.size, 4, none⟩ = some (.string m.d) ∧ True)) (zb : Below zX.heap.size zX zY) => (show (Below w.heap.size w zY ∧ zY.cell? ⟨w.heap.size, 0, none⟩ = some (.int .u8 m.t) ∧ zY.cell? ⟨w.heap.size, 1, none⟩ = some (.int .u8 m.c) ∧ zY.cell? ⟨w.heap.size, 2, none⟩ = some (.int .u16 m.n) ∧ zY.cell? ⟨w.heap.size, 3, none⟩ = some (.string m.r) ∧ zY.cell? ⟨w.heap.size, 4, none⟩ = some (.string m.d) ∧ True) from ⟨bstep zh.1 zb, cellAt zb zh.2.1, cellAt zb zh.2.2.1, cellAt zb zh.2.2.2.1, cellAt zb zh.2.2.2.2.1, cellAt zb zh.2.2.2.2.2.1, trivial⟩))
  have FS := hide (fun (zX : World) (zh : (Below w.heap.size w zX ∧ zX.cell? ⟨w.heap.size, 0, none⟩ = some (.int .u8 m.t) ∧ zX.cell? ⟨w.heap.size, 1, none⟩ = some (.int .u8 m.c) ∧ zX.cell? ⟨w.heap.size, 2, none⟩ = some (.int .u16 m.n) ∧ zX.cell? ⟨w.heap.size, 3, none⟩ = some (.string m.r) ∧ zX.cell? ⟨w.heap.size, 4, none⟩ = some (.string m.d) ∧ True)) => zh.1)
  have GS := hide (fun (zX : World) (zh : (Below w.heap.size w zX ∧ zX.cell? ⟨w.heap.size, 0, none⟩ = some (.int .u8 m.t) ∧ zX.cell? ⟨w.heap.size, 1, none⟩ = some (.int .u8 m.c) ∧ zX.cell? ⟨w.heap.size, 2, none⟩ = some (.int .u16 m.n) ∧ zX.cell? ⟨w.heap.size, 3, none⟩ = some (.string m.r) ∧ zX.cell? ⟨w.heap.size, 4, none⟩ = some (.string m.d) ∧ True)) => zh)
  have hS0 : (Below w.heap.size w (w.alloc (.cells #[.int .u8 m.t, .int .u8 m.c, .int .u16 m.n, .string m.r, .string m.d] 209)) ∧ (w.alloc (.cells #[.int .u8 m.t, .int .u8 m.c, .int .u16 m.n, .string m.r, .string m.d] 209)).cell? ⟨w.heap.size, 0, none⟩ = some (.int .u8 m.t) ∧ (w.alloc (.cells #[.int .u8 m.t, .int .u8 m.c, .int .u16 m.n, .string m.r, .string m.d] 209)).cell? ⟨w.heap.size, 1, none⟩ = some (.int .u8 m.c) ∧ (w.alloc (.cells #[.int .u8 m.t, .int .u8 m.c, .int .u16 m.n, .string m.r, .string m.d] 209)).cell? ⟨w.heap.size, 2, none⟩ = some (.int .u16 m.n) ∧ (w.alloc (.cells #[.int .u8 m.t, .int .u8 m.c, .int .u16 m.n, .string m.r, .string m.d] 209)).cell? ⟨w.heap.size, 3, none⟩ = some (.string m.r) ∧ (w.alloc (.cells #[.int .u8 m.t, .int .u8 m.c, .int .u16 m.n, .string m.r, .string m.d] 209)).cell? ⟨w.heap.size, 4, none⟩ = some (.string m.d) ∧ True) := ⟨(by (repeat' (first | with_reducible exact Below.refl _ _ | with_reducible refine Below.setCell ?_ (by first | exact Nat.le_refl _ | (dsimp only; omega)) _ | with_reducible refine bstep ?_ (fresh_below _ _) | with_reducible refine Below.drew ?_))), d0.at_ 0, d0.at_ 1, d0.at_ 2, d0.at_ 3, d0.at_ 4, trivial⟩
  go_region_held_law (fun w' => (Below w.heap.size w w' ∧ w'.cell? ⟨w.heap.size, 0, none⟩ = some (.int .u8 m.t) ∧ w'.cell? ⟨w.heap.size, 1, none⟩ = some (.int .u8 m.c) ∧ w'.cell? ⟨w.heap.size, 2, none⟩ = some (.int .u16 m.n) ∧ w'.cell? ⟨w.heap.size, 3, none⟩ = some (.string m.r) ∧ w'.cell? ⟨w.heap.size, 4, none⟩ = some (.string m.d) ∧ True)) (first | assumption | exact SK.out _ _ hS0 (Below.refl _ _).drew | exact SK.out _ _ hS0 (fresh_below _ _).drew | exact SK.out _ _ (by assumption) (fresh_below _ _) | (refine SK.out _ _ ?_ (by assumption); assumption))
    (first | (go_at_call 182; (with_reducible refine (F1.out _).mono ?_); rintro e wq ⟨rfl, bq⟩; try (have qc : wq.cell? ⟨w.heap.size + 1, 0, none⟩ = some (.int .u8 m.t) := by (have := cellAt bq (qA _); simpa using this)); try (have qd : wq.cell? ⟨w.heap.size + 1, 1, none⟩ = some (.int .u8 m.c) := by (have := cellAt bq (qB _); simpa using this))))
  all_goals
    trace_state
    go_wp2
    go_ret2
    exact ⟨ret_two (v_str HE.out) rfl, (by first | exact FS.out _ (by assumption) | exact bstep (FS.out _ (by assumption)) (fresh_below _ _) | exact bstep (bstep (FS.out _ (by assumption)) (fresh_below _ _)) (fresh_below _ _))⟩

end Go.Proofs.YtedfdphapcanoaaGreatDoor
end
