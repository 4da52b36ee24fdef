/- Several texts of this claim, one behind the other. -/
import Derived.Test.YtilfcikhipadpaaGreatDoorK25a
import Derived.Deep.CutRange

section
/- embeds: two, addr, lay, ends, over this program. -/
set_option linter.unusedVariables false
set_option linter.unusedSimpArgs false
namespace Go.Proofs.YtilfcikhipadpaaGreatDoor
open Go.RowKit
attribute [local go_sem] Oper.semAt_some envL lookV

theorem e_two (w : World) (B : Nat) (s : ByteArray) (i : Int) (hC : w.cell? ⟨B, 0, none⟩ = some (.string s)) (hs : s.size ≤ 140737488351232) (hi : -9223372036854775808 ≤ i ∧ i ≤ 9223372036854775807) :
    Calls Tryz.prog 161 #[.pointer (some ⟨B, 0, none⟩), .int .i64 i] w (Ret (.int .u16 (get16 (L s) i)) w) := by
  have c := fun W => Get16 s i W (reach_max hs) hi
  generalize get16 (L s) i = x at *
  generalize has s.size i 2 = y at *
  have C := hide c
  clear c hs hi
  have bb : Below w.heap.size w w := Below.refl _ _
  go_enter Tryz.func161, Tryz.ntmps161
  go_wp2_with ((go_at_call 165; (with_reducible refine (C.out _).mono ?_); rintro e2 w2 ⟨rfl, b2⟩; have b2' := bstep (by assumption : Below w.heap.size w _) b2; clear b2))
  go_ret
  exact ⟨rfl, by assumption⟩
theorem e_addr (w : World) (B : Nat) (s : ByteArray) (i : Int) (hC : w.cell? ⟨B, 0, none⟩ = some (.string s)) (hs : s.size ≤ 140737488351232) (hi : -9223372036854775808 ≤ i ∧ i ≤ 9223372036854775807) :
    Calls Tryz.prog 188 #[.pointer (some ⟨B, 0, none⟩), .int .i64 i] w (Ret (.int .u32 (get32 (L s) i)) w) := by
  have c := fun W => Get32 s i W (reach_max hs) hi
  generalize get32 (L s) i = x at *
  generalize has s.size i 4 = y at *
  have C := hide c
  clear c hs hi
  have bb : Below w.heap.size w w := Below.refl _ _
  go_enter Tryz.func188, Tryz.ntmps188
  go_wp2_with ((go_at_call 178; (with_reducible refine (C.out _).mono ?_); rintro e2 w2 ⟨rfl, b2⟩; have b2' := bstep (by assumption : Below w.heap.size w _) b2; clear b2))
  go_ret
  exact ⟨rfl, by assumption⟩
end Go.Proofs.YtilfcikhipadpaaGreatDoor
end

section
/- embeds.query: the query that an error is about, over this program. -/
set_option linter.unusedVariables false
set_option linter.unusedSimpArgs false
namespace Go.Proofs.YtilfcikhipadpaaGreatDoor
open Go.RowKit
attribute [local go_sem] Oper.semAt_some envL lookV

/-- what query leaves: the packet with its ID; none: it is no query -/
def Asked (w : World) (B : Nat) (s : ByteArray) (e : Int) (p a c id : Int) (ask is : Bool) (en : Ending) (w' : World) : Prop :=
  if is = true then en = .returned (.tuple #[.pointer (some ⟨B, 0, none⟩), .int .i64 0]) ∧ Em w' B s e (if ask = true then ⟨p, a, id, c, 0⟩ else ⟨p, a, 0, c, id⟩) ask ∧ Only (fun i => i = B) w w'
  else en = .returned (.tuple #[.pointer none, .int .i64 15]) ∧ Below w.heap.size w w'
set_option maxRecDepth 100000 in
set_option maxHeartbeats 8000000 in
theorem e_query (w : World) (B : Nat) (s : ByteArray) (k : Nat) (p a c : Int) (hC : Em w B s k ⟨p, a, 0, c, 0⟩ false) (K0 : Kinds w) (hs : s.size ≤ 140737488351232) (h : k + 8 ≤ s.size) :
    Calls Tryz.prog 189 #[.pointer (some ⟨B, 0, none⟩)] w (Asked w B s k p a c (be16 (L s) (k + 4)) (qAsk ⟨at_ (L s) k, at_ (L s) (k + 1), 0, { data := #[] }, { data := #[] }⟩) (qIs ⟨at_ (L s) k, at_ (L s) (k + 1), 0, { data := #[] }, { data := #[] }⟩)) := by
  have h0 := at_bd (L s) k; have h1 := at_bd (L s) (k + 1)
  have c1 := fun W (hW : Below w.heap.size w W) => i_Query ⟨at_ (L s) k, at_ (L s) (k + 1), 0, { data := #[] }, { data := #[] }⟩ W ⟨h0, h1, ⟨(by decide : (0 : Int) ≤ 0), (by decide : (0 : Int) ≤ 65535)⟩, Nat.zero_le _, Nat.zero_le _⟩ (K0.below hW)
  obtain ⟨z4, hz4⟩ : ∃ z : Int, z = (k : Int) + 4 := ⟨_, rfl⟩
  obtain ⟨z1, hz1⟩ : ∃ z : Nat, z = k + 1 := ⟨_, rfl⟩
  have c2 := fun W (hW : Below w.heap.size w W) => e_two W B s z4 (by rw [(Cells.below hW hC).at_ 0]; rfl) hs ⟨by omega, by omega⟩
  rw [show get16 (L s) z4 = be16 (L s) (k + 4) from by rw [hz4, show (k : Int) + 4 = ((k + 4 : Nat) : Int) from rfl, get16_nat (by rw [L_length]; omega)]] at c2
  simp only at c1
  have i0 : k < s.size := by omega
  have i1 : z1 < s.size := by omega
  have e0 : (((s[k]'i0).toNat : Nat) : Int) = at_ (L s) k := by rw [getElem_L s k (by omega)]; rfl
  have e1 : (((s[z1]'i1).toNat : Nat) : Int) = at_ (L s) (k + 1) := by rw [getElem_L s z1 (by omega), hz1]; rfl
  generalize qAsk ⟨at_ (L s) k, at_ (L s) (k + 1), 0, { data := #[] }, { data := #[] }⟩ = ask at *
  generalize qIs ⟨at_ (L s) k, at_ (L s) (k + 1), 0, { data := #[] }, { data := #[] }⟩ = is at *
  generalize be16 (L s) (k + 4) = id at *
  generalize at_ (L s) k = x0 at *
  generalize at_ (L s) (k + 1) = x1 at *
  have hw1 : IntKind.i64.wrap ((k : Int) + 1) = (z1 : Int) := by rw [IntWalk.i64_in _ (by omega)]; omega
  have hw4 : IntKind.i64.wrap ((k : Int) + 4) = z4 := by rw [IntWalk.i64_in _ (by omega), hz4]
  have j0 : (k : Int) < (s.size : Int) := by omega
  have j1 : (z1 : Int) < (s.size : Int) := by omega
  have C1 := hide c1; have C2 := hide c2; have HC := hide hC
  have q0 : ∀ W', Below w.heap.size w W' → W'.cell? ⟨B, 0, none⟩ = some (.string s) := fun W' hW => (Cells.below hW hC).at_ 0
  have q1 : ∀ W', Below w.heap.size w W' → W'.cell? ⟨B, 1, none⟩ = some (.int .i64 (k : Int)) := fun W' hW => (Cells.below hW hC).at_ 1
  have bb : Below w.heap.size w w := Below.refl _ _
  clear c1 c2 hC K0 hs h h0 h1 hz4 hz1
  go_enter Tryz.func189, Tryz.ntmps189
  go_upto_region 1 with fail
  have s0 : Below w.heap.size w w.drew := Below.drew bb
  focus
    refine wp_region_J [] (fun W => Below w.heap.size w W) (by kernel_rfl) (s0) (fun hS0 => ?_)
    refine tJ 0 rfl hS0 ?_
    (try simp only [Act.put, putS])
    refine tJ 1 rfl hS0 ?_
    (try simp only [Act.put, putS])
    refine tJ 2 rfl hS0 ?_
    (try simp only [Act.put, putS])
    refine tJ 3 rfl hS0 ?_
    (try simp only [Act.put, putS])
    refine tJ 4 rfl hS0 ?_
    (try simp only [Act.put, putS])
    refine tJ 5 rfl hS0 ?_
    (try simp only [Act.put, putS])
    refine tJ 6 rfl hS0 ?_
    (try simp only [Act.put, putS])
    refine tJ 7 rfl hS0 ?_
    (try simp only [Act.put, putS])
    refine tJ 8 rfl hS0 ?_
    (try simp only [Act.put, putS])
    refine tJ 9 rfl hS0 ?_
    (try simp only [Act.put, putS])
    refine tJ 10 rfl hS0 ?_
    (try simp only [Act.put, putS])
    refine tJ 11 rfl hS0 ?_
    (try simp only [Act.put, putS])
    refine tJ 12 rfl hS0 ?_
    (try simp only [Act.put, putS])
    refine tJ 13 rfl hS0 ?_
    (try simp only [Act.put, putS])
    refine tJ 14 rfl hS0 ?_
    (try simp only [Act.put, putS])
    refine tJ 15 rfl hS0 ?_
    (try simp only [Act.put, putS])
    refine tJ 16 rfl hS0 ?_
    (try simp only [Act.put, putS])
    refine tJ 17 rfl hS0 ?_
    (try simp only [Act.put, putS])
    refine tJ 18 rfl hS0 ?_
    (try simp only [Act.put, putS])
    refine tJ 19 rfl hS0 ?_
    (try simp only [Act.put, putS])
    refine tJ 20 rfl hS0 ?_
    (try simp only [Act.put, putS])
    refine tJ 21 rfl hS0 ?_
    (try simp only [Act.put, putS])
    refine rJ [22] ?_
    refine (AllReadyJ.cons rfl (fun K hK => ?_) AllReadyJ.nil)
    rw [if_pos (by kernel_rfl)]
    (try simp only [putG])
    (focus go_simp)
    (focus ((with_reducible refine (C1.out _ hS0).mono ?_); rintro e wq ⟨rfl, bq⟩; have sq := bstep hS0 bq))
    (focus (try go_wp2_with fail))
    refine hK.out _ _ ?hs (fun hS0 => ?_)
    case hs => (first | with_reducible exact hS0 | with_reducible exact sq)
    clear hK K
    (try simp only [Act.put, putS])
    refine tJ 23 rfl hS0 ?_
    (try simp only [Act.put, putS])
    refine tJ 24 rfl hS0 ?_
    (try simp only [Act.put, putS])
    refine tJ 25 rfl hS0 ?_
    (try simp only [Act.put, putS])
    refine tJ 26 rfl hS0 ?_
    (try simp only [Act.put, putS])
    refine tJ 27 rfl hS0 ?_
    (try simp only [Act.put, putS])
    refine wpAnyJ_done (by kernel_rfl) ?_ _
  clear s0 sq
  go_upto_region 2 with fail
  have s0 : Below w.heap.size w wq.drew := Below.drew hS0
  clear hS0
  focus
    refine wp_region_J [] (fun W => Below w.heap.size w W) (by kernel_rfl) (s0) (fun hS0 => ?_)
    refine tJ 0 rfl hS0 ?_
    (try simp only [Act.put, putS])
    refine tJ 1 rfl hS0 ?_
    (try simp only [Act.put, putS])
    refine tJ 2 rfl hS0 ?_
    (try simp only [Act.put, putS])
    refine tJ 3 rfl hS0 ?_
    (try simp only [Act.put, putS])
    refine tJ 4 rfl hS0 ?_
    (try simp only [Act.put, putS])
    refine tJ 5 rfl hS0 ?_
    (try simp only [Act.put, putS])
    refine tJ 6 rfl hS0 ?_
    (try simp only [Act.put, putS])
    refine tJ 7 rfl hS0 ?_
    (try simp only [Act.put, putS])
    refine rJ [8] ?_
    refine (AllReadyJ.cons rfl (fun K hK => ?_) AllReadyJ.nil)
    rw [if_pos (by kernel_rfl)]
    (try simp only [putG])
    (focus go_simp)
    (focus ((with_reducible refine (C2.out _ hS0).mono ?_); rintro e wr ⟨rfl, br⟩; have sq := bstep hS0 br))
    (focus (try go_wp2_with fail))
    refine hK.out _ _ ?hs (fun hS0 => ?_)
    case hs => (first | with_reducible exact hS0 | with_reducible exact sq)
    clear hK K
    (try simp only [Act.put, putS])
    refine tJ 9 rfl hS0 ?_
    (try simp only [Act.put, putS])
    refine wpAnyJ_done (by kernel_rfl) ?_ _
  clear s0 sq q0 q1 bb
  unfold Asked
  cases is
  · simp only [Bool.false_eq_true, if_false]
    go_wp2_with fail
    go_ret2
    exact ⟨rfl, hS0⟩
  · have hc := Cells.below hS0 HC.out
    have hB : B < w.heap.size := Cells.lt HC.out
    have ho : Only (fun i => i = B) w wr := Only.of_below hS0 (Nat.le_refl _)
    have HH := hide hc; have HO := hide ho
    clear hc ho hB HC
    cases ask
    · simp only [if_true, Bool.false_eq_true, if_false]
      have kc := HH.out
      have y6 := kc.at_ 6; have f6 := kc.free 6
      clear kc
      go_wp2_with fail
      go_ret2
      exact ⟨rfl, Cells.like (Cells.set_ HH.out 6 (.int .u16 id)) (by simp [emCells]), Only.setAt HO.out 6 _ (Or.inl rfl)⟩
    · simp only [if_true]
      have kc := HH.out
      have y7 := kc.at_ 7; have f7 := kc.free 7
      have y4 : ∀ v, (wr.setCell ⟨B, 7, none⟩ v).cell? ⟨B, 4, none⟩ = some (.int .u16 0) := fun v => (Cells.set_ kc 7 v).at_ 4
      have f4 : ∀ v, (wr.setCell ⟨B, 7, none⟩ v).frozen? ⟨B, 4, none⟩ = false := fun v => (Cells.set_ kc 7 v).free 4
      clear kc
      go_wp2_with fail
      go_ret2
      exact ⟨rfl, Cells.like (Cells.set_ (Cells.set_ HH.out 7 (.bool true)) 4 (.int .u16 id)) (by simp [emCells]), Only.setAt (Only.setAt HO.out 7 _ (Or.inl rfl)) 4 _ (Or.inl rfl)⟩
end Go.Proofs.YtilfcikhipadpaaGreatDoor
end

section
/- embeds.open: what an error is about, over this program. -/
set_option linter.unusedVariables false
set_option linter.unusedSimpArgs false
namespace Go.Proofs.YtilfcikhipadpaaGreatDoor
open Go.RowKit
attribute [local go_sem] Oper.semAt_some envL lookV

theorem em_wraps (n : Int) (h0 : 0 ≤ n) (h1 : n < 2 ^ 16) : IntKind.u16.wrap n = n := by rw [IntKind.wrap_u16]; omega
theorem em_and13 {v : Int} (h0 : 0 ≤ v) (h1 : v < 65536) : bits .and .u16 v 8191 = v % 8192 := bits_mask .u16 16 (by decide) em_wraps 13 (by decide) v h0 h1
/-- what open leaves -/
def Opened (w : World) (s : ByteArray) (en : Ending) (w' : World) : Prop :=
  if emWhy (L s) = 0 then ∃ B, en = .returned (.tuple #[.pointer (some ⟨B, 0, none⟩), .int .i64 0]) ∧ w.heap.size ≤ B ∧ Em w' B s (emAt (L s)) (emTup (L s)) (emAsk (L s)) ∧ Below w.heap.size w w'
  else en = .returned (.tuple #[.pointer none, .int .i64 (emWhy (L s))]) ∧ Below w.heap.size w w'
set_option maxRecDepth 100000 in
set_option maxHeartbeats 4000000 in
theorem e_open_early (w : World) (s : ByteArray) (hs : s.size ≤ 140737488351232) (h : s.size < 20 ∨ (20 ≤ s.size ∧ at_ (L s) 0 / 16 ≠ 4)) :
    Calls Tryz.prog 137 #[.string s] w (Ret (.tuple #[.pointer none, .int .i64 15]) w) := by
  have hsz : (s.size : Int) ≤ 140737488351232 := by omega
  rcases h with h | ⟨h20, hv⟩
  · have q2 : (s.size : Int) < 20 := by omega
    clear h hs
    have bn := fresh_below w (.cells #[.string s, .int .i64 0, .int .u8 0, .int .u32 0, .int .u16 0, .int .u32 0, .int .u16 0, .bool false] 173)
    have BN := hide bn
    clear bn
    go_enter Tryz.func137, Tryz.ntmps137
    go_wp2_with fail
    go_ret2
    exact ⟨rfl, BN.out⟩
  · have q2 : ¬ (s.size : Int) < 20 := by omega
    have i5 : 0 < s.size := by omega
    have e0 : (((s[0]'i5).toNat : Nat) : Int) = at_ (L s) 0 := by rw [getElem_L s 0 (by omega)]; rfl
    have hb := at_bd (L s) 0
    have i4 : (0 : Int) < (s.size : Int) := by omega
    generalize at_ (L s) 0 = x at *
    have m1 : (x / 16 != 4) = true := by simpa using hv
    have m2 : (x / 16 == 4) = false := by simpa using hv
    clear hv hs h20
    have bn := fresh_below w (.cells #[.string s, .int .i64 0, .int .u8 0, .int .u32 0, .int .u16 0, .int .u32 0, .int .u16 0, .bool false] 173)
    have BN := hide bn
    clear bn
    go_enter Tryz.func137, Tryz.ntmps137
    go_wp2_with fail
    go_ret2
    exact ⟨rfl, BN.out⟩
set_option maxRecDepth 100000 in
set_option maxHeartbeats 4000000 in
theorem e_open_mid (w : World) (s : ByteArray) (hs : s.size ≤ 140737488351232) (h20 : 20 ≤ s.size) (hv : at_ (L s) 0 / 16 = 4) (hbad : emEnd (L s) < 20 ∨ (¬ emEnd (L s) < 20 ∧ (s.size : Int) - 8 < emEnd (L s)) ∨ (¬ emEnd (L s) < 20 ∧ ¬ (s.size : Int) - 8 < emEnd (L s) ∧ be16 (L s) 6 % 8192 ≠ 0)) :
    Calls Tryz.prog 137 #[.string s] w (Ret (.tuple #[.pointer none, .int .i64 15]) w) := by
  rw [show emEnd (L s) = ((emAt (L s) : Nat) : Int) from by unfold emAt; have := at_bd (L s) 0; unfold emEnd; omega] at hbad
  have hsz : (s.size : Int) ≤ 140737488351232 := by omega
  have q2 : ¬ (s.size : Int) < 20 := by omega
  have i5 : 0 < s.size := by omega
  have e0 : (((s[0]'i5).toNat : Nat) : Int) = at_ (L s) 0 := by rw [getElem_L s 0 (by omega)]; rfl
  have hb := at_bd (L s) 0
  have i4 : (0 : Int) < (s.size : Int) := by omega
  have hkz : ((emAt (L s) : Nat) : Int) = at_ (L s) 0 % 16 * 4 := by unfold emAt emEnd; omega
  have cw := fun W B (hc : W.cell? ⟨B, 0, none⟩ = some (.string s)) => e_two W B s 6 hc hs ⟨by omega, by omega⟩
  rw [show get16 (L s) 6 = be16 (L s) 6 from get16_nat (k := 6) (by rw [L_length]; omega)] at cw
  have hv16 := be16_bd (L s) 6
  generalize be16 (L s) 6 = v at *
  obtain ⟨k, hk⟩ : ∃ k, k = emAt (L s) := ⟨_, rfl⟩
  rw [← hk] at hkz hbad
  obtain ⟨x, hx⟩ : ∃ x, x = at_ (L s) 0 := ⟨_, rfl⟩
  rw [← hx] at e0 hb hv hkz
  have m1 : (x / 16 != 4) = false := by simpa using hv
  have m2 : (x / 16 == 4) = true := by simpa using hv
  obtain ⟨y, hy⟩ : ∃ y, y = x % 16 := ⟨_, rfl⟩
  have hand : bits .and .u8 x 15 = y := by rw [u8_and15 x hb.1 (by omega), hy]
  rw [← hy] at hkz
  have hyb : 0 ≤ y ∧ y ≤ 15 := by omega
  have wy : IntKind.i64.wrap y = y := IntWalk.i64_in _ (by omega)
  have wz : IntKind.i64.wrap (y * 4) = (k : Int) := by rw [IntWalk.i64_in _ (by omega), hkz]
  obtain ⟨l8, hl8⟩ : ∃ l8 : Int, l8 = (s.size : Int) - 8 := ⟨_, rfl⟩
  have w8 : IntKind.i64.wrap ((s.size : Int) - 8) = l8 := by rw [IntWalk.i64_in _ (by omega), hl8]
  obtain ⟨r, hr⟩ : ∃ r, r = v % 8192 := ⟨_, rfl⟩
  have hand2 : bits .and .u16 v 8191 = r := by rw [em_and13 hv16.1 (by omega), hr]
  have hkb : k ≤ 60 := by omega
  have CW := hide cw
  clear cw
  rw [← hl8, ← hr] at hbad
  clear hx hy hkz hk hb hv hyb hl8 hr hv16 hs h20
  go_enter Tryz.func137, Tryz.ntmps137
  have d0 := Cells.new w #[.string s, .int .i64 0, .int .u8 0, .int .u32 0, .int .u16 0, .int .u32 0, .int .u16 0, .bool false] 173
  have bn := fresh_below w (.cells #[.string s, .int .i64 0, .int .u8 0, .int .u32 0, .int .u16 0, .int .u32 0, .int .u16 0, .bool false] 173)
  have z0 := d0.at_ 1; have zf := d0.free 1
  have D0 := hide d0; have BN := hide bn
  clear d0 bn
  go_upto_region 5 with fail
  have ec := Cells.new w #[.string s, .int .i64 (k : Int), .int .u8 0, .int .u32 0, .int .u16 0, .int .u32 0, .int .u16 0, .bool false] 173
  have eb := fresh_below w (.cells #[.string s, .int .i64 (k : Int), .int .u8 0, .int .u32 0, .int .u16 0, .int .u32 0, .int .u16 0, .bool false] 173)
  clear z0 zf D0 BN q2 m1 m2 hand wy wz
  generalize (w.alloc (.cells #[.string s, .int .i64 (k : Int), .int .u8 0, .int .u32 0, .int .u16 0, .int .u32 0, .int .u16 0, .bool false] 173)) = w5 at *
  have EC := hide ec; have EB := hide eb
  clear eb
  obtain ⟨qec_0, qec_1, qec_2, qec_3, qec_4, qec_5, qec_6, qec_7⟩ := ec.q8
  have bb : Below w5.heap.size w5 w5 := Below.refl _ _
  clear ec
  rcases hbad with h1 | ⟨h1, h2⟩ | ⟨h1, h2, h3⟩
  · have h1z : (k : Int) < 20 := h1
    go_wp2_with fail
    go_ret2
    exact ⟨rfl, EB.out⟩
  · go_wp2_with fail
    go_ret2
    exact ⟨rfl, EB.out⟩
  · have h4 : (r != 0) = true := by simpa using h3
    go_wp2_with (go_at_call 161; (with_reducible refine (CW.out _ _ (qec_0 _ (by assumption))).mono ?_); rintro e w6 ⟨rfl, b6⟩; have b6' := bstep (by assumption : Below w5.heap.size w5 _) b6; clear b6)
    go_ret2
    exact ⟨rfl, bstep EB.out b6'⟩
set_option maxRecDepth 100000 in
set_option maxHeartbeats 8000000 in
theorem e_open_other (w : World) (s : ByteArray) (hs : s.size ≤ 140737488351232) (h20 : 20 ≤ s.size) (hv : at_ (L s) 0 / 16 = 4) (g1 : ¬ emEnd (L s) < 20) (g2 : ¬ (s.size : Int) - 8 < emEnd (L s)) (g3 : be16 (L s) 6 % 8192 = 0) (hp : at_ (L s) 9 ≠ 6 ∧ at_ (L s) 9 ≠ 17 ∧ at_ (L s) 9 ≠ 1) :
    Calls Tryz.prog 137 #[.string s] w (Ret (.tuple #[.pointer none, .int .i64 6]) w) := by
  have hgg : ¬ ((emAt (L s) : Nat) : Int) < 20 ∧ ¬ (s.size : Int) - 8 < ((emAt (L s) : Nat) : Int) := by
    rw [show ((emAt (L s) : Nat) : Int) = emEnd (L s) from by unfold emAt; have := at_bd (L s) 0; unfold emEnd; omega]
    exact ⟨g1, g2⟩
  obtain ⟨f1, f2⟩ := hgg
  clear g1 g2
  have cA := fun W B (hc : W.cell? ⟨B, 0, none⟩ = some (.string s)) => e_addr W B s 12 hc hs ⟨by omega, by omega⟩
  have cB := fun W B (hc : W.cell? ⟨B, 0, none⟩ = some (.string s)) => e_addr W B s 16 hc hs ⟨by omega, by omega⟩
  rw [show get32 (L s) 12 = be32 (L s) 12 from get32_nat (k := 12) (by rw [L_length]; omega)] at cA
  rw [show get32 (L s) 16 = be32 (L s) 16 from get32_nat (k := 16) (by rw [L_length]; omega)] at cB
  have k9 : 9 < s.size := by omega
  have e9 : (((s[9]'k9).toNat : Nat) : Int) = at_ (L s) 9 := by rw [getElem_L s 9 (by omega)]; rfl
  have j9 : (9 : Int) < (s.size : Int) := by omega
  generalize be32 (L s) 12 = va at *
  generalize be32 (L s) 16 = vb at *
  generalize at_ (L s) 9 = p at *
  have HP := hide hp
  clear hp
  have CA := hide cA; have CB := hide cB
  clear cA cB
  have hsz : (s.size : Int) ≤ 140737488351232 := by omega
  have q2 : ¬ (s.size : Int) < 20 := by omega
  have i5 : 0 < s.size := by omega
  have e0 : (((s[0]'i5).toNat : Nat) : Int) = at_ (L s) 0 := by rw [getElem_L s 0 (by omega)]; rfl
  have hb := at_bd (L s) 0
  have i4 : (0 : Int) < (s.size : Int) := by omega
  have hkz : ((emAt (L s) : Nat) : Int) = at_ (L s) 0 % 16 * 4 := by unfold emAt emEnd; omega
  have cw := fun W B (hc : W.cell? ⟨B, 0, none⟩ = some (.string s)) => e_two W B s 6 hc hs ⟨by omega, by omega⟩
  rw [show get16 (L s) 6 = be16 (L s) 6 from get16_nat (k := 6) (by rw [L_length]; omega)] at cw
  have hv16 := be16_bd (L s) 6
  generalize be16 (L s) 6 = v at *
  obtain ⟨k, hk⟩ : ∃ k, k = emAt (L s) := ⟨_, rfl⟩
  rw [← hk] at hkz f1 f2 
  obtain ⟨x, hx⟩ : ∃ x, x = at_ (L s) 0 := ⟨_, rfl⟩
  rw [← hx] at e0 hb hv hkz
  have m1 : (x / 16 != 4) = false := by simpa using hv
  have m2 : (x / 16 == 4) = true := by simpa using hv
  obtain ⟨y, hy⟩ : ∃ y, y = x % 16 := ⟨_, rfl⟩
  have hand : bits .and .u8 x 15 = y := by rw [u8_and15 x hb.1 (by omega), hy]
  rw [← hy] at hkz
  have hyb : 0 ≤ y ∧ y ≤ 15 := by omega
  have wy : IntKind.i64.wrap y = y := IntWalk.i64_in _ (by omega)
  have wz : IntKind.i64.wrap (y * 4) = (k : Int) := by rw [IntWalk.i64_in _ (by omega), hkz]
  obtain ⟨l8, hl8⟩ : ∃ l8 : Int, l8 = (s.size : Int) - 8 := ⟨_, rfl⟩
  have w8 : IntKind.i64.wrap ((s.size : Int) - 8) = l8 := by rw [IntWalk.i64_in _ (by omega), hl8]
  obtain ⟨r, hr⟩ : ∃ r, r = v % 8192 := ⟨_, rfl⟩
  have hand2 : bits .and .u16 v 8191 = r := by rw [em_and13 hv16.1 (by omega), hr]
  have hkb : k ≤ 60 := by omega
  have CW := hide cw
  clear cw
  rw [← hl8] at f2
  rw [← hr] at g3
  have HK := hide hk
  clear hx hy hkz hk hb hv hyb hl8 hr hv16 hs h20
  go_enter Tryz.func137, Tryz.ntmps137
  have d0 := Cells.new w #[.string s, .int .i64 0, .int .u8 0, .int .u32 0, .int .u16 0, .int .u32 0, .int .u16 0, .bool false] 173
  have bn := fresh_below w (.cells #[.string s, .int .i64 0, .int .u8 0, .int .u32 0, .int .u16 0, .int .u32 0, .int .u16 0, .bool false] 173)
  have z0 := d0.at_ 1; have zf := d0.free 1
  have D0 := hide d0; have BN := hide bn
  clear d0 bn
  go_upto_region 5 with fail
  have ec := Cells.new w #[.string s, .int .i64 (k : Int), .int .u8 0, .int .u32 0, .int .u16 0, .int .u32 0, .int .u16 0, .bool false] 173
  have eb := fresh_below w (.cells #[.string s, .int .i64 (k : Int), .int .u8 0, .int .u32 0, .int .u16 0, .int .u32 0, .int .u16 0, .bool false] 173)
  clear z0 zf D0 BN q2 m1 m2 hand wy wz
  generalize (w.alloc (.cells #[.string s, .int .i64 (k : Int), .int .u8 0, .int .u32 0, .int .u16 0, .int .u32 0, .int .u16 0, .bool false] 173)) = w5 at *
  have EC := hide ec; have EB := hide eb
  clear eb
  obtain ⟨qec_0, qec_1, qec_2, qec_3, qec_4, qec_5, qec_6, qec_7⟩ := ec.q8
  have bb : Below w5.heap.size w5 w5 := Below.refl _ _
  clear ec
  have h4 : (r != 0) = false := by rw [g3]; rfl
  go_upto_region 7 with (go_at_call 161; (with_reducible refine (CW.out _ _ (qec_0 _ (by assumption))).mono ?_); rintro e w6 ⟨rfl, b6⟩; have b6' := bstep (by assumption : Below w5.heap.size w5 _) b6; clear b6)
  clear h4 hand2 f1 f2 w8
  have s7 : Below w5.heap.size w5 w6.drew := Below.drew b6'
  clear bb
  focus
    refine wp_region_JG [16] (fun W => Below w5.heap.size w5 W) (by kernel_rfl) (by kernel_rfl) (s7) (fun hG hsel hS0 => ?_)
    refine gJ (v := ?v0_1) 0 (⟨some 49, .move (.tmp 4), 167, "embeds.go:66", #[], none⟩) hG hsel hS0 ?q0_1 ?r0_1
    case q0_1 => intro w hx; refine run_env [4] [?a0_1_4] (by kernel_rfl) (by kernel_rfl) (⟨?e0_1_4, trivial⟩) ?h0_1; (case e0_1_4 => ((conv => lhs; whnf); (try exact rfl))); (case h0_1 => ((try dsimp only); (try simp only [envL, lookV, if_true, if_false]); (try go_simp); (try with_reducible rfl)))
    (try simp only [Act.put, putS])
    refine gJ (v := ?v1_2) 1 (⟨some 50, .move (.tmp 0), 9, "embeds.go:66", #[], none⟩) hG hsel hS0 ?q1_2 ?r1_2
    case q1_2 => intro w hx; refine run_env [0] [?a1_2_0] (by kernel_rfl) (by kernel_rfl) (⟨?e1_2_0, trivial⟩) ?h1_2; (case e1_2_0 => ((conv => lhs; whnf); (try exact rfl))); (case h1_2 => ((try dsimp only); (try simp only [envL, lookV, if_true, if_false]); (try go_simp); (try with_reducible rfl)))
    (try simp only [Act.put, putS])
    refine gJ (v := ?v2_3) 2 (⟨some 51, .index 9 (.tmp 50) (.const (.int .i64 9)), 5, "embeds.go:66", #[⟨1, .data⟩], none⟩) hG hsel hS0 ?q2_3 ?r2_3
    case q2_3 => intro w hx; refine run_env [50] [?a2_3_50] (by kernel_rfl) (by kernel_rfl) (⟨?e2_3_50, trivial⟩) ?h2_3; (case e2_3_50 => ((conv => lhs; whnf); (try exact rfl))); (case h2_3 => ((try dsimp only); (try simp only [envL, lookV, if_true, if_false]); (try go_simp); (try with_reducible rfl)))
    (try simp only [Act.put, putS])
    refine gJ (v := ?v3_4) 3 (⟨some 52, .move (.tmp 4), 167, "embeds.go:66", #[], none⟩) hG hsel hS0 ?q3_4 ?r3_4
    case q3_4 => intro w hx; refine run_env [4] [?a3_4_4] (by kernel_rfl) (by kernel_rfl) (⟨?e3_4_4, trivial⟩) ?h3_4; (case e3_4_4 => ((conv => lhs; whnf); (try exact rfl))); (case h3_4 => ((try dsimp only); (try simp only [envL, lookV, if_true, if_false]); (try go_simp); (try with_reducible rfl)))
    (try simp only [Act.put, putS])
    refine gJ (v := ?v4_5) 4 (⟨some 53, .nilCheck (.tmp 52), 0, "embeds.go:66", #[⟨3, .data⟩], none⟩) hG hsel hS0 ?q4_5 ?r4_5
    case q4_5 => intro w hx; refine run_env [52] [?a4_5_52] (by kernel_rfl) (by kernel_rfl) (⟨?e4_5_52, trivial⟩) ?h4_5; (case e4_5_52 => ((conv => lhs; whnf); (try exact rfl))); (case h4_5 => ((try dsimp only); (try simp only [envL, lookV, if_true, if_false]); (try go_simp); (try with_reducible rfl)))
    (try simp only [Act.put, putS])
    refine gJ (v := ?v5_6) 5 (⟨some 54, .fieldAddr 173 (.tmp 53) 0, 0, "embeds.go:66", #[⟨4, .data⟩], none⟩) hG hsel hS0 ?q5_6 ?r5_6
    case q5_6 => intro w hx; refine run_env [53] [?a5_6_53] (by kernel_rfl) (by kernel_rfl) (⟨?e5_6_53, trivial⟩) ?h5_6; (case e5_6_53 => ((conv => lhs; whnf); (try exact rfl))); (case h5_6 => ((try dsimp only); (try simp only [envL, lookV, if_true, if_false]); (try go_simp); (try with_reducible rfl)))
    (try simp only [Act.put, putS])
    refine gJ (v := ?v8_7) 8 (⟨some 57, .move (.tmp 4), 167, "embeds.go:66", #[], none⟩) hG hsel hS0 ?q8_7 ?r8_7
    case q8_7 => intro w hx; refine run_env [4] [?a8_7_4] (by kernel_rfl) (by kernel_rfl) (⟨?e8_7_4, trivial⟩) ?h8_7; (case e8_7_4 => ((conv => lhs; whnf); (try exact rfl))); (case h8_7 => ((try dsimp only); (try simp only [envL, lookV, if_true, if_false]); (try go_simp); (try with_reducible rfl)))
    (try simp only [Act.put, putS])
    refine gJ (v := ?v9_8) 9 (⟨some 58, .nilCheck (.tmp 57), 0, "embeds.go:66", #[⟨8, .data⟩], none⟩) hG hsel hS0 ?q9_8 ?r9_8
    case q9_8 => intro w hx; refine run_env [57] [?a9_8_57] (by kernel_rfl) (by kernel_rfl) (⟨?e9_8_57, trivial⟩) ?h9_8; (case e9_8_57 => ((conv => lhs; whnf); (try exact rfl))); (case h9_8 => ((try dsimp only); (try simp only [envL, lookV, if_true, if_false]); (try go_simp); (try with_reducible rfl)))
    (try simp only [Act.put, putS])
    refine gJ (v := ?v10_9) 10 (⟨some 59, .fieldAddr 173 (.tmp 58) 0, 0, "embeds.go:66", #[⟨9, .data⟩], none⟩) hG hsel hS0 ?q10_9 ?r10_9
    case q10_9 => intro w hx; refine run_env [58] [?a10_9_58] (by kernel_rfl) (by kernel_rfl) (⟨?e10_9_58, trivial⟩) ?h10_9; (case e10_9_58 => ((conv => lhs; whnf); (try exact rfl))); (case h10_9 => ((try dsimp only); (try simp only [envL, lookV, if_true, if_false]); (try go_simp); (try with_reducible rfl)))
    (try simp only [Act.put, putS])
    refine rJ [6] ?_
    refine (AllReadyJ.cons rfl (fun K hK => ?_) AllReadyJ.nil)
    rw [if_pos (by kernel_rfl)]
    (try simp only [putG])
    (focus go_simp)
    (focus ((with_reducible refine (CA.out _ _ (qec_0 _ hS0)).mono ?_); rintro e wa ⟨rfl, ba⟩; have sq := bstep hS0 ba))
    (focus (try go_wp2_with fail))
    refine hK.out _ _ ?hs (fun hS0 => ?_)
    case hs => (first | with_reducible exact hS0 | with_reducible exact sq)
    clear hK K
    (try simp only [Act.put, putS])
    refine gJ (v := ?v7_10) 7 (⟨some 56, .build 31 #[(0, .tmp 55)], 31, "embeds.go:66", #[⟨6, .data⟩], none⟩) hG hsel hS0 ?q7_10 ?r7_10
    case q7_10 => intro w hx; refine run_env [55] [?a7_10_55] (by kernel_rfl) (by kernel_rfl) (⟨?e7_10_55, trivial⟩) ?h7_10; (case e7_10_55 => ((conv => lhs; whnf); (try exact rfl))); (case h7_10 => ((try dsimp only); (try simp only [envL, lookV, if_true, if_false]); (try go_simp); (try with_reducible rfl)))
    (try simp only [Act.put, putS])
    refine rJ [11] ?_
    refine (AllReadyJ.cons rfl (fun K hK => ?_) AllReadyJ.nil)
    rw [if_pos (by kernel_rfl)]
    (try simp only [putG])
    (focus go_simp)
    (focus ((with_reducible refine (CB.out _ _ (qec_0 _ hS0)).mono ?_); rintro e wb ⟨rfl, bb2⟩; have sq := bstep hS0 bb2))
    (focus (try go_wp2_with fail))
    refine hK.out _ _ ?hs (fun hS0 => ?_)
    case hs => (first | with_reducible exact hS0 | with_reducible exact sq)
    clear hK K
    (try simp only [Act.put, putS])
    refine gJ (v := ?v12_11) 12 (⟨some 61, .build 31 #[(0, .tmp 60)], 31, "embeds.go:66", #[⟨11, .data⟩], none⟩) hG hsel hS0 ?q12_11 ?r12_11
    case q12_11 => intro w hx; refine run_env [60] [?a12_11_60] (by kernel_rfl) (by kernel_rfl) (⟨?e12_11_60, trivial⟩) ?h12_11; (case e12_11_60 => ((conv => lhs; whnf); (try exact rfl))); (case h12_11 => ((try dsimp only); (try simp only [envL, lookV, if_true, if_false]); (try go_simp); (try with_reducible rfl)))
    (try simp only [Act.put, putS])
    refine gJ (v := ?v13_12) 13 (⟨some 62, .build 33 #[(0, .tmp 51), (1, .tmp 56), (2, .tmp 61)], 33, "embeds.go:66", #[⟨2, .data⟩, ⟨7, .data⟩, ⟨12, .data⟩], none⟩) hG hsel hS0 ?q13_12 ?r13_12
    case q13_12 => intro w hx; refine run_env [51, 56, 61] [?a13_12_51, ?a13_12_56, ?a13_12_61] (by kernel_rfl) (by kernel_rfl) (⟨?e13_12_51, ?e13_12_56, ?e13_12_61, trivial⟩) ?h13_12; (case e13_12_51 => ((conv => lhs; whnf); (try exact rfl))); (case e13_12_56 => ((conv => lhs; whnf); (try exact rfl))); (case e13_12_61 => ((conv => lhs; whnf); (try exact rfl))); (case h13_12 => ((try dsimp only); (try simp only [envL, lookV, if_true, if_false]); (try go_simp); (try with_reducible rfl)))
    (try simp only [Act.put, putS])
    refine rJ [14] ?_
    refine (AllReadyJ.cons rfl (fun K hK => ?_) AllReadyJ.nil)
    rw [if_pos (by kernel_rfl)]
    (try simp only [putG])
    (focus go_simp)
    refine hK.out _ _ ?hs (fun hS0 => ?_)
    case hs => (first | with_reducible exact hS0 | with_reducible exact sq)
    clear hK K
    (try simp only [Act.put, putS])
    refine gJ (v := ?v15_13) 15 (⟨some 64, .fieldAddr 173 (.tmp 63) 2, 0, "embeds.go:66", #[⟨14, .data⟩, ⟨0, .phase⟩, ⟨1, .phase⟩, ⟨2, .phase⟩, ⟨3, .phase⟩, ⟨4, .phase⟩, ⟨5, .phase⟩, ⟨6, .phase⟩, ⟨7, .phase⟩, ⟨8, .phase⟩, ⟨9, .phase⟩, ⟨10, .phase⟩, ⟨11, .phase⟩, ⟨12, .phase⟩, ⟨13, .phase⟩], none⟩) hG hsel hS0 ?q15_13 ?r15_13
    case q15_13 => intro w hx; refine run_env [63] [?a15_13_63] (by kernel_rfl) (by kernel_rfl) (⟨?e15_13_63, trivial⟩) ?h15_13; (case e15_13_63 => ((conv => lhs; whnf); (try exact rfl))); (case h15_13 => ((try dsimp only); (try simp only [envL, lookV, if_true, if_false]); (try go_simp); (try with_reducible rfl)))
    (try simp only [Act.put, putS])
    refine rJ [16] ?_
    refine (AllReadyJ.last rfl (by kernel_rfl) (fun K hK => ?_) AllReadyJ.nil)
    (focus (rw [if_pos (by kernel_rfl)]; have kc := Cells.below hS0 EC.out; have y2 := kc.at_ 2; have y3 := kc.at_ 3; have y4 := kc.at_ 4; have y5 := kc.at_ 5; have y6 := kc.at_ 6; have f2 := kc.free 2; have f3 := kc.free 3; have f4 := kc.free 4; have f5 := kc.free 5; have f6 := kc.free 6; clear kc; go_simp))
    (focus (try go_wp2_with fail))
    refine hK.out _ _ ?_
    clear hK K
    (try simp only [Act.put, putS])
    refine wpAnyJ_done (by kernel_rfl) ?_ _
  have em : Em (((((wb.setCell ⟨w.heap.size, 2, none⟩ (.int .u8 p)).setCell ⟨w.heap.size, 3, none⟩ (.int .u32 va)).setCell ⟨w.heap.size, 4, none⟩ (.int .u16 0)).setCell ⟨w.heap.size, 5, none⟩ (.int .u32 vb)).setCell ⟨w.heap.size, 6, none⟩ (.int .u16 0)) w.heap.size s k ⟨p, va, 0, vb, 0⟩ false := Cells.like (Cells.set_ (Cells.set_ (Cells.set_ (Cells.set_ (Cells.set_ (Cells.below hS0 EC.out) 2 (.int .u8 p)) 3 (.int .u32 va)) 4 (.int .u16 0)) 5 (.int .u32 vb)) 6 (.int .u16 0)) (by simp [emCells])
  have lw : Below w.heap.size w (((((wb.setCell ⟨w.heap.size, 2, none⟩ (.int .u8 p)).setCell ⟨w.heap.size, 3, none⟩ (.int .u32 va)).setCell ⟨w.heap.size, 4, none⟩ (.int .u16 0)).setCell ⟨w.heap.size, 5, none⟩ (.int .u32 vb)).setCell ⟨w.heap.size, 6, none⟩ (.int .u16 0)) := Below.setCell (Below.setCell (Below.setCell (Below.setCell (Below.setCell (bstep EB.out hS0) (Nat.le_refl _) _) (Nat.le_refl _) _) (Nat.le_refl _) _) (Nat.le_refl _) _) (Nat.le_refl _) _
  have EM := hide em; have LW := hide lw
  clear em lw s7 sq ba bb2 b6' hS0 qec_0 qec_1 qec_2 qec_3 qec_4 qec_5 qec_6 qec_7 EC EB CA CB CW
  generalize (((((wb.setCell ⟨w.heap.size, 2, none⟩ (.int .u8 p)).setCell ⟨w.heap.size, 3, none⟩ (.int .u32 va)).setCell ⟨w.heap.size, 4, none⟩ (.int .u16 0)).setCell ⟨w.heap.size, 5, none⟩ (.int .u32 vb)).setCell ⟨w.heap.size, 6, none⟩ (.int .u16 0)) = w8 at *
  have hp := HP.out
  have p6 : (p == 6) = false := by simpa using hp.1
  have p17 : (p == 17) = false := by simpa using hp.2.1
  have p1 : (p == 1) = false := by simpa using hp.2.2
  have kc := EM.out
  have y2 : w8.cell? ⟨w.heap.size, 2, none⟩ = some (.int .u8 p) := kc.at_ 2
  clear kc hp
  go_wp2_with fail
  go_ret2
  exact ⟨rfl, LW.out⟩
set_option maxRecDepth 100000 in
set_option maxHeartbeats 8000000 in
theorem e_open_flow6 (w : World) (s : ByteArray) (hs : s.size ≤ 140737488351232) (h20 : 20 ≤ s.size) (hv : at_ (L s) 0 / 16 = 4) (g1 : ¬ emEnd (L s) < 20) (g2 : ¬ (s.size : Int) - 8 < emEnd (L s)) (g3 : be16 (L s) 6 % 8192 = 0) (hp : at_ (L s) 9 = 6) :
    Calls Tryz.prog 137 #[.string s] w (fun en w' => ∃ B, en = .returned (.tuple #[.pointer (some ⟨B, 0, none⟩), .int .i64 0]) ∧ w.heap.size ≤ B ∧ Em w' B s (emAt (L s)) ⟨6, be32 (L s) 12, be16 (L s) (emAt (L s)), be32 (L s) 16, be16 (L s) (emAt (L s) + 2)⟩ false ∧ Below w.heap.size w w') := by
  obtain ⟨vs, hvs⟩ : ∃ vs, vs = be16 (L s) (emAt (L s)) := ⟨_, rfl⟩
  obtain ⟨vd, hvd⟩ : ∃ vd, vd = be16 (L s) (emAt (L s) + 2) := ⟨_, rfl⟩
  rw [← hvs, ← hvd]
  have hgg : ¬ ((emAt (L s) : Nat) : Int) < 20 ∧ ¬ (s.size : Int) - 8 < ((emAt (L s) : Nat) : Int) := by
    rw [show ((emAt (L s) : Nat) : Int) = emEnd (L s) from by unfold emAt; have := at_bd (L s) 0; unfold emEnd; omega]
    exact ⟨g1, g2⟩
  obtain ⟨f1, f2⟩ := hgg
  clear g1 g2
  have cA := fun W B (hc : W.cell? ⟨B, 0, none⟩ = some (.string s)) => e_addr W B s 12 hc hs ⟨by omega, by omega⟩
  have cB := fun W B (hc : W.cell? ⟨B, 0, none⟩ = some (.string s)) => e_addr W B s 16 hc hs ⟨by omega, by omega⟩
  rw [show get32 (L s) 12 = be32 (L s) 12 from get32_nat (k := 12) (by rw [L_length]; omega)] at cA
  rw [show get32 (L s) 16 = be32 (L s) 16 from get32_nat (k := 16) (by rw [L_length]; omega)] at cB
  have k9 : 9 < s.size := by omega
  have e9 : (((s[9]'k9).toNat : Nat) : Int) = at_ (L s) 9 := by rw [getElem_L s 9 (by omega)]; rfl
  have j9 : (9 : Int) < (s.size : Int) := by omega
  generalize be32 (L s) 12 = va at *
  generalize be32 (L s) 16 = vb at *
  generalize at_ (L s) 9 = p at *
  have HP := hide hp
  clear hp
  have CA := hide cA; have CB := hide cB
  clear cA cB
  have hsz : (s.size : Int) ≤ 140737488351232 := by omega
  have q2 : ¬ (s.size : Int) < 20 := by omega
  have i5 : 0 < s.size := by omega
  have e0 : (((s[0]'i5).toNat : Nat) : Int) = at_ (L s) 0 := by rw [getElem_L s 0 (by omega)]; rfl
  have hb := at_bd (L s) 0
  have i4 : (0 : Int) < (s.size : Int) := by omega
  have hkz : ((emAt (L s) : Nat) : Int) = at_ (L s) 0 % 16 * 4 := by unfold emAt emEnd; omega
  have cw := fun W B (hc : W.cell? ⟨B, 0, none⟩ = some (.string s)) => e_two W B s 6 hc hs ⟨by omega, by omega⟩
  rw [show get16 (L s) 6 = be16 (L s) 6 from get16_nat (k := 6) (by rw [L_length]; omega)] at cw
  have hv16 := be16_bd (L s) 6
  generalize be16 (L s) 6 = v at *
  obtain ⟨k, hk⟩ : ∃ k, k = emAt (L s) := ⟨_, rfl⟩
  rw [← hk] at hkz f1 f2 
  obtain ⟨x, hx⟩ : ∃ x, x = at_ (L s) 0 := ⟨_, rfl⟩
  rw [← hx] at e0 hb hv hkz
  have m1 : (x / 16 != 4) = false := by simpa using hv
  have m2 : (x / 16 == 4) = true := by simpa using hv
  obtain ⟨y, hy⟩ : ∃ y, y = x % 16 := ⟨_, rfl⟩
  have hand : bits .and .u8 x 15 = y := by rw [u8_and15 x hb.1 (by omega), hy]
  rw [← hy] at hkz
  have hyb : 0 ≤ y ∧ y ≤ 15 := by omega
  have wy : IntKind.i64.wrap y = y := IntWalk.i64_in _ (by omega)
  have wz : IntKind.i64.wrap (y * 4) = (k : Int) := by rw [IntWalk.i64_in _ (by omega), hkz]
  obtain ⟨l8, hl8⟩ : ∃ l8 : Int, l8 = (s.size : Int) - 8 := ⟨_, rfl⟩
  have w8 : IntKind.i64.wrap ((s.size : Int) - 8) = l8 := by rw [IntWalk.i64_in _ (by omega), hl8]
  obtain ⟨r, hr⟩ : ∃ r, r = v % 8192 := ⟨_, rfl⟩
  have hand2 : bits .and .u16 v 8191 = r := by rw [em_and13 hv16.1 (by omega), hr]
  have hkb : k ≤ 60 := by omega
  have CW := hide cw
  clear cw
  have F2 := hide f2
  rw [← hl8] at f2
  rw [← hr] at g3
  have HK := hide hk
  clear hx hy hkz hk hb hv hyb hl8 hr hv16 h20
  go_enter Tryz.func137, Tryz.ntmps137
  have d0 := Cells.new w #[.string s, .int .i64 0, .int .u8 0, .int .u32 0, .int .u16 0, .int .u32 0, .int .u16 0, .bool false] 173
  have bn := fresh_below w (.cells #[.string s, .int .i64 0, .int .u8 0, .int .u32 0, .int .u16 0, .int .u32 0, .int .u16 0, .bool false] 173)
  have z0 := d0.at_ 1; have zf := d0.free 1
  have D0 := hide d0; have BN := hide bn
  clear d0 bn
  go_upto_region 5 with fail
  have ec := Cells.new w #[.string s, .int .i64 (k : Int), .int .u8 0, .int .u32 0, .int .u16 0, .int .u32 0, .int .u16 0, .bool false] 173
  have eb := fresh_below w (.cells #[.string s, .int .i64 (k : Int), .int .u8 0, .int .u32 0, .int .u16 0, .int .u32 0, .int .u16 0, .bool false] 173)
  clear z0 zf D0 BN q2 m1 m2 hand wy wz
  generalize (w.alloc (.cells #[.string s, .int .i64 (k : Int), .int .u8 0, .int .u32 0, .int .u16 0, .int .u32 0, .int .u16 0, .bool false] 173)) = w5 at *
  have EC := hide ec; have EB := hide eb
  clear eb
  obtain ⟨qec_0, qec_1, qec_2, qec_3, qec_4, qec_5, qec_6, qec_7⟩ := ec.q8
  have bb : Below w5.heap.size w5 w5 := Below.refl _ _
  clear ec
  have h4 : (r != 0) = false := by rw [g3]; rfl
  go_upto_region 7 with (go_at_call 161; (with_reducible refine (CW.out _ _ (qec_0 _ (by assumption))).mono ?_); rintro e w6 ⟨rfl, b6⟩; have b6' := bstep (by assumption : Below w5.heap.size w5 _) b6; clear b6)
  clear h4 hand2 f1 f2 w8
  have s7 : Below w5.heap.size w5 w6.drew := Below.drew b6'
  clear bb
  focus
    refine wp_region_JG [16] (fun W => Below w5.heap.size w5 W) (by kernel_rfl) (by kernel_rfl) (s7) (fun hG hsel hS0 => ?_)
    refine gJ (v := ?v0_14) 0 (⟨some 49, .move (.tmp 4), 167, "embeds.go:66", #[], none⟩) hG hsel hS0 ?q0_14 ?r0_14
    case q0_14 => intro w hx; refine run_env [4] [?a0_14_4] (by kernel_rfl) (by kernel_rfl) (⟨?e0_14_4, trivial⟩) ?h0_14; (case e0_14_4 => ((conv => lhs; whnf); (try exact rfl))); (case h0_14 => ((try dsimp only); (try simp only [envL, lookV, if_true, if_false]); (try go_simp); (try with_reducible rfl)))
    (try simp only [Act.put, putS])
    refine gJ (v := ?v1_15) 1 (⟨some 50, .move (.tmp 0), 9, "embeds.go:66", #[], none⟩) hG hsel hS0 ?q1_15 ?r1_15
    case q1_15 => intro w hx; refine run_env [0] [?a1_15_0] (by kernel_rfl) (by kernel_rfl) (⟨?e1_15_0, trivial⟩) ?h1_15; (case e1_15_0 => ((conv => lhs; whnf); (try exact rfl))); (case h1_15 => ((try dsimp only); (try simp only [envL, lookV, if_true, if_false]); (try go_simp); (try with_reducible rfl)))
    (try simp only [Act.put, putS])
    refine gJ (v := ?v2_16) 2 (⟨some 51, .index 9 (.tmp 50) (.const (.int .i64 9)), 5, "embeds.go:66", #[⟨1, .data⟩], none⟩) hG hsel hS0 ?q2_16 ?r2_16
    case q2_16 => intro w hx; refine run_env [50] [?a2_16_50] (by kernel_rfl) (by kernel_rfl) (⟨?e2_16_50, trivial⟩) ?h2_16; (case e2_16_50 => ((conv => lhs; whnf); (try exact rfl))); (case h2_16 => ((try dsimp only); (try simp only [envL, lookV, if_true, if_false]); (try go_simp); (try with_reducible rfl)))
    (try simp only [Act.put, putS])
    refine gJ (v := ?v3_17) 3 (⟨some 52, .move (.tmp 4), 167, "embeds.go:66", #[], none⟩) hG hsel hS0 ?q3_17 ?r3_17
    case q3_17 => intro w hx; refine run_env [4] [?a3_17_4] (by kernel_rfl) (by kernel_rfl) (⟨?e3_17_4, trivial⟩) ?h3_17; (case e3_17_4 => ((conv => lhs; whnf); (try exact rfl))); (case h3_17 => ((try dsimp only); (try simp only [envL, lookV, if_true, if_false]); (try go_simp); (try with_reducible rfl)))
    (try simp only [Act.put, putS])
    refine gJ (v := ?v4_18) 4 (⟨some 53, .nilCheck (.tmp 52), 0, "embeds.go:66", #[⟨3, .data⟩], none⟩) hG hsel hS0 ?q4_18 ?r4_18
    case q4_18 => intro w hx; refine run_env [52] [?a4_18_52] (by kernel_rfl) (by kernel_rfl) (⟨?e4_18_52, trivial⟩) ?h4_18; (case e4_18_52 => ((conv => lhs; whnf); (try exact rfl))); (case h4_18 => ((try dsimp only); (try simp only [envL, lookV, if_true, if_false]); (try go_simp); (try with_reducible rfl)))
    (try simp only [Act.put, putS])
    refine gJ (v := ?v5_19) 5 (⟨some 54, .fieldAddr 173 (.tmp 53) 0, 0, "embeds.go:66", #[⟨4, .data⟩], none⟩) hG hsel hS0 ?q5_19 ?r5_19
    case q5_19 => intro w hx; refine run_env [53] [?a5_19_53] (by kernel_rfl) (by kernel_rfl) (⟨?e5_19_53, trivial⟩) ?h5_19; (case e5_19_53 => ((conv => lhs; whnf); (try exact rfl))); (case h5_19 => ((try dsimp only); (try simp only [envL, lookV, if_true, if_false]); (try go_simp); (try with_reducible rfl)))
    (try simp only [Act.put, putS])
    refine gJ (v := ?v8_20) 8 (⟨some 57, .move (.tmp 4), 167, "embeds.go:66", #[], none⟩) hG hsel hS0 ?q8_20 ?r8_20
    case q8_20 => intro w hx; refine run_env [4] [?a8_20_4] (by kernel_rfl) (by kernel_rfl) (⟨?e8_20_4, trivial⟩) ?h8_20; (case e8_20_4 => ((conv => lhs; whnf); (try exact rfl))); (case h8_20 => ((try dsimp only); (try simp only [envL, lookV, if_true, if_false]); (try go_simp); (try with_reducible rfl)))
    (try simp only [Act.put, putS])
    refine gJ (v := ?v9_21) 9 (⟨some 58, .nilCheck (.tmp 57), 0, "embeds.go:66", #[⟨8, .data⟩], none⟩) hG hsel hS0 ?q9_21 ?r9_21
    case q9_21 => intro w hx; refine run_env [57] [?a9_21_57] (by kernel_rfl) (by kernel_rfl) (⟨?e9_21_57, trivial⟩) ?h9_21; (case e9_21_57 => ((conv => lhs; whnf); (try exact rfl))); (case h9_21 => ((try dsimp only); (try simp only [envL, lookV, if_true, if_false]); (try go_simp); (try with_reducible rfl)))
    (try simp only [Act.put, putS])
    refine gJ (v := ?v10_22) 10 (⟨some 59, .fieldAddr 173 (.tmp 58) 0, 0, "embeds.go:66", #[⟨9, .data⟩], none⟩) hG hsel hS0 ?q10_22 ?r10_22
    case q10_22 => intro w hx; refine run_env [58] [?a10_22_58] (by kernel_rfl) (by kernel_rfl) (⟨?e10_22_58, trivial⟩) ?h10_22; (case e10_22_58 => ((conv => lhs; whnf); (try exact rfl))); (case h10_22 => ((try dsimp only); (try simp only [envL, lookV, if_true, if_false]); (try go_simp); (try with_reducible rfl)))
    (try simp only [Act.put, putS])
    refine rJ [6] ?_
    refine (AllReadyJ.cons rfl (fun K hK => ?_) AllReadyJ.nil)
    rw [if_pos (by kernel_rfl)]
    (try simp only [putG])
    (focus go_simp)
    (focus ((with_reducible refine (CA.out _ _ (qec_0 _ hS0)).mono ?_); rintro e wa ⟨rfl, ba⟩; have sq := bstep hS0 ba))
    (focus (try go_wp2_with fail))
    refine hK.out _ _ ?hs (fun hS0 => ?_)
    case hs => (first | with_reducible exact hS0 | with_reducible exact sq)
    clear hK K
    (try simp only [Act.put, putS])
    refine gJ (v := ?v7_23) 7 (⟨some 56, .build 31 #[(0, .tmp 55)], 31, "embeds.go:66", #[⟨6, .data⟩], none⟩) hG hsel hS0 ?q7_23 ?r7_23
    case q7_23 => intro w hx; refine run_env [55] [?a7_23_55] (by kernel_rfl) (by kernel_rfl) (⟨?e7_23_55, trivial⟩) ?h7_23; (case e7_23_55 => ((conv => lhs; whnf); (try exact rfl))); (case h7_23 => ((try dsimp only); (try simp only [envL, lookV, if_true, if_false]); (try go_simp); (try with_reducible rfl)))
    (try simp only [Act.put, putS])
    refine rJ [11] ?_
    refine (AllReadyJ.cons rfl (fun K hK => ?_) AllReadyJ.nil)
    rw [if_pos (by kernel_rfl)]
    (try simp only [putG])
    (focus go_simp)
    (focus ((with_reducible refine (CB.out _ _ (qec_0 _ hS0)).mono ?_); rintro e wb ⟨rfl, bb2⟩; have sq := bstep hS0 bb2))
    (focus (try go_wp2_with fail))
    refine hK.out _ _ ?hs (fun hS0 => ?_)
    case hs => (first | with_reducible exact hS0 | with_reducible exact sq)
    clear hK K
    (try simp only [Act.put, putS])
    refine gJ (v := ?v12_24) 12 (⟨some 61, .build 31 #[(0, .tmp 60)], 31, "embeds.go:66", #[⟨11, .data⟩], none⟩) hG hsel hS0 ?q12_24 ?r12_24
    case q12_24 => intro w hx; refine run_env [60] [?a12_24_60] (by kernel_rfl) (by kernel_rfl) (⟨?e12_24_60, trivial⟩) ?h12_24; (case e12_24_60 => ((conv => lhs; whnf); (try exact rfl))); (case h12_24 => ((try dsimp only); (try simp only [envL, lookV, if_true, if_false]); (try go_simp); (try with_reducible rfl)))
    (try simp only [Act.put, putS])
    refine gJ (v := ?v13_25) 13 (⟨some 62, .build 33 #[(0, .tmp 51), (1, .tmp 56), (2, .tmp 61)], 33, "embeds.go:66", #[⟨2, .data⟩, ⟨7, .data⟩, ⟨12, .data⟩], none⟩) hG hsel hS0 ?q13_25 ?r13_25
    case q13_25 => intro w hx; refine run_env [51, 56, 61] [?a13_25_51, ?a13_25_56, ?a13_25_61] (by kernel_rfl) (by kernel_rfl) (⟨?e13_25_51, ?e13_25_56, ?e13_25_61, trivial⟩) ?h13_25; (case e13_25_51 => ((conv => lhs; whnf); (try exact rfl))); (case e13_25_56 => ((conv => lhs; whnf); (try exact rfl))); (case e13_25_61 => ((conv => lhs; whnf); (try exact rfl))); (case h13_25 => ((try dsimp only); (try simp only [envL, lookV, if_true, if_false]); (try go_simp); (try with_reducible rfl)))
    (try simp only [Act.put, putS])
    refine rJ [14] ?_
    refine (AllReadyJ.cons rfl (fun K hK => ?_) AllReadyJ.nil)
    rw [if_pos (by kernel_rfl)]
    (try simp only [putG])
    (focus go_simp)
    refine hK.out _ _ ?hs (fun hS0 => ?_)
    case hs => (first | with_reducible exact hS0 | with_reducible exact sq)
    clear hK K
    (try simp only [Act.put, putS])
    refine gJ (v := ?v15_26) 15 (⟨some 64, .fieldAddr 173 (.tmp 63) 2, 0, "embeds.go:66", #[⟨14, .data⟩, ⟨0, .phase⟩, ⟨1, .phase⟩, ⟨2, .phase⟩, ⟨3, .phase⟩, ⟨4, .phase⟩, ⟨5, .phase⟩, ⟨6, .phase⟩, ⟨7, .phase⟩, ⟨8, .phase⟩, ⟨9, .phase⟩, ⟨10, .phase⟩, ⟨11, .phase⟩, ⟨12, .phase⟩, ⟨13, .phase⟩], none⟩) hG hsel hS0 ?q15_26 ?r15_26
    case q15_26 => intro w hx; refine run_env [63] [?a15_26_63] (by kernel_rfl) (by kernel_rfl) (⟨?e15_26_63, trivial⟩) ?h15_26; (case e15_26_63 => ((conv => lhs; whnf); (try exact rfl))); (case h15_26 => ((try dsimp only); (try simp only [envL, lookV, if_true, if_false]); (try go_simp); (try with_reducible rfl)))
    (try simp only [Act.put, putS])
    refine rJ [16] ?_
    refine (AllReadyJ.last rfl (by kernel_rfl) (fun K hK => ?_) AllReadyJ.nil)
    (focus (rw [if_pos (by kernel_rfl)]; have kc := Cells.below hS0 EC.out; have y2 := kc.at_ 2; have y3 := kc.at_ 3; have y4 := kc.at_ 4; have y5 := kc.at_ 5; have y6 := kc.at_ 6; have f2 := kc.free 2; have f3 := kc.free 3; have f4 := kc.free 4; have f5 := kc.free 5; have f6 := kc.free 6; clear kc; go_simp))
    (focus (try go_wp2_with fail))
    refine hK.out _ _ ?_
    clear hK K
    (try simp only [Act.put, putS])
    refine wpAnyJ_done (by kernel_rfl) ?_ _
  have em : Em (((((wb.setCell ⟨w.heap.size, 2, none⟩ (.int .u8 p)).setCell ⟨w.heap.size, 3, none⟩ (.int .u32 va)).setCell ⟨w.heap.size, 4, none⟩ (.int .u16 0)).setCell ⟨w.heap.size, 5, none⟩ (.int .u32 vb)).setCell ⟨w.heap.size, 6, none⟩ (.int .u16 0)) w.heap.size s k ⟨p, va, 0, vb, 0⟩ false := Cells.like (Cells.set_ (Cells.set_ (Cells.set_ (Cells.set_ (Cells.set_ (Cells.below hS0 EC.out) 2 (.int .u8 p)) 3 (.int .u32 va)) 4 (.int .u16 0)) 5 (.int .u32 vb)) 6 (.int .u16 0)) (by simp [emCells])
  have lw : Below w.heap.size w (((((wb.setCell ⟨w.heap.size, 2, none⟩ (.int .u8 p)).setCell ⟨w.heap.size, 3, none⟩ (.int .u32 va)).setCell ⟨w.heap.size, 4, none⟩ (.int .u16 0)).setCell ⟨w.heap.size, 5, none⟩ (.int .u32 vb)).setCell ⟨w.heap.size, 6, none⟩ (.int .u16 0)) := Below.setCell (Below.setCell (Below.setCell (Below.setCell (Below.setCell (bstep EB.out hS0) (Nat.le_refl _) _) (Nat.le_refl _) _) (Nat.le_refl _) _) (Nat.le_refl _) _) (Nat.le_refl _) _
  have EM := hide em; have LW := hide lw
  clear em lw s7 sq ba bb2 b6' hS0 qec_0 qec_1 qec_2 qec_3 qec_4 qec_5 qec_6 qec_7 EC EB CA CB CW
  generalize (((((wb.setCell ⟨w.heap.size, 2, none⟩ (.int .u8 p)).setCell ⟨w.heap.size, 3, none⟩ (.int .u32 va)).setCell ⟨w.heap.size, 4, none⟩ (.int .u16 0)).setCell ⟨w.heap.size, 5, none⟩ (.int .u32 vb)).setCell ⟨w.heap.size, 6, none⟩ (.int .u16 0)) = w8 at *
  have hk := HK.out
  obtain ⟨k2, hk2⟩ : ∃ k2 : Nat, k2 = k + 2 := ⟨_, rfl⟩
  have cS := fun W B (hc : W.cell? ⟨B, 0, none⟩ = some (.string s)) => e_two W B s (k : Int) hc hs ⟨by omega, by omega⟩
  have cD := fun W B (hc : W.cell? ⟨B, 0, none⟩ = some (.string s)) => e_two W B s (k2 : Int) hc hs ⟨by omega, by omega⟩
  rw [get16_nat (by rw [L_length]; have := F2.out; omega), hk, ← hvs, ← hk] at cS
  rw [get16_nat (by rw [L_length]; have := F2.out; omega), hk2, hk, ← hvd, ← hk, ← hk2] at cD
  have CS := hide cS; have CD := hide cD
  have hw2 : IntKind.i64.wrap ((k : Int) + 2) = (k2 : Int) := by rw [IntWalk.i64_in _ (by omega), hk2]; omega
  clear cS cD hvs hvd hs hk2 hkb
  clear hk
  have kc := EM.out
  have y2 : w8.cell? ⟨w.heap.size, 2, none⟩ = some (.int .u8 p) := kc.at_ 2
  clear kc
  have hp := HP.out
  subst hp
  go_upto_region 12 with fail
  clear y2
  have s12 : Below w8.heap.size w8 w8.drew := Below.drew (Below.refl _ _)
  have EMS := hide (fun W (h : ∃ b d, Em W w.heap.size s k ⟨6, va, b, vb, d⟩ false) => (show W.cell? ⟨w.heap.size, 0, none⟩ = some (.string s) by obtain ⟨b, d, k⟩ := h; exact k.at_ 0))
  have t12 : ∃ b d, Em w8.drew w.heap.size s k ⟨6, va, b, vb, d⟩ false := ⟨0, 0, Cells.drew EM.out⟩
  focus
    refine wp_region_JG [28] (fun W => ∃ b d, Em W w.heap.size s k ⟨6, va, b, vb, d⟩ false) (by kernel_rfl) (by kernel_rfl) (t12) (fun hG hsel hS0 => ?_)
    refine gJ (v := ?v0_27) 0 (⟨some 73, .move (.tmp 4), 167, "embeds.go:69", #[], none⟩) hG hsel hS0 ?q0_27 ?r0_27
    case q0_27 => intro wx hx; obtain ⟨b, d, kx⟩ := hx; have y1 : wx.cell? ⟨w.heap.size, 1, none⟩ = some (.int .i64 (k : Int)) := kx.at_ 1; refine run_env [4] [?a0_27_4] (by kernel_rfl) (by kernel_rfl) (⟨?e0_27_4, trivial⟩) ?h0_27; (case e0_27_4 => ((conv => lhs; whnf); (try exact rfl))); (case h0_27 => ((try dsimp only); (try simp only [envL, lookV, if_true, if_false]); (try go_simp); (try with_reducible rfl)))
    (try simp only [Act.put, putS])
    refine gJ (v := ?v1_28) 1 (⟨some 74, .move (.tmp 4), 167, "embeds.go:69", #[⟨23, .gcOnly .lateStores⟩], none⟩) hG hsel hS0 ?q1_28 ?r1_28
    case q1_28 => intro wx hx; obtain ⟨b, d, kx⟩ := hx; have y1 : wx.cell? ⟨w.heap.size, 1, none⟩ = some (.int .i64 (k : Int)) := kx.at_ 1; refine run_env [4] [?a1_28_4] (by kernel_rfl) (by kernel_rfl) (⟨?e1_28_4, trivial⟩) ?h1_28; (case e1_28_4 => ((conv => lhs; whnf); (try exact rfl))); (case h1_28 => ((try dsimp only); (try simp only [envL, lookV, if_true, if_false]); (try go_simp); (try with_reducible rfl)))
    (try simp only [Act.put, putS])
    refine gJ (v := ?v2_29) 2 (⟨some 75, .move (.tmp 4), 167, "embeds.go:69", #[], none⟩) hG hsel hS0 ?q2_29 ?r2_29
    case q2_29 => intro wx hx; obtain ⟨b, d, kx⟩ := hx; have y1 : wx.cell? ⟨w.heap.size, 1, none⟩ = some (.int .i64 (k : Int)) := kx.at_ 1; refine run_env [4] [?a2_29_4] (by kernel_rfl) (by kernel_rfl) (⟨?e2_29_4, trivial⟩) ?h2_29; (case e2_29_4 => ((conv => lhs; whnf); (try exact rfl))); (case h2_29 => ((try dsimp only); (try simp only [envL, lookV, if_true, if_false]); (try go_simp); (try with_reducible rfl)))
    (try simp only [Act.put, putS])
    refine gJ (v := ?v3_30) 3 (⟨some 76, .nilCheck (.tmp 75), 0, "embeds.go:69", #[⟨2, .data⟩], none⟩) hG hsel hS0 ?q3_30 ?r3_30
    case q3_30 => intro wx hx; obtain ⟨b, d, kx⟩ := hx; have y1 : wx.cell? ⟨w.heap.size, 1, none⟩ = some (.int .i64 (k : Int)) := kx.at_ 1; refine run_env [75] [?a3_30_75] (by kernel_rfl) (by kernel_rfl) (⟨?e3_30_75, trivial⟩) ?h3_30; (case e3_30_75 => ((conv => lhs; whnf); (try exact rfl))); (case h3_30 => ((try dsimp only); (try simp only [envL, lookV, if_true, if_false]); (try go_simp); (try with_reducible rfl)))
    (try simp only [Act.put, putS])
    refine gJ (v := ?v4_31) 4 (⟨some 77, .fieldAddr 173 (.tmp 76) 0, 0, "embeds.go:69", #[⟨3, .data⟩], none⟩) hG hsel hS0 ?q4_31 ?r4_31
    case q4_31 => intro wx hx; obtain ⟨b, d, kx⟩ := hx; have y1 : wx.cell? ⟨w.heap.size, 1, none⟩ = some (.int .i64 (k : Int)) := kx.at_ 1; refine run_env [76] [?a4_31_76] (by kernel_rfl) (by kernel_rfl) (⟨?e4_31_76, trivial⟩) ?h4_31; (case e4_31_76 => ((conv => lhs; whnf); (try exact rfl))); (case h4_31 => ((try dsimp only); (try simp only [envL, lookV, if_true, if_false]); (try go_simp); (try with_reducible rfl)))
    (try simp only [Act.put, putS])
    refine gJ (v := ?v5_32) 5 (⟨some 78, .move (.tmp 4), 167, "embeds.go:69", #[], none⟩) hG hsel hS0 ?q5_32 ?r5_32
    case q5_32 => intro wx hx; obtain ⟨b, d, kx⟩ := hx; have y1 : wx.cell? ⟨w.heap.size, 1, none⟩ = some (.int .i64 (k : Int)) := kx.at_ 1; refine run_env [4] [?a5_32_4] (by kernel_rfl) (by kernel_rfl) (⟨?e5_32_4, trivial⟩) ?h5_32; (case e5_32_4 => ((conv => lhs; whnf); (try exact rfl))); (case h5_32 => ((try dsimp only); (try simp only [envL, lookV, if_true, if_false]); (try go_simp); (try with_reducible rfl)))
    (try simp only [Act.put, putS])
    refine gJ (v := ?v6_33) 6 (⟨some 79, .nilCheck (.tmp 78), 0, "embeds.go:69", #[⟨5, .data⟩], none⟩) hG hsel hS0 ?q6_33 ?r6_33
    case q6_33 => intro wx hx; obtain ⟨b, d, kx⟩ := hx; have y1 : wx.cell? ⟨w.heap.size, 1, none⟩ = some (.int .i64 (k : Int)) := kx.at_ 1; refine run_env [78] [?a6_33_78] (by kernel_rfl) (by kernel_rfl) (⟨?e6_33_78, trivial⟩) ?h6_33; (case e6_33_78 => ((conv => lhs; whnf); (try exact rfl))); (case h6_33 => ((try dsimp only); (try simp only [envL, lookV, if_true, if_false]); (try go_simp); (try with_reducible rfl)))
    (try simp only [Act.put, putS])
    refine gJ (v := ?v7_34) 7 (⟨some 80, .fieldAddr 173 (.tmp 79) 1, 0, "embeds.go:69", #[⟨6, .data⟩], none⟩) hG hsel hS0 ?q7_34 ?r7_34
    case q7_34 => intro wx hx; obtain ⟨b, d, kx⟩ := hx; have y1 : wx.cell? ⟨w.heap.size, 1, none⟩ = some (.int .i64 (k : Int)) := kx.at_ 1; refine run_env [79] [?a7_34_79] (by kernel_rfl) (by kernel_rfl) (⟨?e7_34_79, trivial⟩) ?h7_34; (case e7_34_79 => ((conv => lhs; whnf); (try exact rfl))); (case h7_34 => ((try dsimp only); (try simp only [envL, lookV, if_true, if_false]); (try go_simp); (try with_reducible rfl)))
    (try simp only [Act.put, putS])
    refine gJ (v := ?v8_35) 8 (⟨some 81, .load 3 (.tmp 80), 3, "embeds.go:69", #[⟨7, .data⟩], none⟩) hG hsel hS0 ?q8_35 ?r8_35
    case q8_35 => intro wx hx; obtain ⟨b, d, kx⟩ := hx; have y1 : wx.cell? ⟨w.heap.size, 1, none⟩ = some (.int .i64 (k : Int)) := kx.at_ 1; refine run_env [80] [?a8_35_80] (by kernel_rfl) (by kernel_rfl) (⟨?e8_35_80, trivial⟩) ?h8_35; (case e8_35_80 => ((conv => lhs; whnf); (try exact rfl))); (case h8_35 => ((try dsimp only); (try simp only [envL, lookV, if_true, if_false]); (try go_simp); (try with_reducible rfl)))
    (try simp only [Act.put, putS])
    refine gJ (v := ?v10_36) 10 (⟨some 83, .move (.tmp 4), 167, "embeds.go:69", #[], none⟩) hG hsel hS0 ?q10_36 ?r10_36
    case q10_36 => intro wx hx; obtain ⟨b, d, kx⟩ := hx; have y1 : wx.cell? ⟨w.heap.size, 1, none⟩ = some (.int .i64 (k : Int)) := kx.at_ 1; refine run_env [4] [?a10_36_4] (by kernel_rfl) (by kernel_rfl) (⟨?e10_36_4, trivial⟩) ?h10_36; (case e10_36_4 => ((conv => lhs; whnf); (try exact rfl))); (case h10_36 => ((try dsimp only); (try simp only [envL, lookV, if_true, if_false]); (try go_simp); (try with_reducible rfl)))
    (try simp only [Act.put, putS])
    refine gJ (v := ?v11_37) 11 (⟨some 84, .nilCheck (.tmp 83), 0, "embeds.go:69", #[⟨10, .data⟩], none⟩) hG hsel hS0 ?q11_37 ?r11_37
    case q11_37 => intro wx hx; obtain ⟨b, d, kx⟩ := hx; have y1 : wx.cell? ⟨w.heap.size, 1, none⟩ = some (.int .i64 (k : Int)) := kx.at_ 1; refine run_env [83] [?a11_37_83] (by kernel_rfl) (by kernel_rfl) (⟨?e11_37_83, trivial⟩) ?h11_37; (case e11_37_83 => ((conv => lhs; whnf); (try exact rfl))); (case h11_37 => ((try dsimp only); (try simp only [envL, lookV, if_true, if_false]); (try go_simp); (try with_reducible rfl)))
    (try simp only [Act.put, putS])
    refine gJ (v := ?v12_38) 12 (⟨some 85, .fieldAddr 173 (.tmp 84) 0, 0, "embeds.go:69", #[⟨11, .data⟩], none⟩) hG hsel hS0 ?q12_38 ?r12_38
    case q12_38 => intro wx hx; obtain ⟨b, d, kx⟩ := hx; have y1 : wx.cell? ⟨w.heap.size, 1, none⟩ = some (.int .i64 (k : Int)) := kx.at_ 1; refine run_env [84] [?a12_38_84] (by kernel_rfl) (by kernel_rfl) (⟨?e12_38_84, trivial⟩) ?h12_38; (case e12_38_84 => ((conv => lhs; whnf); (try exact rfl))); (case h12_38 => ((try dsimp only); (try simp only [envL, lookV, if_true, if_false]); (try go_simp); (try with_reducible rfl)))
    (try simp only [Act.put, putS])
    refine gJ (v := ?v13_39) 13 (⟨some 86, .move (.tmp 4), 167, "embeds.go:69", #[], none⟩) hG hsel hS0 ?q13_39 ?r13_39
    case q13_39 => intro wx hx; obtain ⟨b, d, kx⟩ := hx; have y1 : wx.cell? ⟨w.heap.size, 1, none⟩ = some (.int .i64 (k : Int)) := kx.at_ 1; refine run_env [4] [?a13_39_4] (by kernel_rfl) (by kernel_rfl) (⟨?e13_39_4, trivial⟩) ?h13_39; (case e13_39_4 => ((conv => lhs; whnf); (try exact rfl))); (case h13_39 => ((try dsimp only); (try simp only [envL, lookV, if_true, if_false]); (try go_simp); (try with_reducible rfl)))
    (try simp only [Act.put, putS])
    refine gJ (v := ?v14_40) 14 (⟨some 87, .nilCheck (.tmp 86), 0, "embeds.go:69", #[⟨13, .data⟩], none⟩) hG hsel hS0 ?q14_40 ?r14_40
    case q14_40 => intro wx hx; obtain ⟨b, d, kx⟩ := hx; have y1 : wx.cell? ⟨w.heap.size, 1, none⟩ = some (.int .i64 (k : Int)) := kx.at_ 1; refine run_env [86] [?a14_40_86] (by kernel_rfl) (by kernel_rfl) (⟨?e14_40_86, trivial⟩) ?h14_40; (case e14_40_86 => ((conv => lhs; whnf); (try exact rfl))); (case h14_40 => ((try dsimp only); (try simp only [envL, lookV, if_true, if_false]); (try go_simp); (try with_reducible rfl)))
    (try simp only [Act.put, putS])
    refine gJ (v := ?v15_41) 15 (⟨some 88, .fieldAddr 173 (.tmp 87) 1, 0, "embeds.go:69", #[⟨14, .data⟩], none⟩) hG hsel hS0 ?q15_41 ?r15_41
    case q15_41 => intro wx hx; obtain ⟨b, d, kx⟩ := hx; have y1 : wx.cell? ⟨w.heap.size, 1, none⟩ = some (.int .i64 (k : Int)) := kx.at_ 1; refine run_env [87] [?a15_41_87] (by kernel_rfl) (by kernel_rfl) (⟨?e15_41_87, trivial⟩) ?h15_41; (case e15_41_87 => ((conv => lhs; whnf); (try exact rfl))); (case h15_41 => ((try dsimp only); (try simp only [envL, lookV, if_true, if_false]); (try go_simp); (try with_reducible rfl)))
    (try simp only [Act.put, putS])
    refine gJ (v := ?v16_42) 16 (⟨some 89, .load 3 (.tmp 88), 3, "embeds.go:69", #[⟨15, .data⟩], none⟩) hG hsel hS0 ?q16_42 ?r16_42
    case q16_42 => intro wx hx; obtain ⟨b, d, kx⟩ := hx; have y1 : wx.cell? ⟨w.heap.size, 1, none⟩ = some (.int .i64 (k : Int)) := kx.at_ 1; refine run_env [88] [?a16_42_88] (by kernel_rfl) (by kernel_rfl) (⟨?e16_42_88, trivial⟩) ?h16_42; (case e16_42_88 => ((conv => lhs; whnf); (try exact rfl))); (case h16_42 => ((try dsimp only); (try simp only [envL, lookV, if_true, if_false]); (try go_simp); (try with_reducible rfl)))
    (try simp only [Act.put, putS])
    refine gJ (v := ?v17_43) 17 (⟨some 90, .binOp .add 3 (.tmp 89) (.const (.int .i64 2)) 3, 3, "embeds.go:69", #[⟨16, .data⟩], none⟩) hG hsel hS0 ?q17_43 ?r17_43
    case q17_43 => intro wx hx; obtain ⟨b, d, kx⟩ := hx; have y1 : wx.cell? ⟨w.heap.size, 1, none⟩ = some (.int .i64 (k : Int)) := kx.at_ 1; refine run_env [89] [?a17_43_89] (by kernel_rfl) (by kernel_rfl) (⟨?e17_43_89, trivial⟩) ?h17_43; (case e17_43_89 => ((conv => lhs; whnf); (try exact rfl))); (case h17_43 => ((try dsimp only); (try simp only [envL, lookV, if_true, if_false]); (try go_simp); (try with_reducible rfl)))
    (try simp only [Act.put, putS])
    refine rJ [9] ?_
    refine (AllReadyJ.cons rfl (fun K hK => ?_) AllReadyJ.nil)
    rw [if_pos (by kernel_rfl)]
    (try simp only [putG])
    (focus go_simp)
    (focus ((with_reducible refine (CS.out _ _ (EMS.out _ hS0)).mono ?_); rintro e wa ⟨rfl, ba⟩; have sq : ∃ b d, Em wa w.heap.size s k ⟨6, va, b, vb, d⟩ false := by obtain ⟨b, d, kc⟩ := hS0; exact ⟨b, d, Cells.below ba kc⟩))
    (focus (try go_wp2_with fail))
    refine hK.out _ _ ?hs (fun hS0 => ?_)
    case hs => (first | with_reducible exact hS0 | with_reducible exact sq | (obtain ⟨b, d, kc⟩ := hS0; exact ⟨vs, d, Cells.like (Cells.set_ kc 4 (.int .u16 vs)) (by simp [emCells])⟩))
    clear hK K
    (try simp only [Act.put, putS])
    refine rJ [18] ?_
    refine (AllReadyJ.cons rfl (fun K hK => ?_) AllReadyJ.nil)
    rw [if_pos (by kernel_rfl)]
    (try simp only [putG])
    (focus go_simp)
    (focus ((with_reducible refine (CD.out _ _ (EMS.out _ hS0)).mono ?_); rintro e wb ⟨rfl, bb⟩; have sq : ∃ b d, Em wb w.heap.size s k ⟨6, va, b, vb, d⟩ false := by obtain ⟨b, d, kc⟩ := hS0; exact ⟨b, d, Cells.below bb kc⟩))
    (focus (try go_wp2_with fail))
    refine hK.out _ _ ?hs (fun hS0 => ?_)
    case hs => (first | with_reducible exact hS0 | with_reducible exact sq | (obtain ⟨b, d, kc⟩ := hS0; exact ⟨vs, d, Cells.like (Cells.set_ kc 4 (.int .u16 vs)) (by simp [emCells])⟩))
    clear hK K
    (try simp only [Act.put, putS])
    refine gJ (v := ?v19_44) 19 (⟨some 92, .nilCheck (.tmp 73), 0, "embeds.go:69", #[⟨0, .data⟩, ⟨0, .phase⟩, ⟨1, .textOnly .lateStores⟩, ⟨2, .phase⟩, ⟨3, .phase⟩, ⟨4, .phase⟩, ⟨5, .phase⟩, ⟨6, .phase⟩, ⟨7, .phase⟩, ⟨8, .phase⟩, ⟨9, .phase⟩, ⟨10, .textOnly .lateStores⟩, ⟨11, .textOnly .lateStoresUnsure⟩, ⟨12, .textOnly .lateStoresUnsure⟩, ⟨13, .textOnly .lateStores⟩, ⟨14, .textOnly .lateStoresUnsure⟩, ⟨15, .textOnly .lateStoresUnsure⟩, ⟨16, .phase⟩, ⟨17, .textOnly .lateStoresUnsure⟩, ⟨18, .phase⟩], none⟩) hG hsel hS0 ?q19_44 ?r19_44
    case q19_44 => intro wx hx; obtain ⟨b, d, kx⟩ := hx; have y1 : wx.cell? ⟨w.heap.size, 1, none⟩ = some (.int .i64 (k : Int)) := kx.at_ 1; refine run_env [73] [?a19_44_73] (by kernel_rfl) (by kernel_rfl) (⟨?e19_44_73, trivial⟩) ?h19_44; (case e19_44_73 => ((conv => lhs; whnf); (try exact rfl))); (case h19_44 => ((try dsimp only); (try simp only [envL, lookV, if_true, if_false]); (try go_simp); (try with_reducible rfl)))
    (try simp only [Act.put, putS])
    refine gJ (v := ?v20_45) 20 (⟨some 93, .fieldAddr 173 (.tmp 92) 2, 0, "embeds.go:69", #[⟨19, .data⟩, ⟨0, .phase⟩, ⟨1, .textOnly .lateStores⟩, ⟨2, .phase⟩, ⟨3, .phase⟩, ⟨4, .phase⟩, ⟨5, .phase⟩, ⟨6, .phase⟩, ⟨7, .phase⟩, ⟨8, .phase⟩, ⟨9, .phase⟩, ⟨10, .textOnly .lateStores⟩, ⟨11, .textOnly .lateStoresUnsure⟩, ⟨12, .textOnly .lateStoresUnsure⟩, ⟨13, .textOnly .lateStores⟩, ⟨14, .textOnly .lateStoresUnsure⟩, ⟨15, .textOnly .lateStoresUnsure⟩, ⟨16, .phase⟩, ⟨17, .textOnly .lateStoresUnsure⟩, ⟨18, .phase⟩], none⟩) hG hsel hS0 ?q20_45 ?r20_45
    case q20_45 => intro wx hx; obtain ⟨b, d, kx⟩ := hx; have y1 : wx.cell? ⟨w.heap.size, 1, none⟩ = some (.int .i64 (k : Int)) := kx.at_ 1; refine run_env [92] [?a20_45_92] (by kernel_rfl) (by kernel_rfl) (⟨?e20_45_92, trivial⟩) ?h20_45; (case e20_45_92 => ((conv => lhs; whnf); (try exact rfl))); (case h20_45 => ((try dsimp only); (try simp only [envL, lookV, if_true, if_false]); (try go_simp); (try with_reducible rfl)))
    (try simp only [Act.put, putS])
    refine gJ (v := ?v21_46) 21 (⟨some 94, .fieldAddr 33 (.tmp 93) 1, 0, "embeds.go:69", #[⟨20, .data⟩, ⟨0, .phase⟩, ⟨1, .textOnly .lateStores⟩, ⟨2, .phase⟩, ⟨3, .phase⟩, ⟨4, .phase⟩, ⟨5, .phase⟩, ⟨6, .phase⟩, ⟨7, .phase⟩, ⟨8, .phase⟩, ⟨9, .phase⟩, ⟨10, .textOnly .lateStores⟩, ⟨11, .textOnly .lateStoresUnsure⟩, ⟨12, .textOnly .lateStoresUnsure⟩, ⟨13, .textOnly .lateStores⟩, ⟨14, .textOnly .lateStoresUnsure⟩, ⟨15, .textOnly .lateStoresUnsure⟩, ⟨16, .phase⟩, ⟨17, .textOnly .lateStoresUnsure⟩, ⟨18, .phase⟩], none⟩) hG hsel hS0 ?q21_46 ?r21_46
    case q21_46 => intro wx hx; obtain ⟨b, d, kx⟩ := hx; have y1 : wx.cell? ⟨w.heap.size, 1, none⟩ = some (.int .i64 (k : Int)) := kx.at_ 1; refine run_env [93] [?a21_46_93] (by kernel_rfl) (by kernel_rfl) (⟨?e21_46_93, trivial⟩) ?h21_46; (case e21_46_93 => ((conv => lhs; whnf); (try exact rfl))); (case h21_46 => ((try dsimp only); (try simp only [envL, lookV, if_true, if_false]); (try go_simp); (try with_reducible rfl)))
    (try simp only [Act.put, putS])
    refine gJ (v := ?v22_47) 22 (⟨some 95, .fieldAddr 31 (.tmp 94) 1, 0, "embeds.go:69", #[⟨21, .data⟩, ⟨0, .phase⟩, ⟨1, .textOnly .lateStores⟩, ⟨2, .phase⟩, ⟨3, .phase⟩, ⟨4, .phase⟩, ⟨5, .phase⟩, ⟨6, .phase⟩, ⟨7, .phase⟩, ⟨8, .phase⟩, ⟨9, .phase⟩, ⟨10, .textOnly .lateStores⟩, ⟨11, .textOnly .lateStoresUnsure⟩, ⟨12, .textOnly .lateStoresUnsure⟩, ⟨13, .textOnly .lateStores⟩, ⟨14, .textOnly .lateStoresUnsure⟩, ⟨15, .textOnly .lateStoresUnsure⟩, ⟨16, .phase⟩, ⟨17, .textOnly .lateStoresUnsure⟩, ⟨18, .phase⟩], none⟩) hG hsel hS0 ?q22_47 ?r22_47
    case q22_47 => intro wx hx; obtain ⟨b, d, kx⟩ := hx; have y1 : wx.cell? ⟨w.heap.size, 1, none⟩ = some (.int .i64 (k : Int)) := kx.at_ 1; refine run_env [94] [?a22_47_94] (by kernel_rfl) (by kernel_rfl) (⟨?e22_47_94, trivial⟩) ?h22_47; (case e22_47_94 => ((conv => lhs; whnf); (try exact rfl))); (case h22_47 => ((try dsimp only); (try simp only [envL, lookV, if_true, if_false]); (try go_simp); (try with_reducible rfl)))
    (try simp only [Act.put, putS])
    refine rJ [23] ?_
    refine (AllReadyJ.cons rfl (fun K hK => ?_) AllReadyJ.nil)
    (focus (rw [if_pos (by kernel_rfl)]; obtain ⟨b, d, kc⟩ := hS0; have y4 : World.cell? _ ⟨w.heap.size, 4, none⟩ = some (.int .u16 b) := kc.at_ 4; have f4 := kc.free 4; go_simp; have hS0 : ∃ b d, Em wb w.heap.size s k ⟨6, va, b, vb, d⟩ false := ⟨b, d, kc⟩; clear kc y4 f4))
    (focus (try go_wp2_with fail))
    refine hK.out _ _ ?hs (fun hS0 => ?_)
    case hs => (first | with_reducible exact hS0 | with_reducible exact sq | (obtain ⟨b, d, kc⟩ := hS0; exact ⟨vs, d, Cells.like (Cells.set_ kc 4 (.int .u16 vs)) (by simp [emCells])⟩))
    clear hK K
    (try simp only [Act.put, putS])
    refine rJ [24] ?_
    refine (AllReadyJ.cons rfl (fun K hK => ?_) AllReadyJ.nil)
    rw [if_pos (by kernel_rfl)]
    (try simp only [putG])
    (focus go_simp)
    refine hK.out _ _ ?hs (fun hS0 => ?_)
    case hs => (first | with_reducible exact hS0 | with_reducible exact sq | (obtain ⟨b, d, kc⟩ := hS0; exact ⟨vs, d, Cells.like (Cells.set_ kc 4 (.int .u16 vs)) (by simp [emCells])⟩))
    clear hK K
    (try simp only [Act.put, putS])
    refine rJ [25] ?_
    refine (AllReadyJ.cons rfl (fun K hK => ?_) AllReadyJ.nil)
    rw [if_pos (by kernel_rfl)]
    (try simp only [putG])
    (focus go_simp)
    refine hK.out _ _ ?hs (fun hS0 => ?_)
    case hs => (first | with_reducible exact hS0 | with_reducible exact sq | (obtain ⟨b, d, kc⟩ := hS0; exact ⟨vs, d, Cells.like (Cells.set_ kc 4 (.int .u16 vs)) (by simp [emCells])⟩))
    clear hK K
    (try simp only [Act.put, putS])
    refine rJ [26] ?_
    refine (AllReadyJ.cons rfl (fun K hK => ?_) AllReadyJ.nil)
    rw [if_pos (by kernel_rfl)]
    (try simp only [putG])
    (focus go_simp)
    refine hK.out _ _ ?hs (fun hS0 => ?_)
    case hs => (first | with_reducible exact hS0 | with_reducible exact sq | (obtain ⟨b, d, kc⟩ := hS0; exact ⟨vs, d, Cells.like (Cells.set_ kc 4 (.int .u16 vs)) (by simp [emCells])⟩))
    clear hK K
    (try simp only [Act.put, putS])
    refine gJ (v := ?v27_48) 27 (⟨some 99, .fieldAddr 31 (.tmp 98) 1, 0, "embeds.go:69", #[⟨26, .data⟩, ⟨0, .phase⟩, ⟨1, .phase⟩, ⟨2, .phase⟩, ⟨3, .phase⟩, ⟨4, .phase⟩, ⟨5, .phase⟩, ⟨6, .phase⟩, ⟨7, .phase⟩, ⟨8, .phase⟩, ⟨9, .phase⟩, ⟨10, .phase⟩, ⟨11, .phase⟩, ⟨12, .phase⟩, ⟨13, .phase⟩, ⟨14, .phase⟩, ⟨15, .phase⟩, ⟨16, .phase⟩, ⟨17, .phase⟩, ⟨18, .phase⟩, ⟨19, .phase⟩, ⟨20, .phase⟩, ⟨21, .phase⟩, ⟨22, .phase⟩, ⟨23, .phase⟩], none⟩) hG hsel hS0 ?q27_48 ?r27_48
    case q27_48 => intro wx hx; obtain ⟨b, d, kx⟩ := hx; have y1 : wx.cell? ⟨w.heap.size, 1, none⟩ = some (.int .i64 (k : Int)) := kx.at_ 1; refine run_env [98] [?a27_48_98] (by kernel_rfl) (by kernel_rfl) (⟨?e27_48_98, trivial⟩) ?h27_48; (case e27_48_98 => ((conv => lhs; whnf); (try exact rfl))); (case h27_48 => ((try dsimp only); (try simp only [envL, lookV, if_true, if_false]); (try go_simp); (try with_reducible rfl)))
    (try simp only [Act.put, putS])
    refine rJ [28] ?_
    refine (AllReadyJ.last rfl (by kernel_rfl) (fun K hK => ?_) AllReadyJ.nil)
    (focus (rw [if_pos (by kernel_rfl)]; obtain ⟨b, d, kc⟩ := hS0; have y6 : World.cell? _ ⟨w.heap.size, 6, none⟩ = some (.int .u16 d) := kc.at_ 6; have f6 := kc.free 6; go_simp))
    (focus (try go_wp2_with fail))
    refine hK.out _ _ ?_
    clear hK K
    (try simp only [Act.put, putS])
    refine wpAnyJ_done (by kernel_rfl) ?_ _
  have bx : Below w8.heap.size w8 wb := bstep (bstep s12 ba) bb
  have ef : Em ((wb.setCell ⟨w.heap.size, 4, none⟩ (.int .u16 vs)).setCell ⟨w.heap.size, 6, none⟩ (.int .u16 vd)) w.heap.size s k ⟨6, va, vs, vb, vd⟩ false := Cells.like (Cells.set_ (Cells.set_ (Cells.below bx EM.out) 4 (.int .u16 vs)) 6 (.int .u16 vd)) (by simp [emCells])
  have lf : Below w.heap.size w ((wb.setCell ⟨w.heap.size, 4, none⟩ (.int .u16 vs)).setCell ⟨w.heap.size, 6, none⟩ (.int .u16 vd)) := Below.setCell (Below.setCell (bstep LW.out bx) (Nat.le_refl _) _) (Nat.le_refl _) _
  have EF := hide ef; have LF := hide lf
  clear ef lf bx sq hS0 s12 t12 EMS EM LW ba bb CS CD
  generalize ((wb.setCell ⟨w.heap.size, 4, none⟩ (.int .u16 vs)).setCell ⟨w.heap.size, 6, none⟩ (.int .u16 vd)) = wf at *
  go_wp2_with fail
  go_ret2
  exact ⟨_, rfl, Nat.le_refl _, by rw [← HK.out]; exact EF.out, LF.out⟩
set_option maxRecDepth 100000 in
set_option maxHeartbeats 8000000 in
theorem e_open_flow17 (w : World) (s : ByteArray) (hs : s.size ≤ 140737488351232) (h20 : 20 ≤ s.size) (hv : at_ (L s) 0 / 16 = 4) (g1 : ¬ emEnd (L s) < 20) (g2 : ¬ (s.size : Int) - 8 < emEnd (L s)) (g3 : be16 (L s) 6 % 8192 = 0) (hp : at_ (L s) 9 = 17) :
    Calls Tryz.prog 137 #[.string s] w (fun en w' => ∃ B, en = .returned (.tuple #[.pointer (some ⟨B, 0, none⟩), .int .i64 0]) ∧ w.heap.size ≤ B ∧ Em w' B s (emAt (L s)) ⟨17, be32 (L s) 12, be16 (L s) (emAt (L s)), be32 (L s) 16, be16 (L s) (emAt (L s) + 2)⟩ false ∧ Below w.heap.size w w') := by
  obtain ⟨vs, hvs⟩ : ∃ vs, vs = be16 (L s) (emAt (L s)) := ⟨_, rfl⟩
  obtain ⟨vd, hvd⟩ : ∃ vd, vd = be16 (L s) (emAt (L s) + 2) := ⟨_, rfl⟩
  rw [← hvs, ← hvd]
  have hgg : ¬ ((emAt (L s) : Nat) : Int) < 20 ∧ ¬ (s.size : Int) - 8 < ((emAt (L s) : Nat) : Int) := by
    rw [show ((emAt (L s) : Nat) : Int) = emEnd (L s) from by unfold emAt; have := at_bd (L s) 0; unfold emEnd; omega]
    exact ⟨g1, g2⟩
  obtain ⟨f1, f2⟩ := hgg
  clear g1 g2
  have cA := fun W B (hc : W.cell? ⟨B, 0, none⟩ = some (.string s)) => e_addr W B s 12 hc hs ⟨by omega, by omega⟩
  have cB := fun W B (hc : W.cell? ⟨B, 0, none⟩ = some (.string s)) => e_addr W B s 16 hc hs ⟨by omega, by omega⟩
  rw [show get32 (L s) 12 = be32 (L s) 12 from get32_nat (k := 12) (by rw [L_length]; omega)] at cA
  rw [show get32 (L s) 16 = be32 (L s) 16 from get32_nat (k := 16) (by rw [L_length]; omega)] at cB
  have k9 : 9 < s.size := by omega
  have e9 : (((s[9]'k9).toNat : Nat) : Int) = at_ (L s) 9 := by rw [getElem_L s 9 (by omega)]; rfl
  have j9 : (9 : Int) < (s.size : Int) := by omega
  generalize be32 (L s) 12 = va at *
  generalize be32 (L s) 16 = vb at *
  generalize at_ (L s) 9 = p at *
  have HP := hide hp
  clear hp
  have CA := hide cA; have CB := hide cB
  clear cA cB
  have hsz : (s.size : Int) ≤ 140737488351232 := by omega
  have q2 : ¬ (s.size : Int) < 20 := by omega
  have i5 : 0 < s.size := by omega
  have e0 : (((s[0]'i5).toNat : Nat) : Int) = at_ (L s) 0 := by rw [getElem_L s 0 (by omega)]; rfl
  have hb := at_bd (L s) 0
  have i4 : (0 : Int) < (s.size : Int) := by omega
  have hkz : ((emAt (L s) : Nat) : Int) = at_ (L s) 0 % 16 * 4 := by unfold emAt emEnd; omega
  have cw := fun W B (hc : W.cell? ⟨B, 0, none⟩ = some (.string s)) => e_two W B s 6 hc hs ⟨by omega, by omega⟩
  rw [show get16 (L s) 6 = be16 (L s) 6 from get16_nat (k := 6) (by rw [L_length]; omega)] at cw
  have hv16 := be16_bd (L s) 6
  generalize be16 (L s) 6 = v at *
  obtain ⟨k, hk⟩ : ∃ k, k = emAt (L s) := ⟨_, rfl⟩
  rw [← hk] at hkz f1 f2 
  obtain ⟨x, hx⟩ : ∃ x, x = at_ (L s) 0 := ⟨_, rfl⟩
  rw [← hx] at e0 hb hv hkz
  have m1 : (x / 16 != 4) = false := by simpa using hv
  have m2 : (x / 16 == 4) = true := by simpa using hv
  obtain ⟨y, hy⟩ : ∃ y, y = x % 16 := ⟨_, rfl⟩
  have hand : bits .and .u8 x 15 = y := by rw [u8_and15 x hb.1 (by omega), hy]
  rw [← hy] at hkz
  have hyb : 0 ≤ y ∧ y ≤ 15 := by omega
  have wy : IntKind.i64.wrap y = y := IntWalk.i64_in _ (by omega)
  have wz : IntKind.i64.wrap (y * 4) = (k : Int) := by rw [IntWalk.i64_in _ (by omega), hkz]
  obtain ⟨l8, hl8⟩ : ∃ l8 : Int, l8 = (s.size : Int) - 8 := ⟨_, rfl⟩
  have w8 : IntKind.i64.wrap ((s.size : Int) - 8) = l8 := by rw [IntWalk.i64_in _ (by omega), hl8]
  obtain ⟨r, hr⟩ : ∃ r, r = v % 8192 := ⟨_, rfl⟩
  have hand2 : bits .and .u16 v 8191 = r := by rw [em_and13 hv16.1 (by omega), hr]
  have hkb : k ≤ 60 := by omega
  have CW := hide cw
  clear cw
  have F2 := hide f2
  rw [← hl8] at f2
  rw [← hr] at g3
  have HK := hide hk
  clear hx hy hkz hk hb hv hyb hl8 hr hv16 h20
  go_enter Tryz.func137, Tryz.ntmps137
  have d0 := Cells.new w #[.string s, .int .i64 0, .int .u8 0, .int .u32 0, .int .u16 0, .int .u32 0, .int .u16 0, .bool false] 173
  have bn := fresh_below w (.cells #[.string s, .int .i64 0, .int .u8 0, .int .u32 0, .int .u16 0, .int .u32 0, .int .u16 0, .bool false] 173)
  have z0 := d0.at_ 1; have zf := d0.free 1
  have D0 := hide d0; have BN := hide bn
  clear d0 bn
  go_upto_region 5 with fail
  have ec := Cells.new w #[.string s, .int .i64 (k : Int), .int .u8 0, .int .u32 0, .int .u16 0, .int .u32 0, .int .u16 0, .bool false] 173
  have eb := fresh_below w (.cells #[.string s, .int .i64 (k : Int), .int .u8 0, .int .u32 0, .int .u16 0, .int .u32 0, .int .u16 0, .bool false] 173)
  clear z0 zf D0 BN q2 m1 m2 hand wy wz
  generalize (w.alloc (.cells #[.string s, .int .i64 (k : Int), .int .u8 0, .int .u32 0, .int .u16 0, .int .u32 0, .int .u16 0, .bool false] 173)) = w5 at *
  have EC := hide ec; have EB := hide eb
  clear eb
  obtain ⟨qec_0, qec_1, qec_2, qec_3, qec_4, qec_5, qec_6, qec_7⟩ := ec.q8
  have bb : Below w5.heap.size w5 w5 := Below.refl _ _
  clear ec
  have h4 : (r != 0) = false := by rw [g3]; rfl
  go_upto_region 7 with (go_at_call 161; (with_reducible refine (CW.out _ _ (qec_0 _ (by assumption))).mono ?_); rintro e w6 ⟨rfl, b6⟩; have b6' := bstep (by assumption : Below w5.heap.size w5 _) b6; clear b6)
  clear h4 hand2 f1 f2 w8
  have s7 : Below w5.heap.size w5 w6.drew := Below.drew b6'
  clear bb
  focus
    refine wp_region_JG [16] (fun W => Below w5.heap.size w5 W) (by kernel_rfl) (by kernel_rfl) (s7) (fun hG hsel hS0 => ?_)
    refine gJ (v := ?v0_49) 0 (⟨some 49, .move (.tmp 4), 167, "embeds.go:66", #[], none⟩) hG hsel hS0 ?q0_49 ?r0_49
    case q0_49 => intro w hx; refine run_env [4] [?a0_49_4] (by kernel_rfl) (by kernel_rfl) (⟨?e0_49_4, trivial⟩) ?h0_49; (case e0_49_4 => ((conv => lhs; whnf); (try exact rfl))); (case h0_49 => ((try dsimp only); (try simp only [envL, lookV, if_true, if_false]); (try go_simp); (try with_reducible rfl)))
    (try simp only [Act.put, putS])
    refine gJ (v := ?v1_50) 1 (⟨some 50, .move (.tmp 0), 9, "embeds.go:66", #[], none⟩) hG hsel hS0 ?q1_50 ?r1_50
    case q1_50 => intro w hx; refine run_env [0] [?a1_50_0] (by kernel_rfl) (by kernel_rfl) (⟨?e1_50_0, trivial⟩) ?h1_50; (case e1_50_0 => ((conv => lhs; whnf); (try exact rfl))); (case h1_50 => ((try dsimp only); (try simp only [envL, lookV, if_true, if_false]); (try go_simp); (try with_reducible rfl)))
    (try simp only [Act.put, putS])
    refine gJ (v := ?v2_51) 2 (⟨some 51, .index 9 (.tmp 50) (.const (.int .i64 9)), 5, "embeds.go:66", #[⟨1, .data⟩], none⟩) hG hsel hS0 ?q2_51 ?r2_51
    case q2_51 => intro w hx; refine run_env [50] [?a2_51_50] (by kernel_rfl) (by kernel_rfl) (⟨?e2_51_50, trivial⟩) ?h2_51; (case e2_51_50 => ((conv => lhs; whnf); (try exact rfl))); (case h2_51 => ((try dsimp only); (try simp only [envL, lookV, if_true, if_false]); (try go_simp); (try with_reducible rfl)))
    (try simp only [Act.put, putS])
    refine gJ (v := ?v3_52) 3 (⟨some 52, .move (.tmp 4), 167, "embeds.go:66", #[], none⟩) hG hsel hS0 ?q3_52 ?r3_52
    case q3_52 => intro w hx; refine run_env [4] [?a3_52_4] (by kernel_rfl) (by kernel_rfl) (⟨?e3_52_4, trivial⟩) ?h3_52; (case e3_52_4 => ((conv => lhs; whnf); (try exact rfl))); (case h3_52 => ((try dsimp only); (try simp only [envL, lookV, if_true, if_false]); (try go_simp); (try with_reducible rfl)))
    (try simp only [Act.put, putS])
    refine gJ (v := ?v4_53) 4 (⟨some 53, .nilCheck (.tmp 52), 0, "embeds.go:66", #[⟨3, .data⟩], none⟩) hG hsel hS0 ?q4_53 ?r4_53
    case q4_53 => intro w hx; refine run_env [52] [?a4_53_52] (by kernel_rfl) (by kernel_rfl) (⟨?e4_53_52, trivial⟩) ?h4_53; (case e4_53_52 => ((conv => lhs; whnf); (try exact rfl))); (case h4_53 => ((try dsimp only); (try simp only [envL, lookV, if_true, if_false]); (try go_simp); (try with_reducible rfl)))
    (try simp only [Act.put, putS])
    refine gJ (v := ?v5_54) 5 (⟨some 54, .fieldAddr 173 (.tmp 53) 0, 0, "embeds.go:66", #[⟨4, .data⟩], none⟩) hG hsel hS0 ?q5_54 ?r5_54
    case q5_54 => intro w hx; refine run_env [53] [?a5_54_53] (by kernel_rfl) (by kernel_rfl) (⟨?e5_54_53, trivial⟩) ?h5_54; (case e5_54_53 => ((conv => lhs; whnf); (try exact rfl))); (case h5_54 => ((try dsimp only); (try simp only [envL, lookV, if_true, if_false]); (try go_simp); (try with_reducible rfl)))
    (try simp only [Act.put, putS])
    refine gJ (v := ?v8_55) 8 (⟨some 57, .move (.tmp 4), 167, "embeds.go:66", #[], none⟩) hG hsel hS0 ?q8_55 ?r8_55
    case q8_55 => intro w hx; refine run_env [4] [?a8_55_4] (by kernel_rfl) (by kernel_rfl) (⟨?e8_55_4, trivial⟩) ?h8_55; (case e8_55_4 => ((conv => lhs; whnf); (try exact rfl))); (case h8_55 => ((try dsimp only); (try simp only [envL, lookV, if_true, if_false]); (try go_simp); (try with_reducible rfl)))
    (try simp only [Act.put, putS])
    refine gJ (v := ?v9_56) 9 (⟨some 58, .nilCheck (.tmp 57), 0, "embeds.go:66", #[⟨8, .data⟩], none⟩) hG hsel hS0 ?q9_56 ?r9_56
    case q9_56 => intro w hx; refine run_env [57] [?a9_56_57] (by kernel_rfl) (by kernel_rfl) (⟨?e9_56_57, trivial⟩) ?h9_56; (case e9_56_57 => ((conv => lhs; whnf); (try exact rfl))); (case h9_56 => ((try dsimp only); (try simp only [envL, lookV, if_true, if_false]); (try go_simp); (try with_reducible rfl)))
    (try simp only [Act.put, putS])
    refine gJ (v := ?v10_57) 10 (⟨some 59, .fieldAddr 173 (.tmp 58) 0, 0, "embeds.go:66", #[⟨9, .data⟩], none⟩) hG hsel hS0 ?q10_57 ?r10_57
    case q10_57 => intro w hx; refine run_env [58] [?a10_57_58] (by kernel_rfl) (by kernel_rfl) (⟨?e10_57_58, trivial⟩) ?h10_57; (case e10_57_58 => ((conv => lhs; whnf); (try exact rfl))); (case h10_57 => ((try dsimp only); (try simp only [envL, lookV, if_true, if_false]); (try go_simp); (try with_reducible rfl)))
    (try simp only [Act.put, putS])
    refine rJ [6] ?_
    refine (AllReadyJ.cons rfl (fun K hK => ?_) AllReadyJ.nil)
    rw [if_pos (by kernel_rfl)]
    (try simp only [putG])
    (focus go_simp)
    (focus ((with_reducible refine (CA.out _ _ (qec_0 _ hS0)).mono ?_); rintro e wa ⟨rfl, ba⟩; have sq := bstep hS0 ba))
    (focus (try go_wp2_with fail))
    refine hK.out _ _ ?hs (fun hS0 => ?_)
    case hs => (first | with_reducible exact hS0 | with_reducible exact sq)
    clear hK K
    (try simp only [Act.put, putS])
    refine gJ (v := ?v7_58) 7 (⟨some 56, .build 31 #[(0, .tmp 55)], 31, "embeds.go:66", #[⟨6, .data⟩], none⟩) hG hsel hS0 ?q7_58 ?r7_58
    case q7_58 => intro w hx; refine run_env [55] [?a7_58_55] (by kernel_rfl) (by kernel_rfl) (⟨?e7_58_55, trivial⟩) ?h7_58; (case e7_58_55 => ((conv => lhs; whnf); (try exact rfl))); (case h7_58 => ((try dsimp only); (try simp only [envL, lookV, if_true, if_false]); (try go_simp); (try with_reducible rfl)))
    (try simp only [Act.put, putS])
    refine rJ [11] ?_
    refine (AllReadyJ.cons rfl (fun K hK => ?_) AllReadyJ.nil)
    rw [if_pos (by kernel_rfl)]
    (try simp only [putG])
    (focus go_simp)
    (focus ((with_reducible refine (CB.out _ _ (qec_0 _ hS0)).mono ?_); rintro e wb ⟨rfl, bb2⟩; have sq := bstep hS0 bb2))
    (focus (try go_wp2_with fail))
    refine hK.out _ _ ?hs (fun hS0 => ?_)
    case hs => (first | with_reducible exact hS0 | with_reducible exact sq)
    clear hK K
    (try simp only [Act.put, putS])
    refine gJ (v := ?v12_59) 12 (⟨some 61, .build 31 #[(0, .tmp 60)], 31, "embeds.go:66", #[⟨11, .data⟩], none⟩) hG hsel hS0 ?q12_59 ?r12_59
    case q12_59 => intro w hx; refine run_env [60] [?a12_59_60] (by kernel_rfl) (by kernel_rfl) (⟨?e12_59_60, trivial⟩) ?h12_59; (case e12_59_60 => ((conv => lhs; whnf); (try exact rfl))); (case h12_59 => ((try dsimp only); (try simp only [envL, lookV, if_true, if_false]); (try go_simp); (try with_reducible rfl)))
    (try simp only [Act.put, putS])
    refine gJ (v := ?v13_60) 13 (⟨some 62, .build 33 #[(0, .tmp 51), (1, .tmp 56), (2, .tmp 61)], 33, "embeds.go:66", #[⟨2, .data⟩, ⟨7, .data⟩, ⟨12, .data⟩], none⟩) hG hsel hS0 ?q13_60 ?r13_60
    case q13_60 => intro w hx; refine run_env [51, 56, 61] [?a13_60_51, ?a13_60_56, ?a13_60_61] (by kernel_rfl) (by kernel_rfl) (⟨?e13_60_51, ?e13_60_56, ?e13_60_61, trivial⟩) ?h13_60; (case e13_60_51 => ((conv => lhs; whnf); (try exact rfl))); (case e13_60_56 => ((conv => lhs; whnf); (try exact rfl))); (case e13_60_61 => ((conv => lhs; whnf); (try exact rfl))); (case h13_60 => ((try dsimp only); (try simp only [envL, lookV, if_true, if_false]); (try go_simp); (try with_reducible rfl)))
    (try simp only [Act.put, putS])
    refine rJ [14] ?_
    refine (AllReadyJ.cons rfl (fun K hK => ?_) AllReadyJ.nil)
    rw [if_pos (by kernel_rfl)]
    (try simp only [putG])
    (focus go_simp)
    refine hK.out _ _ ?hs (fun hS0 => ?_)
    case hs => (first | with_reducible exact hS0 | with_reducible exact sq)
    clear hK K
    (try simp only [Act.put, putS])
    refine gJ (v := ?v15_61) 15 (⟨some 64, .fieldAddr 173 (.tmp 63) 2, 0, "embeds.go:66", #[⟨14, .data⟩, ⟨0, .phase⟩, ⟨1, .phase⟩, ⟨2, .phase⟩, ⟨3, .phase⟩, ⟨4, .phase⟩, ⟨5, .phase⟩, ⟨6, .phase⟩, ⟨7, .phase⟩, ⟨8, .phase⟩, ⟨9, .phase⟩, ⟨10, .phase⟩, ⟨11, .phase⟩, ⟨12, .phase⟩, ⟨13, .phase⟩], none⟩) hG hsel hS0 ?q15_61 ?r15_61
    case q15_61 => intro w hx; refine run_env [63] [?a15_61_63] (by kernel_rfl) (by kernel_rfl) (⟨?e15_61_63, trivial⟩) ?h15_61; (case e15_61_63 => ((conv => lhs; whnf); (try exact rfl))); (case h15_61 => ((try dsimp only); (try simp only [envL, lookV, if_true, if_false]); (try go_simp); (try with_reducible rfl)))
    (try simp only [Act.put, putS])
    refine rJ [16] ?_
    refine (AllReadyJ.last rfl (by kernel_rfl) (fun K hK => ?_) AllReadyJ.nil)
    (focus (rw [if_pos (by kernel_rfl)]; have kc := Cells.below hS0 EC.out; have y2 := kc.at_ 2; have y3 := kc.at_ 3; have y4 := kc.at_ 4; have y5 := kc.at_ 5; have y6 := kc.at_ 6; have f2 := kc.free 2; have f3 := kc.free 3; have f4 := kc.free 4; have f5 := kc.free 5; have f6 := kc.free 6; clear kc; go_simp))
    (focus (try go_wp2_with fail))
    refine hK.out _ _ ?_
    clear hK K
    (try simp only [Act.put, putS])
    refine wpAnyJ_done (by kernel_rfl) ?_ _
  have em : Em (((((wb.setCell ⟨w.heap.size, 2, none⟩ (.int .u8 p)).setCell ⟨w.heap.size, 3, none⟩ (.int .u32 va)).setCell ⟨w.heap.size, 4, none⟩ (.int .u16 0)).setCell ⟨w.heap.size, 5, none⟩ (.int .u32 vb)).setCell ⟨w.heap.size, 6, none⟩ (.int .u16 0)) w.heap.size s k ⟨p, va, 0, vb, 0⟩ false := Cells.like (Cells.set_ (Cells.set_ (Cells.set_ (Cells.set_ (Cells.set_ (Cells.below hS0 EC.out) 2 (.int .u8 p)) 3 (.int .u32 va)) 4 (.int .u16 0)) 5 (.int .u32 vb)) 6 (.int .u16 0)) (by simp [emCells])
  have lw : Below w.heap.size w (((((wb.setCell ⟨w.heap.size, 2, none⟩ (.int .u8 p)).setCell ⟨w.heap.size, 3, none⟩ (.int .u32 va)).setCell ⟨w.heap.size, 4, none⟩ (.int .u16 0)).setCell ⟨w.heap.size, 5, none⟩ (.int .u32 vb)).setCell ⟨w.heap.size, 6, none⟩ (.int .u16 0)) := Below.setCell (Below.setCell (Below.setCell (Below.setCell (Below.setCell (bstep EB.out hS0) (Nat.le_refl _) _) (Nat.le_refl _) _) (Nat.le_refl _) _) (Nat.le_refl _) _) (Nat.le_refl _) _
  have EM := hide em; have LW := hide lw
  clear em lw s7 sq ba bb2 b6' hS0 qec_0 qec_1 qec_2 qec_3 qec_4 qec_5 qec_6 qec_7 EC EB CA CB CW
  generalize (((((wb.setCell ⟨w.heap.size, 2, none⟩ (.int .u8 p)).setCell ⟨w.heap.size, 3, none⟩ (.int .u32 va)).setCell ⟨w.heap.size, 4, none⟩ (.int .u16 0)).setCell ⟨w.heap.size, 5, none⟩ (.int .u32 vb)).setCell ⟨w.heap.size, 6, none⟩ (.int .u16 0)) = w8 at *
  have hk := HK.out
  obtain ⟨k2, hk2⟩ : ∃ k2 : Nat, k2 = k + 2 := ⟨_, rfl⟩
  have cS := fun W B (hc : W.cell? ⟨B, 0, none⟩ = some (.string s)) => e_two W B s (k : Int) hc hs ⟨by omega, by omega⟩
  have cD := fun W B (hc : W.cell? ⟨B, 0, none⟩ = some (.string s)) => e_two W B s (k2 : Int) hc hs ⟨by omega, by omega⟩
  rw [get16_nat (by rw [L_length]; have := F2.out; omega), hk, ← hvs, ← hk] at cS
  rw [get16_nat (by rw [L_length]; have := F2.out; omega), hk2, hk, ← hvd, ← hk, ← hk2] at cD
  have CS := hide cS; have CD := hide cD
  have hw2 : IntKind.i64.wrap ((k : Int) + 2) = (k2 : Int) := by rw [IntWalk.i64_in _ (by omega), hk2]; omega
  clear cS cD hvs hvd hs hk2 hkb
  clear hk
  have kc := EM.out
  have y2 : w8.cell? ⟨w.heap.size, 2, none⟩ = some (.int .u8 p) := kc.at_ 2
  clear kc
  have hp := HP.out
  subst hp
  go_upto_region 12 with fail
  clear y2
  have s12 : Below w8.heap.size w8 w8.drew := Below.drew (Below.refl _ _)
  have EMS := hide (fun W (h : ∃ b d, Em W w.heap.size s k ⟨17, va, b, vb, d⟩ false) => (show W.cell? ⟨w.heap.size, 0, none⟩ = some (.string s) by obtain ⟨b, d, k⟩ := h; exact k.at_ 0))
  have t12 : ∃ b d, Em w8.drew w.heap.size s k ⟨17, va, b, vb, d⟩ false := ⟨0, 0, Cells.drew EM.out⟩
  focus
    refine wp_region_JG [28] (fun W => ∃ b d, Em W w.heap.size s k ⟨17, va, b, vb, d⟩ false) (by kernel_rfl) (by kernel_rfl) (t12) (fun hG hsel hS0 => ?_)
    refine gJ (v := ?v0_62) 0 (⟨some 73, .move (.tmp 4), 167, "embeds.go:69", #[], none⟩) hG hsel hS0 ?q0_62 ?r0_62
    case q0_62 => intro wx hx; obtain ⟨b, d, kx⟩ := hx; have y1 : wx.cell? ⟨w.heap.size, 1, none⟩ = some (.int .i64 (k : Int)) := kx.at_ 1; refine run_env [4] [?a0_62_4] (by kernel_rfl) (by kernel_rfl) (⟨?e0_62_4, trivial⟩) ?h0_62; (case e0_62_4 => ((conv => lhs; whnf); (try exact rfl))); (case h0_62 => ((try dsimp only); (try simp only [envL, lookV, if_true, if_false]); (try go_simp); (try with_reducible rfl)))
    (try simp only [Act.put, putS])
    refine gJ (v := ?v1_63) 1 (⟨some 74, .move (.tmp 4), 167, "embeds.go:69", #[⟨23, .gcOnly .lateStores⟩], none⟩) hG hsel hS0 ?q1_63 ?r1_63
    case q1_63 => intro wx hx; obtain ⟨b, d, kx⟩ := hx; have y1 : wx.cell? ⟨w.heap.size, 1, none⟩ = some (.int .i64 (k : Int)) := kx.at_ 1; refine run_env [4] [?a1_63_4] (by kernel_rfl) (by kernel_rfl) (⟨?e1_63_4, trivial⟩) ?h1_63; (case e1_63_4 => ((conv => lhs; whnf); (try exact rfl))); (case h1_63 => ((try dsimp only); (try simp only [envL, lookV, if_true, if_false]); (try go_simp); (try with_reducible rfl)))
    (try simp only [Act.put, putS])
    refine gJ (v := ?v2_64) 2 (⟨some 75, .move (.tmp 4), 167, "embeds.go:69", #[], none⟩) hG hsel hS0 ?q2_64 ?r2_64
    case q2_64 => intro wx hx; obtain ⟨b, d, kx⟩ := hx; have y1 : wx.cell? ⟨w.heap.size, 1, none⟩ = some (.int .i64 (k : Int)) := kx.at_ 1; refine run_env [4] [?a2_64_4] (by kernel_rfl) (by kernel_rfl) (⟨?e2_64_4, trivial⟩) ?h2_64; (case e2_64_4 => ((conv => lhs; whnf); (try exact rfl))); (case h2_64 => ((try dsimp only); (try simp only [envL, lookV, if_true, if_false]); (try go_simp); (try with_reducible rfl)))
    (try simp only [Act.put, putS])
    refine gJ (v := ?v3_65) 3 (⟨some 76, .nilCheck (.tmp 75), 0, "embeds.go:69", #[⟨2, .data⟩], none⟩) hG hsel hS0 ?q3_65 ?r3_65
    case q3_65 => intro wx hx; obtain ⟨b, d, kx⟩ := hx; have y1 : wx.cell? ⟨w.heap.size, 1, none⟩ = some (.int .i64 (k : Int)) := kx.at_ 1; refine run_env [75] [?a3_65_75] (by kernel_rfl) (by kernel_rfl) (⟨?e3_65_75, trivial⟩) ?h3_65; (case e3_65_75 => ((conv => lhs; whnf); (try exact rfl))); (case h3_65 => ((try dsimp only); (try simp only [envL, lookV, if_true, if_false]); (try go_simp); (try with_reducible rfl)))
    (try simp only [Act.put, putS])
    refine gJ (v := ?v4_66) 4 (⟨some 77, .fieldAddr 173 (.tmp 76) 0, 0, "embeds.go:69", #[⟨3, .data⟩], none⟩) hG hsel hS0 ?q4_66 ?r4_66
    case q4_66 => intro wx hx; obtain ⟨b, d, kx⟩ := hx; have y1 : wx.cell? ⟨w.heap.size, 1, none⟩ = some (.int .i64 (k : Int)) := kx.at_ 1; refine run_env [76] [?a4_66_76] (by kernel_rfl) (by kernel_rfl) (⟨?e4_66_76, trivial⟩) ?h4_66; (case e4_66_76 => ((conv => lhs; whnf); (try exact rfl))); (case h4_66 => ((try dsimp only); (try simp only [envL, lookV, if_true, if_false]); (try go_simp); (try with_reducible rfl)))
    (try simp only [Act.put, putS])
    refine gJ (v := ?v5_67) 5 (⟨some 78, .move (.tmp 4), 167, "embeds.go:69", #[], none⟩) hG hsel hS0 ?q5_67 ?r5_67
    case q5_67 => intro wx hx; obtain ⟨b, d, kx⟩ := hx; have y1 : wx.cell? ⟨w.heap.size, 1, none⟩ = some (.int .i64 (k : Int)) := kx.at_ 1; refine run_env [4] [?a5_67_4] (by kernel_rfl) (by kernel_rfl) (⟨?e5_67_4, trivial⟩) ?h5_67; (case e5_67_4 => ((conv => lhs; whnf); (try exact rfl))); (case h5_67 => ((try dsimp only); (try simp only [envL, lookV, if_true, if_false]); (try go_simp); (try with_reducible rfl)))
    (try simp only [Act.put, putS])
    refine gJ (v := ?v6_68) 6 (⟨some 79, .nilCheck (.tmp 78), 0, "embeds.go:69", #[⟨5, .data⟩], none⟩) hG hsel hS0 ?q6_68 ?r6_68
    case q6_68 => intro wx hx; obtain ⟨b, d, kx⟩ := hx; have y1 : wx.cell? ⟨w.heap.size, 1, none⟩ = some (.int .i64 (k : Int)) := kx.at_ 1; refine run_env [78] [?a6_68_78] (by kernel_rfl) (by kernel_rfl) (⟨?e6_68_78, trivial⟩) ?h6_68; (case e6_68_78 => ((conv => lhs; whnf); (try exact rfl))); (case h6_68 => ((try dsimp only); (try simp only [envL, lookV, if_true, if_false]); (try go_simp); (try with_reducible rfl)))
    (try simp only [Act.put, putS])
    refine gJ (v := ?v7_69) 7 (⟨some 80, .fieldAddr 173 (.tmp 79) 1, 0, "embeds.go:69", #[⟨6, .data⟩], none⟩) hG hsel hS0 ?q7_69 ?r7_69
    case q7_69 => intro wx hx; obtain ⟨b, d, kx⟩ := hx; have y1 : wx.cell? ⟨w.heap.size, 1, none⟩ = some (.int .i64 (k : Int)) := kx.at_ 1; refine run_env [79] [?a7_69_79] (by kernel_rfl) (by kernel_rfl) (⟨?e7_69_79, trivial⟩) ?h7_69; (case e7_69_79 => ((conv => lhs; whnf); (try exact rfl))); (case h7_69 => ((try dsimp only); (try simp only [envL, lookV, if_true, if_false]); (try go_simp); (try with_reducible rfl)))
    (try simp only [Act.put, putS])
    refine gJ (v := ?v8_70) 8 (⟨some 81, .load 3 (.tmp 80), 3, "embeds.go:69", #[⟨7, .data⟩], none⟩) hG hsel hS0 ?q8_70 ?r8_70
    case q8_70 => intro wx hx; obtain ⟨b, d, kx⟩ := hx; have y1 : wx.cell? ⟨w.heap.size, 1, none⟩ = some (.int .i64 (k : Int)) := kx.at_ 1; refine run_env [80] [?a8_70_80] (by kernel_rfl) (by kernel_rfl) (⟨?e8_70_80, trivial⟩) ?h8_70; (case e8_70_80 => ((conv => lhs; whnf); (try exact rfl))); (case h8_70 => ((try dsimp only); (try simp only [envL, lookV, if_true, if_false]); (try go_simp); (try with_reducible rfl)))
    (try simp only [Act.put, putS])
    refine gJ (v := ?v10_71) 10 (⟨some 83, .move (.tmp 4), 167, "embeds.go:69", #[], none⟩) hG hsel hS0 ?q10_71 ?r10_71
    case q10_71 => intro wx hx; obtain ⟨b, d, kx⟩ := hx; have y1 : wx.cell? ⟨w.heap.size, 1, none⟩ = some (.int .i64 (k : Int)) := kx.at_ 1; refine run_env [4] [?a10_71_4] (by kernel_rfl) (by kernel_rfl) (⟨?e10_71_4, trivial⟩) ?h10_71; (case e10_71_4 => ((conv => lhs; whnf); (try exact rfl))); (case h10_71 => ((try dsimp only); (try simp only [envL, lookV, if_true, if_false]); (try go_simp); (try with_reducible rfl)))
    (try simp only [Act.put, putS])
    refine gJ (v := ?v11_72) 11 (⟨some 84, .nilCheck (.tmp 83), 0, "embeds.go:69", #[⟨10, .data⟩], none⟩) hG hsel hS0 ?q11_72 ?r11_72
    case q11_72 => intro wx hx; obtain ⟨b, d, kx⟩ := hx; have y1 : wx.cell? ⟨w.heap.size, 1, none⟩ = some (.int .i64 (k : Int)) := kx.at_ 1; refine run_env [83] [?a11_72_83] (by kernel_rfl) (by kernel_rfl) (⟨?e11_72_83, trivial⟩) ?h11_72; (case e11_72_83 => ((conv => lhs; whnf); (try exact rfl))); (case h11_72 => ((try dsimp only); (try simp only [envL, lookV, if_true, if_false]); (try go_simp); (try with_reducible rfl)))
    (try simp only [Act.put, putS])
    refine gJ (v := ?v12_73) 12 (⟨some 85, .fieldAddr 173 (.tmp 84) 0, 0, "embeds.go:69", #[⟨11, .data⟩], none⟩) hG hsel hS0 ?q12_73 ?r12_73
    case q12_73 => intro wx hx; obtain ⟨b, d, kx⟩ := hx; have y1 : wx.cell? ⟨w.heap.size, 1, none⟩ = some (.int .i64 (k : Int)) := kx.at_ 1; refine run_env [84] [?a12_73_84] (by kernel_rfl) (by kernel_rfl) (⟨?e12_73_84, trivial⟩) ?h12_73; (case e12_73_84 => ((conv => lhs; whnf); (try exact rfl))); (case h12_73 => ((try dsimp only); (try simp only [envL, lookV, if_true, if_false]); (try go_simp); (try with_reducible rfl)))
    (try simp only [Act.put, putS])
    refine gJ (v := ?v13_74) 13 (⟨some 86, .move (.tmp 4), 167, "embeds.go:69", #[], none⟩) hG hsel hS0 ?q13_74 ?r13_74
    case q13_74 => intro wx hx; obtain ⟨b, d, kx⟩ := hx; have y1 : wx.cell? ⟨w.heap.size, 1, none⟩ = some (.int .i64 (k : Int)) := kx.at_ 1; refine run_env [4] [?a13_74_4] (by kernel_rfl) (by kernel_rfl) (⟨?e13_74_4, trivial⟩) ?h13_74; (case e13_74_4 => ((conv => lhs; whnf); (try exact rfl))); (case h13_74 => ((try dsimp only); (try simp only [envL, lookV, if_true, if_false]); (try go_simp); (try with_reducible rfl)))
    (try simp only [Act.put, putS])
    refine gJ (v := ?v14_75) 14 (⟨some 87, .nilCheck (.tmp 86), 0, "embeds.go:69", #[⟨13, .data⟩], none⟩) hG hsel hS0 ?q14_75 ?r14_75
    case q14_75 => intro wx hx; obtain ⟨b, d, kx⟩ := hx; have y1 : wx.cell? ⟨w.heap.size, 1, none⟩ = some (.int .i64 (k : Int)) := kx.at_ 1; refine run_env [86] [?a14_75_86] (by kernel_rfl) (by kernel_rfl) (⟨?e14_75_86, trivial⟩) ?h14_75; (case e14_75_86 => ((conv => lhs; whnf); (try exact rfl))); (case h14_75 => ((try dsimp only); (try simp only [envL, lookV, if_true, if_false]); (try go_simp); (try with_reducible rfl)))
    (try simp only [Act.put, putS])
    refine gJ (v := ?v15_76) 15 (⟨some 88, .fieldAddr 173 (.tmp 87) 1, 0, "embeds.go:69", #[⟨14, .data⟩], none⟩) hG hsel hS0 ?q15_76 ?r15_76
    case q15_76 => intro wx hx; obtain ⟨b, d, kx⟩ := hx; have y1 : wx.cell? ⟨w.heap.size, 1, none⟩ = some (.int .i64 (k : Int)) := kx.at_ 1; refine run_env [87] [?a15_76_87] (by kernel_rfl) (by kernel_rfl) (⟨?e15_76_87, trivial⟩) ?h15_76; (case e15_76_87 => ((conv => lhs; whnf); (try exact rfl))); (case h15_76 => ((try dsimp only); (try simp only [envL, lookV, if_true, if_false]); (try go_simp); (try with_reducible rfl)))
    (try simp only [Act.put, putS])
    refine gJ (v := ?v16_77) 16 (⟨some 89, .load 3 (.tmp 88), 3, "embeds.go:69", #[⟨15, .data⟩], none⟩) hG hsel hS0 ?q16_77 ?r16_77
    case q16_77 => intro wx hx; obtain ⟨b, d, kx⟩ := hx; have y1 : wx.cell? ⟨w.heap.size, 1, none⟩ = some (.int .i64 (k : Int)) := kx.at_ 1; refine run_env [88] [?a16_77_88] (by kernel_rfl) (by kernel_rfl) (⟨?e16_77_88, trivial⟩) ?h16_77; (case e16_77_88 => ((conv => lhs; whnf); (try exact rfl))); (case h16_77 => ((try dsimp only); (try simp only [envL, lookV, if_true, if_false]); (try go_simp); (try with_reducible rfl)))
    (try simp only [Act.put, putS])
    refine gJ (v := ?v17_78) 17 (⟨some 90, .binOp .add 3 (.tmp 89) (.const (.int .i64 2)) 3, 3, "embeds.go:69", #[⟨16, .data⟩], none⟩) hG hsel hS0 ?q17_78 ?r17_78
    case q17_78 => intro wx hx; obtain ⟨b, d, kx⟩ := hx; have y1 : wx.cell? ⟨w.heap.size, 1, none⟩ = some (.int .i64 (k : Int)) := kx.at_ 1; refine run_env [89] [?a17_78_89] (by kernel_rfl) (by kernel_rfl) (⟨?e17_78_89, trivial⟩) ?h17_78; (case e17_78_89 => ((conv => lhs; whnf); (try exact rfl))); (case h17_78 => ((try dsimp only); (try simp only [envL, lookV, if_true, if_false]); (try go_simp); (try with_reducible rfl)))
    (try simp only [Act.put, putS])
    refine rJ [9] ?_
    refine (AllReadyJ.cons rfl (fun K hK => ?_) AllReadyJ.nil)
    rw [if_pos (by kernel_rfl)]
    (try simp only [putG])
    (focus go_simp)
    (focus ((with_reducible refine (CS.out _ _ (EMS.out _ hS0)).mono ?_); rintro e wa ⟨rfl, ba⟩; have sq : ∃ b d, Em wa w.heap.size s k ⟨17, va, b, vb, d⟩ false := by obtain ⟨b, d, kc⟩ := hS0; exact ⟨b, d, Cells.below ba kc⟩))
    (focus (try go_wp2_with fail))
    refine hK.out _ _ ?hs (fun hS0 => ?_)
    case hs => (first | with_reducible exact hS0 | with_reducible exact sq | (obtain ⟨b, d, kc⟩ := hS0; exact ⟨vs, d, Cells.like (Cells.set_ kc 4 (.int .u16 vs)) (by simp [emCells])⟩))
    clear hK K
    (try simp only [Act.put, putS])
    refine rJ [18] ?_
    refine (AllReadyJ.cons rfl (fun K hK => ?_) AllReadyJ.nil)
    rw [if_pos (by kernel_rfl)]
    (try simp only [putG])
    (focus go_simp)
    (focus ((with_reducible refine (CD.out _ _ (EMS.out _ hS0)).mono ?_); rintro e wb ⟨rfl, bb⟩; have sq : ∃ b d, Em wb w.heap.size s k ⟨17, va, b, vb, d⟩ false := by obtain ⟨b, d, kc⟩ := hS0; exact ⟨b, d, Cells.below bb kc⟩))
    (focus (try go_wp2_with fail))
    refine hK.out _ _ ?hs (fun hS0 => ?_)
    case hs => (first | with_reducible exact hS0 | with_reducible exact sq | (obtain ⟨b, d, kc⟩ := hS0; exact ⟨vs, d, Cells.like (Cells.set_ kc 4 (.int .u16 vs)) (by simp [emCells])⟩))
    clear hK K
    (try simp only [Act.put, putS])
    refine gJ (v := ?v19_79) 19 (⟨some 92, .nilCheck (.tmp 73), 0, "embeds.go:69", #[⟨0, .data⟩, ⟨0, .phase⟩, ⟨1, .textOnly .lateStores⟩, ⟨2, .phase⟩, ⟨3, .phase⟩, ⟨4, .phase⟩, ⟨5, .phase⟩, ⟨6, .phase⟩, ⟨7, .phase⟩, ⟨8, .phase⟩, ⟨9, .phase⟩, ⟨10, .textOnly .lateStores⟩, ⟨11, .textOnly .lateStoresUnsure⟩, ⟨12, .textOnly .lateStoresUnsure⟩, ⟨13, .textOnly .lateStores⟩, ⟨14, .textOnly .lateStoresUnsure⟩, ⟨15, .textOnly .lateStoresUnsure⟩, ⟨16, .phase⟩, ⟨17, .textOnly .lateStoresUnsure⟩, ⟨18, .phase⟩], none⟩) hG hsel hS0 ?q19_79 ?r19_79
    case q19_79 => intro wx hx; obtain ⟨b, d, kx⟩ := hx; have y1 : wx.cell? ⟨w.heap.size, 1, none⟩ = some (.int .i64 (k : Int)) := kx.at_ 1; refine run_env [73] [?a19_79_73] (by kernel_rfl) (by kernel_rfl) (⟨?e19_79_73, trivial⟩) ?h19_79; (case e19_79_73 => ((conv => lhs; whnf); (try exact rfl))); (case h19_79 => ((try dsimp only); (try simp only [envL, lookV, if_true, if_false]); (try go_simp); (try with_reducible rfl)))
    (try simp only [Act.put, putS])
    refine gJ (v := ?v20_80) 20 (⟨some 93, .fieldAddr 173 (.tmp 92) 2, 0, "embeds.go:69", #[⟨19, .data⟩, ⟨0, .phase⟩, ⟨1, .textOnly .lateStores⟩, ⟨2, .phase⟩, ⟨3, .phase⟩, ⟨4, .phase⟩, ⟨5, .phase⟩, ⟨6, .phase⟩, ⟨7, .phase⟩, ⟨8, .phase⟩, ⟨9, .phase⟩, ⟨10, .textOnly .lateStores⟩, ⟨11, .textOnly .lateStoresUnsure⟩, ⟨12, .textOnly .lateStoresUnsure⟩, ⟨13, .textOnly .lateStores⟩, ⟨14, .textOnly .lateStoresUnsure⟩, ⟨15, .textOnly .lateStoresUnsure⟩, ⟨16, .phase⟩, ⟨17, .textOnly .lateStoresUnsure⟩, ⟨18, .phase⟩], none⟩) hG hsel hS0 ?q20_80 ?r20_80
    case q20_80 => intro wx hx; obtain ⟨b, d, kx⟩ := hx; have y1 : wx.cell? ⟨w.heap.size, 1, none⟩ = some (.int .i64 (k : Int)) := kx.at_ 1; refine run_env [92] [?a20_80_92] (by kernel_rfl) (by kernel_rfl) (⟨?e20_80_92, trivial⟩) ?h20_80; (case e20_80_92 => ((conv => lhs; whnf); (try exact rfl))); (case h20_80 => ((try dsimp only); (try simp only [envL, lookV, if_true, if_false]); (try go_simp); (try with_reducible rfl)))
    (try simp only [Act.put, putS])
    refine gJ (v := ?v21_81) 21 (⟨some 94, .fieldAddr 33 (.tmp 93) 1, 0, "embeds.go:69", #[⟨20, .data⟩, ⟨0, .phase⟩, ⟨1, .textOnly .lateStores⟩, ⟨2, .phase⟩, ⟨3, .phase⟩, ⟨4, .phase⟩, ⟨5, .phase⟩, ⟨6, .phase⟩, ⟨7, .phase⟩, ⟨8, .phase⟩, ⟨9, .phase⟩, ⟨10, .textOnly .lateStores⟩, ⟨11, .textOnly .lateStoresUnsure⟩, ⟨12, .textOnly .lateStoresUnsure⟩, ⟨13, .textOnly .lateStores⟩, ⟨14, .textOnly .lateStoresUnsure⟩, ⟨15, .textOnly .lateStoresUnsure⟩, ⟨16, .phase⟩, ⟨17, .textOnly .lateStoresUnsure⟩, ⟨18, .phase⟩], none⟩) hG hsel hS0 ?q21_81 ?r21_81
    case q21_81 => intro wx hx; obtain ⟨b, d, kx⟩ := hx; have y1 : wx.cell? ⟨w.heap.size, 1, none⟩ = some (.int .i64 (k : Int)) := kx.at_ 1; refine run_env [93] [?a21_81_93] (by kernel_rfl) (by kernel_rfl) (⟨?e21_81_93, trivial⟩) ?h21_81; (case e21_81_93 => ((conv => lhs; whnf); (try exact rfl))); (case h21_81 => ((try dsimp only); (try simp only [envL, lookV, if_true, if_false]); (try go_simp); (try with_reducible rfl)))
    (try simp only [Act.put, putS])
    refine gJ (v := ?v22_82) 22 (⟨some 95, .fieldAddr 31 (.tmp 94) 1, 0, "embeds.go:69", #[⟨21, .data⟩, ⟨0, .phase⟩, ⟨1, .textOnly .lateStores⟩, ⟨2, .phase⟩, ⟨3, .phase⟩, ⟨4, .phase⟩, ⟨5, .phase⟩, ⟨6, .phase⟩, ⟨7, .phase⟩, ⟨8, .phase⟩, ⟨9, .phase⟩, ⟨10, .textOnly .lateStores⟩, ⟨11, .textOnly .lateStoresUnsure⟩, ⟨12, .textOnly .lateStoresUnsure⟩, ⟨13, .textOnly .lateStores⟩, ⟨14, .textOnly .lateStoresUnsure⟩, ⟨15, .textOnly .lateStoresUnsure⟩, ⟨16, .phase⟩, ⟨17, .textOnly .lateStoresUnsure⟩, ⟨18, .phase⟩], none⟩) hG hsel hS0 ?q22_82 ?r22_82
    case q22_82 => intro wx hx; obtain ⟨b, d, kx⟩ := hx; have y1 : wx.cell? ⟨w.heap.size, 1, none⟩ = some (.int .i64 (k : Int)) := kx.at_ 1; refine run_env [94] [?a22_82_94] (by kernel_rfl) (by kernel_rfl) (⟨?e22_82_94, trivial⟩) ?h22_82; (case e22_82_94 => ((conv => lhs; whnf); (try exact rfl))); (case h22_82 => ((try dsimp only); (try simp only [envL, lookV, if_true, if_false]); (try go_simp); (try with_reducible rfl)))
    (try simp only [Act.put, putS])
    refine rJ [23] ?_
    refine (AllReadyJ.cons rfl (fun K hK => ?_) AllReadyJ.nil)
    (focus (rw [if_pos (by kernel_rfl)]; obtain ⟨b, d, kc⟩ := hS0; have y4 : World.cell? _ ⟨w.heap.size, 4, none⟩ = some (.int .u16 b) := kc.at_ 4; have f4 := kc.free 4; go_simp; have hS0 : ∃ b d, Em wb w.heap.size s k ⟨17, va, b, vb, d⟩ false := ⟨b, d, kc⟩; clear kc y4 f4))
    (focus (try go_wp2_with fail))
    refine hK.out _ _ ?hs (fun hS0 => ?_)
    case hs => (first | with_reducible exact hS0 | with_reducible exact sq | (obtain ⟨b, d, kc⟩ := hS0; exact ⟨vs, d, Cells.like (Cells.set_ kc 4 (.int .u16 vs)) (by simp [emCells])⟩))
    clear hK K
    (try simp only [Act.put, putS])
    refine rJ [24] ?_
    refine (AllReadyJ.cons rfl (fun K hK => ?_) AllReadyJ.nil)
    rw [if_pos (by kernel_rfl)]
    (try simp only [putG])
    (focus go_simp)
    refine hK.out _ _ ?hs (fun hS0 => ?_)
    case hs => (first | with_reducible exact hS0 | with_reducible exact sq | (obtain ⟨b, d, kc⟩ := hS0; exact ⟨vs, d, Cells.like (Cells.set_ kc 4 (.int .u16 vs)) (by simp [emCells])⟩))
    clear hK K
    (try simp only [Act.put, putS])
    refine rJ [25] ?_
    refine (AllReadyJ.cons rfl (fun K hK => ?_) AllReadyJ.nil)
    rw [if_pos (by kernel_rfl)]
    (try simp only [putG])
    (focus go_simp)
    refine hK.out _ _ ?hs (fun hS0 => ?_)
    case hs => (first | with_reducible exact hS0 | with_reducible exact sq | (obtain ⟨b, d, kc⟩ := hS0; exact ⟨vs, d, Cells.like (Cells.set_ kc 4 (.int .u16 vs)) (by simp [emCells])⟩))
    clear hK K
    (try simp only [Act.put, putS])
    refine rJ [26] ?_
    refine (AllReadyJ.cons rfl (fun K hK => ?_) AllReadyJ.nil)
    rw [if_pos (by kernel_rfl)]
    (try simp only [putG])
    (focus go_simp)
    refine hK.out _ _ ?hs (fun hS0 => ?_)
    case hs => (first | with_reducible exact hS0 | with_reducible exact sq | (obtain ⟨b, d, kc⟩ := hS0; exact ⟨vs, d, Cells.like (Cells.set_ kc 4 (.int .u16 vs)) (by simp [emCells])⟩))
    clear hK K
    (try simp only [Act.put, putS])
    refine gJ (v := ?v27_83) 27 (⟨some 99, .fieldAddr 31 (.tmp 98) 1, 0, "embeds.go:69", #[⟨26, .data⟩, ⟨0, .phase⟩, ⟨1, .phase⟩, ⟨2, .phase⟩, ⟨3, .phase⟩, ⟨4, .phase⟩, ⟨5, .phase⟩, ⟨6, .phase⟩, ⟨7, .phase⟩, ⟨8, .phase⟩, ⟨9, .phase⟩, ⟨10, .phase⟩, ⟨11, .phase⟩, ⟨12, .phase⟩, ⟨13, .phase⟩, ⟨14, .phase⟩, ⟨15, .phase⟩, ⟨16, .phase⟩, ⟨17, .phase⟩, ⟨18, .phase⟩, ⟨19, .phase⟩, ⟨20, .phase⟩, ⟨21, .phase⟩, ⟨22, .phase⟩, ⟨23, .phase⟩], none⟩) hG hsel hS0 ?q27_83 ?r27_83
    case q27_83 => intro wx hx; obtain ⟨b, d, kx⟩ := hx; have y1 : wx.cell? ⟨w.heap.size, 1, none⟩ = some (.int .i64 (k : Int)) := kx.at_ 1; refine run_env [98] [?a27_83_98] (by kernel_rfl) (by kernel_rfl) (⟨?e27_83_98, trivial⟩) ?h27_83; (case e27_83_98 => ((conv => lhs; whnf); (try exact rfl))); (case h27_83 => ((try dsimp only); (try simp only [envL, lookV, if_true, if_false]); (try go_simp); (try with_reducible rfl)))
    (try simp only [Act.put, putS])
    refine rJ [28] ?_
    refine (AllReadyJ.last rfl (by kernel_rfl) (fun K hK => ?_) AllReadyJ.nil)
    (focus (rw [if_pos (by kernel_rfl)]; obtain ⟨b, d, kc⟩ := hS0; have y6 : World.cell? _ ⟨w.heap.size, 6, none⟩ = some (.int .u16 d) := kc.at_ 6; have f6 := kc.free 6; go_simp))
    (focus (try go_wp2_with fail))
    refine hK.out _ _ ?_
    clear hK K
    (try simp only [Act.put, putS])
    refine wpAnyJ_done (by kernel_rfl) ?_ _
  have bx : Below w8.heap.size w8 wb := bstep (bstep s12 ba) bb
  have ef : Em ((wb.setCell ⟨w.heap.size, 4, none⟩ (.int .u16 vs)).setCell ⟨w.heap.size, 6, none⟩ (.int .u16 vd)) w.heap.size s k ⟨17, va, vs, vb, vd⟩ false := Cells.like (Cells.set_ (Cells.set_ (Cells.below bx EM.out) 4 (.int .u16 vs)) 6 (.int .u16 vd)) (by simp [emCells])
  have lf : Below w.heap.size w ((wb.setCell ⟨w.heap.size, 4, none⟩ (.int .u16 vs)).setCell ⟨w.heap.size, 6, none⟩ (.int .u16 vd)) := Below.setCell (Below.setCell (bstep LW.out bx) (Nat.le_refl _) _) (Nat.le_refl _) _
  have EF := hide ef; have LF := hide lf
  clear ef lf bx sq hS0 s12 t12 EMS EM LW ba bb CS CD
  generalize ((wb.setCell ⟨w.heap.size, 4, none⟩ (.int .u16 vs)).setCell ⟨w.heap.size, 6, none⟩ (.int .u16 vd)) = wf at *
  go_wp2_with fail
  go_ret2
  exact ⟨_, rfl, Nat.le_refl _, by rw [← HK.out]; exact EF.out, LF.out⟩
set_option maxRecDepth 100000 in
set_option maxHeartbeats 8000000 in
theorem e_open_msg (w : World) (s : ByteArray) (hs : s.size ≤ 140737488351232) (h20 : 20 ≤ s.size) (hv : at_ (L s) 0 / 16 = 4) (g1 : ¬ emEnd (L s) < 20) (g2 : ¬ (s.size : Int) - 8 < emEnd (L s)) (g3 : be16 (L s) 6 % 8192 = 0) (K0 : Kinds w) (hp : at_ (L s) 9 = 1) :
    Calls Tryz.prog 137 #[.string s] w (fun en w' => ∃ W, Below w.heap.size w W ∧ w.heap.size < W.heap.size ∧ Asked W w.heap.size s (emAt (L s)) 1 (be32 (L s) 12) (be32 (L s) 16) (be16 (L s) (emAt (L s) + 4)) (qAsk (emMsg (L s))) (qIs (emMsg (L s))) en w') := by
  obtain ⟨RR, hRR⟩ : ∃ RR : Ending → World → Prop, RR = (fun en w' => ∃ W, Below w.heap.size w W ∧ w.heap.size < W.heap.size ∧ Asked W w.heap.size s (emAt (L s)) 1 (be32 (L s) 12) (be32 (L s) 16) (be16 (L s) (emAt (L s) + 4)) (qAsk (emMsg (L s))) (qIs (emMsg (L s))) en w') := ⟨_, rfl⟩
  rw [← hRR]
  have HRR := hide hRR
  clear hRR
  have hgg : ¬ ((emAt (L s) : Nat) : Int) < 20 ∧ ¬ (s.size : Int) - 8 < ((emAt (L s) : Nat) : Int) := by
    rw [show ((emAt (L s) : Nat) : Int) = emEnd (L s) from by unfold emAt; have := at_bd (L s) 0; unfold emEnd; omega]
    exact ⟨g1, g2⟩
  obtain ⟨f1, f2⟩ := hgg
  clear g1 g2
  have cA := fun W B (hc : W.cell? ⟨B, 0, none⟩ = some (.string s)) => e_addr W B s 12 hc hs ⟨by omega, by omega⟩
  have cB := fun W B (hc : W.cell? ⟨B, 0, none⟩ = some (.string s)) => e_addr W B s 16 hc hs ⟨by omega, by omega⟩
  rw [show get32 (L s) 12 = be32 (L s) 12 from get32_nat (k := 12) (by rw [L_length]; omega)] at cA
  rw [show get32 (L s) 16 = be32 (L s) 16 from get32_nat (k := 16) (by rw [L_length]; omega)] at cB
  have k9 : 9 < s.size := by omega
  have e9 : (((s[9]'k9).toNat : Nat) : Int) = at_ (L s) 9 := by rw [getElem_L s 9 (by omega)]; rfl
  have j9 : (9 : Int) < (s.size : Int) := by omega
  generalize be32 (L s) 12 = va at *
  generalize be32 (L s) 16 = vb at *
  generalize at_ (L s) 9 = p at *
  have HP := hide hp
  clear hp
  have CA := hide cA; have CB := hide cB
  clear cA cB
  have hsz : (s.size : Int) ≤ 140737488351232 := by omega
  have q2 : ¬ (s.size : Int) < 20 := by omega
  have i5 : 0 < s.size := by omega
  have e0 : (((s[0]'i5).toNat : Nat) : Int) = at_ (L s) 0 := by rw [getElem_L s 0 (by omega)]; rfl
  have hb := at_bd (L s) 0
  have i4 : (0 : Int) < (s.size : Int) := by omega
  have hkz : ((emAt (L s) : Nat) : Int) = at_ (L s) 0 % 16 * 4 := by unfold emAt emEnd; omega
  have cw := fun W B (hc : W.cell? ⟨B, 0, none⟩ = some (.string s)) => e_two W B s 6 hc hs ⟨by omega, by omega⟩
  rw [show get16 (L s) 6 = be16 (L s) 6 from get16_nat (k := 6) (by rw [L_length]; omega)] at cw
  have hv16 := be16_bd (L s) 6
  generalize be16 (L s) 6 = v at *
  obtain ⟨k, hk⟩ : ∃ k, k = emAt (L s) := ⟨_, rfl⟩
  rw [← hk] at hkz f1 f2 
  obtain ⟨x, hx⟩ : ∃ x, x = at_ (L s) 0 := ⟨_, rfl⟩
  rw [← hx] at e0 hb hv hkz
  have m1 : (x / 16 != 4) = false := by simpa using hv
  have m2 : (x / 16 == 4) = true := by simpa using hv
  obtain ⟨y, hy⟩ : ∃ y, y = x % 16 := ⟨_, rfl⟩
  have hand : bits .and .u8 x 15 = y := by rw [u8_and15 x hb.1 (by omega), hy]
  rw [← hy] at hkz
  have hyb : 0 ≤ y ∧ y ≤ 15 := by omega
  have wy : IntKind.i64.wrap y = y := IntWalk.i64_in _ (by omega)
  have wz : IntKind.i64.wrap (y * 4) = (k : Int) := by rw [IntWalk.i64_in _ (by omega), hkz]
  obtain ⟨l8, hl8⟩ : ∃ l8 : Int, l8 = (s.size : Int) - 8 := ⟨_, rfl⟩
  have w8 : IntKind.i64.wrap ((s.size : Int) - 8) = l8 := by rw [IntWalk.i64_in _ (by omega), hl8]
  obtain ⟨r, hr⟩ : ∃ r, r = v % 8192 := ⟨_, rfl⟩
  have hand2 : bits .and .u16 v 8191 = r := by rw [em_and13 hv16.1 (by omega), hr]
  have hkb : k ≤ 60 := by omega
  have CW := hide cw
  clear cw
  have F2 := hide f2
  rw [← hl8] at f2
  rw [← hr] at g3
  have HK := hide hk
  clear hx hy hkz hk hb hv hyb hl8 hr hv16 h20
  go_enter Tryz.func137, Tryz.ntmps137
  have d0 := Cells.new w #[.string s, .int .i64 0, .int .u8 0, .int .u32 0, .int .u16 0, .int .u32 0, .int .u16 0, .bool false] 173
  have bn := fresh_below w (.cells #[.string s, .int .i64 0, .int .u8 0, .int .u32 0, .int .u16 0, .int .u32 0, .int .u16 0, .bool false] 173)
  have z0 := d0.at_ 1; have zf := d0.free 1
  have D0 := hide d0; have BN := hide bn
  clear d0 bn
  go_upto_region 5 with fail
  have ec := Cells.new w #[.string s, .int .i64 (k : Int), .int .u8 0, .int .u32 0, .int .u16 0, .int .u32 0, .int .u16 0, .bool false] 173
  have eb := fresh_below w (.cells #[.string s, .int .i64 (k : Int), .int .u8 0, .int .u32 0, .int .u16 0, .int .u32 0, .int .u16 0, .bool false] 173)
  clear z0 zf D0 BN q2 m1 m2 hand wy wz
  generalize (w.alloc (.cells #[.string s, .int .i64 (k : Int), .int .u8 0, .int .u32 0, .int .u16 0, .int .u32 0, .int .u16 0, .bool false] 173)) = w5 at *
  have EC := hide ec; have EB := hide eb
  clear eb
  obtain ⟨qec_0, qec_1, qec_2, qec_3, qec_4, qec_5, qec_6, qec_7⟩ := ec.q8
  have bb : Below w5.heap.size w5 w5 := Below.refl _ _
  clear ec
  have h4 : (r != 0) = false := by rw [g3]; rfl
  go_upto_region 7 with (go_at_call 161; (with_reducible refine (CW.out _ _ (qec_0 _ (by assumption))).mono ?_); rintro e w6 ⟨rfl, b6⟩; have b6' := bstep (by assumption : Below w5.heap.size w5 _) b6; clear b6)
  clear h4 hand2 f1 f2 w8
  have s7 : Below w5.heap.size w5 w6.drew := Below.drew b6'
  clear bb
  focus
    refine wp_region_JG [16] (fun W => Below w5.heap.size w5 W) (by kernel_rfl) (by kernel_rfl) (s7) (fun hG hsel hS0 => ?_)
    refine gJ (v := ?v0_84) 0 (⟨some 49, .move (.tmp 4), 167, "embeds.go:66", #[], none⟩) hG hsel hS0 ?q0_84 ?r0_84
    case q0_84 => intro w hx; refine run_env [4] [?a0_84_4] (by kernel_rfl) (by kernel_rfl) (⟨?e0_84_4, trivial⟩) ?h0_84; (case e0_84_4 => ((conv => lhs; whnf); (try exact rfl))); (case h0_84 => ((try dsimp only); (try simp only [envL, lookV, if_true, if_false]); (try go_simp); (try with_reducible rfl)))
    (try simp only [Act.put, putS])
    refine gJ (v := ?v1_85) 1 (⟨some 50, .move (.tmp 0), 9, "embeds.go:66", #[], none⟩) hG hsel hS0 ?q1_85 ?r1_85
    case q1_85 => intro w hx; refine run_env [0] [?a1_85_0] (by kernel_rfl) (by kernel_rfl) (⟨?e1_85_0, trivial⟩) ?h1_85; (case e1_85_0 => ((conv => lhs; whnf); (try exact rfl))); (case h1_85 => ((try dsimp only); (try simp only [envL, lookV, if_true, if_false]); (try go_simp); (try with_reducible rfl)))
    (try simp only [Act.put, putS])
    refine gJ (v := ?v2_86) 2 (⟨some 51, .index 9 (.tmp 50) (.const (.int .i64 9)), 5, "embeds.go:66", #[⟨1, .data⟩], none⟩) hG hsel hS0 ?q2_86 ?r2_86
    case q2_86 => intro w hx; refine run_env [50] [?a2_86_50] (by kernel_rfl) (by kernel_rfl) (⟨?e2_86_50, trivial⟩) ?h2_86; (case e2_86_50 => ((conv => lhs; whnf); (try exact rfl))); (case h2_86 => ((try dsimp only); (try simp only [envL, lookV, if_true, if_false]); (try go_simp); (try with_reducible rfl)))
    (try simp only [Act.put, putS])
    refine gJ (v := ?v3_87) 3 (⟨some 52, .move (.tmp 4), 167, "embeds.go:66", #[], none⟩) hG hsel hS0 ?q3_87 ?r3_87
    case q3_87 => intro w hx; refine run_env [4] [?a3_87_4] (by kernel_rfl) (by kernel_rfl) (⟨?e3_87_4, trivial⟩) ?h3_87; (case e3_87_4 => ((conv => lhs; whnf); (try exact rfl))); (case h3_87 => ((try dsimp only); (try simp only [envL, lookV, if_true, if_false]); (try go_simp); (try with_reducible rfl)))
    (try simp only [Act.put, putS])
    refine gJ (v := ?v4_88) 4 (⟨some 53, .nilCheck (.tmp 52), 0, "embeds.go:66", #[⟨3, .data⟩], none⟩) hG hsel hS0 ?q4_88 ?r4_88
    case q4_88 => intro w hx; refine run_env [52] [?a4_88_52] (by kernel_rfl) (by kernel_rfl) (⟨?e4_88_52, trivial⟩) ?h4_88; (case e4_88_52 => ((conv => lhs; whnf); (try exact rfl))); (case h4_88 => ((try dsimp only); (try simp only [envL, lookV, if_true, if_false]); (try go_simp); (try with_reducible rfl)))
    (try simp only [Act.put, putS])
    refine gJ (v := ?v5_89) 5 (⟨some 54, .fieldAddr 173 (.tmp 53) 0, 0, "embeds.go:66", #[⟨4, .data⟩], none⟩) hG hsel hS0 ?q5_89 ?r5_89
    case q5_89 => intro w hx; refine run_env [53] [?a5_89_53] (by kernel_rfl) (by kernel_rfl) (⟨?e5_89_53, trivial⟩) ?h5_89; (case e5_89_53 => ((conv => lhs; whnf); (try exact rfl))); (case h5_89 => ((try dsimp only); (try simp only [envL, lookV, if_true, if_false]); (try go_simp); (try with_reducible rfl)))
    (try simp only [Act.put, putS])
    refine gJ (v := ?v8_90) 8 (⟨some 57, .move (.tmp 4), 167, "embeds.go:66", #[], none⟩) hG hsel hS0 ?q8_90 ?r8_90
    case q8_90 => intro w hx; refine run_env [4] [?a8_90_4] (by kernel_rfl) (by kernel_rfl) (⟨?e8_90_4, trivial⟩) ?h8_90; (case e8_90_4 => ((conv => lhs; whnf); (try exact rfl))); (case h8_90 => ((try dsimp only); (try simp only [envL, lookV, if_true, if_false]); (try go_simp); (try with_reducible rfl)))
    (try simp only [Act.put, putS])
    refine gJ (v := ?v9_91) 9 (⟨some 58, .nilCheck (.tmp 57), 0, "embeds.go:66", #[⟨8, .data⟩], none⟩) hG hsel hS0 ?q9_91 ?r9_91
    case q9_91 => intro w hx; refine run_env [57] [?a9_91_57] (by kernel_rfl) (by kernel_rfl) (⟨?e9_91_57, trivial⟩) ?h9_91; (case e9_91_57 => ((conv => lhs; whnf); (try exact rfl))); (case h9_91 => ((try dsimp only); (try simp only [envL, lookV, if_true, if_false]); (try go_simp); (try with_reducible rfl)))
    (try simp only [Act.put, putS])
    refine gJ (v := ?v10_92) 10 (⟨some 59, .fieldAddr 173 (.tmp 58) 0, 0, "embeds.go:66", #[⟨9, .data⟩], none⟩) hG hsel hS0 ?q10_92 ?r10_92
    case q10_92 => intro w hx; refine run_env [58] [?a10_92_58] (by kernel_rfl) (by kernel_rfl) (⟨?e10_92_58, trivial⟩) ?h10_92; (case e10_92_58 => ((conv => lhs; whnf); (try exact rfl))); (case h10_92 => ((try dsimp only); (try simp only [envL, lookV, if_true, if_false]); (try go_simp); (try with_reducible rfl)))
    (try simp only [Act.put, putS])
    refine rJ [6] ?_
    refine (AllReadyJ.cons rfl (fun K hK => ?_) AllReadyJ.nil)
    rw [if_pos (by kernel_rfl)]
    (try simp only [putG])
    (focus go_simp)
    (focus ((with_reducible refine (CA.out _ _ (qec_0 _ hS0)).mono ?_); rintro e wa ⟨rfl, ba⟩; have sq := bstep hS0 ba))
    (focus (try go_wp2_with fail))
    refine hK.out _ _ ?hs (fun hS0 => ?_)
    case hs => (first | with_reducible exact hS0 | with_reducible exact sq)
    clear hK K
    (try simp only [Act.put, putS])
    refine gJ (v := ?v7_93) 7 (⟨some 56, .build 31 #[(0, .tmp 55)], 31, "embeds.go:66", #[⟨6, .data⟩], none⟩) hG hsel hS0 ?q7_93 ?r7_93
    case q7_93 => intro w hx; refine run_env [55] [?a7_93_55] (by kernel_rfl) (by kernel_rfl) (⟨?e7_93_55, trivial⟩) ?h7_93; (case e7_93_55 => ((conv => lhs; whnf); (try exact rfl))); (case h7_93 => ((try dsimp only); (try simp only [envL, lookV, if_true, if_false]); (try go_simp); (try with_reducible rfl)))
    (try simp only [Act.put, putS])
    refine rJ [11] ?_
    refine (AllReadyJ.cons rfl (fun K hK => ?_) AllReadyJ.nil)
    rw [if_pos (by kernel_rfl)]
    (try simp only [putG])
    (focus go_simp)
    (focus ((with_reducible refine (CB.out _ _ (qec_0 _ hS0)).mono ?_); rintro e wb ⟨rfl, bb2⟩; have sq := bstep hS0 bb2))
    (focus (try go_wp2_with fail))
    refine hK.out _ _ ?hs (fun hS0 => ?_)
    case hs => (first | with_reducible exact hS0 | with_reducible exact sq)
    clear hK K
    (try simp only [Act.put, putS])
    refine gJ (v := ?v12_94) 12 (⟨some 61, .build 31 #[(0, .tmp 60)], 31, "embeds.go:66", #[⟨11, .data⟩], none⟩) hG hsel hS0 ?q12_94 ?r12_94
    case q12_94 => intro w hx; refine run_env [60] [?a12_94_60] (by kernel_rfl) (by kernel_rfl) (⟨?e12_94_60, trivial⟩) ?h12_94; (case e12_94_60 => ((conv => lhs; whnf); (try exact rfl))); (case h12_94 => ((try dsimp only); (try simp only [envL, lookV, if_true, if_false]); (try go_simp); (try with_reducible rfl)))
    (try simp only [Act.put, putS])
    refine gJ (v := ?v13_95) 13 (⟨some 62, .build 33 #[(0, .tmp 51), (1, .tmp 56), (2, .tmp 61)], 33, "embeds.go:66", #[⟨2, .data⟩, ⟨7, .data⟩, ⟨12, .data⟩], none⟩) hG hsel hS0 ?q13_95 ?r13_95
    case q13_95 => intro w hx; refine run_env [51, 56, 61] [?a13_95_51, ?a13_95_56, ?a13_95_61] (by kernel_rfl) (by kernel_rfl) (⟨?e13_95_51, ?e13_95_56, ?e13_95_61, trivial⟩) ?h13_95; (case e13_95_51 => ((conv => lhs; whnf); (try exact rfl))); (case e13_95_56 => ((conv => lhs; whnf); (try exact rfl))); (case e13_95_61 => ((conv => lhs; whnf); (try exact rfl))); (case h13_95 => ((try dsimp only); (try simp only [envL, lookV, if_true, if_false]); (try go_simp); (try with_reducible rfl)))
    (try simp only [Act.put, putS])
    refine rJ [14] ?_
    refine (AllReadyJ.cons rfl (fun K hK => ?_) AllReadyJ.nil)
    rw [if_pos (by kernel_rfl)]
    (try simp only [putG])
    (focus go_simp)
    refine hK.out _ _ ?hs (fun hS0 => ?_)
    case hs => (first | with_reducible exact hS0 | with_reducible exact sq)
    clear hK K
    (try simp only [Act.put, putS])
    refine gJ (v := ?v15_96) 15 (⟨some 64, .fieldAddr 173 (.tmp 63) 2, 0, "embeds.go:66", #[⟨14, .data⟩, ⟨0, .phase⟩, ⟨1, .phase⟩, ⟨2, .phase⟩, ⟨3, .phase⟩, ⟨4, .phase⟩, ⟨5, .phase⟩, ⟨6, .phase⟩, ⟨7, .phase⟩, ⟨8, .phase⟩, ⟨9, .phase⟩, ⟨10, .phase⟩, ⟨11, .phase⟩, ⟨12, .phase⟩, ⟨13, .phase⟩], none⟩) hG hsel hS0 ?q15_96 ?r15_96
    case q15_96 => intro w hx; refine run_env [63] [?a15_96_63] (by kernel_rfl) (by kernel_rfl) (⟨?e15_96_63, trivial⟩) ?h15_96; (case e15_96_63 => ((conv => lhs; whnf); (try exact rfl))); (case h15_96 => ((try dsimp only); (try simp only [envL, lookV, if_true, if_false]); (try go_simp); (try with_reducible rfl)))
    (try simp only [Act.put, putS])
    refine rJ [16] ?_
    refine (AllReadyJ.last rfl (by kernel_rfl) (fun K hK => ?_) AllReadyJ.nil)
    (focus (rw [if_pos (by kernel_rfl)]; have kc := Cells.below hS0 EC.out; have y2 := kc.at_ 2; have y3 := kc.at_ 3; have y4 := kc.at_ 4; have y5 := kc.at_ 5; have y6 := kc.at_ 6; have f2 := kc.free 2; have f3 := kc.free 3; have f4 := kc.free 4; have f5 := kc.free 5; have f6 := kc.free 6; clear kc; go_simp))
    (focus (try go_wp2_with fail))
    refine hK.out _ _ ?_
    clear hK K
    (try simp only [Act.put, putS])
    refine wpAnyJ_done (by kernel_rfl) ?_ _
  have em : Em (((((wb.setCell ⟨w.heap.size, 2, none⟩ (.int .u8 p)).setCell ⟨w.heap.size, 3, none⟩ (.int .u32 va)).setCell ⟨w.heap.size, 4, none⟩ (.int .u16 0)).setCell ⟨w.heap.size, 5, none⟩ (.int .u32 vb)).setCell ⟨w.heap.size, 6, none⟩ (.int .u16 0)) w.heap.size s k ⟨p, va, 0, vb, 0⟩ false := Cells.like (Cells.set_ (Cells.set_ (Cells.set_ (Cells.set_ (Cells.set_ (Cells.below hS0 EC.out) 2 (.int .u8 p)) 3 (.int .u32 va)) 4 (.int .u16 0)) 5 (.int .u32 vb)) 6 (.int .u16 0)) (by simp [emCells])
  have lw : Below w.heap.size w (((((wb.setCell ⟨w.heap.size, 2, none⟩ (.int .u8 p)).setCell ⟨w.heap.size, 3, none⟩ (.int .u32 va)).setCell ⟨w.heap.size, 4, none⟩ (.int .u16 0)).setCell ⟨w.heap.size, 5, none⟩ (.int .u32 vb)).setCell ⟨w.heap.size, 6, none⟩ (.int .u16 0)) := Below.setCell (Below.setCell (Below.setCell (Below.setCell (Below.setCell (bstep EB.out hS0) (Nat.le_refl _) _) (Nat.le_refl _) _) (Nat.le_refl _) _) (Nat.le_refl _) _) (Nat.le_refl _) _
  have EM := hide em; have LW := hide lw
  clear em lw s7 sq ba bb2 b6' hS0 qec_0 qec_1 qec_2 qec_3 qec_4 qec_5 qec_6 qec_7 EC EB CA CB CW
  generalize (((((wb.setCell ⟨w.heap.size, 2, none⟩ (.int .u8 p)).setCell ⟨w.heap.size, 3, none⟩ (.int .u32 va)).setCell ⟨w.heap.size, 4, none⟩ (.int .u16 0)).setCell ⟨w.heap.size, 5, none⟩ (.int .u32 vb)).setCell ⟨w.heap.size, 6, none⟩ (.int .u16 0)) = w8 at *
  have kc := EM.out
  have y2 : w8.cell? ⟨w.heap.size, 2, none⟩ = some (.int .u8 p) := kc.at_ 2
  clear kc
  have hp := HP.out
  subst hp
  have cq := e_query w8 w.heap.size s k 1 va vb EM.out (K0.below LW.out) hs (by have := F2.out; omega)
  have hB : w.heap.size < w8.heap.size := Cells.lt EM.out
  have hm0 : (⟨at_ (L s) k, at_ (L s) (k + 1), 0, { data := #[] }, { data := #[] }⟩ : Msg) = emMsg (L s) := by unfold emMsg; rw [← HK.out]
  rw [hm0] at cq
  have fin' : ∀ en wz, Asked w8 w.heap.size s k 1 va vb (be16 (L s) (k + 4)) (qAsk (emMsg (L s))) (qIs (emMsg (L s))) en wz → RR en wz := fun en wz hz => by rw [HRR.out]; exact ⟨w8, LW.out, hB, by rw [← HK.out]; exact hz⟩
  clear hm0 HRR
  generalize qAsk (emMsg (L s)) = ask at *
  generalize qIs (emMsg (L s)) = is at *
  generalize be16 (L s) (k + 4) = id at *
  unfold Asked at cq fin'
  cases is with
  | false =>
    simp only [Bool.false_eq_true, if_false] at cq fin'
    have CQ := hide cq; have FIN := hide fin'
    clear cq fin' hs hkb
    go_wp2_with (go_at_call 189; (refine (CQ.out).mono ?_); rintro e wz ⟨rfl, hz⟩)
    exact FIN.out _ _ ⟨rfl, hz⟩
  | true =>
    simp only [if_true] at cq fin'
    have CQ := hide cq; have FIN := hide fin'
    clear cq fin' hs hkb
    go_wp2_with (go_at_call 189; (refine (CQ.out).mono ?_); rintro e wz ⟨rfl, hz1, hz2⟩)
    exact FIN.out _ _ ⟨rfl, hz1, hz2⟩
theorem e_open (w : World) (s : ByteArray) (K0 : Kinds w) (hs : s.size ≤ 140737488351232) : Calls Tryz.prog 137 #[.string s] w (Opened w s) := by
  have hb := at_bd (L s) 0
  have hL : ((L s).length : Int) = (s.size : Int) := by rw [L_length]
  have hno : ∀ r, emWhy (L s) = r → r ≠ 0 → Calls Tryz.prog 137 #[.string s] w (Ret (.tuple #[.pointer none, .int .i64 r]) w) → Calls Tryz.prog 137 #[.string s] w (Opened w s) := fun r h1 h2 h3 => h3.mono (by
    rintro e w' ⟨rfl, hb⟩
    unfold Opened
    rw [h1, if_neg h2]
    exact ⟨rfl, hb⟩)
  have hyes : ∀ t q, emWhy (L s) = 0 → emTup (L s) = t → emAsk (L s) = q → Calls Tryz.prog 137 #[.string s] w (fun en w' => ∃ B, en = .returned (.tuple #[.pointer (some ⟨B, 0, none⟩), .int .i64 0]) ∧ w.heap.size ≤ B ∧ Em w' B s (emAt (L s)) t q ∧ Below w.heap.size w w') → Calls Tryz.prog 137 #[.string s] w (Opened w s) := fun t q h1 h2 h3 h4 => h4.mono (by
    intro e w' h
    unfold Opened
    rw [if_pos h1, h2, h3]
    exact h)
  by_cases c1 : ((L s).length : Int) < 20 ∨ at_ (L s) 0 / 16 ≠ 4
  · exact hno 15 (by unfold emWhy; rw [if_pos c1]) (by decide) (e_open_early w s hs (by omega))
  by_cases c2 : emEnd (L s) < 20 ∨ ((L s).length : Int) - 8 < emEnd (L s) ∨ be16 (L s) 6 % 8192 ≠ 0
  · exact hno 15 (by unfold emWhy; rw [if_neg c1, if_pos c2]) (by decide) (e_open_mid w s hs (by omega) (by omega) (by omega))
  have g20 : 20 ≤ s.size := by omega
  have gv : at_ (L s) 0 / 16 = 4 := by omega
  have g1 : ¬ emEnd (L s) < 20 := by omega
  have g2 : ¬ (s.size : Int) - 8 < emEnd (L s) := by omega
  have g3 : be16 (L s) 6 % 8192 = 0 := by omega
  by_cases p6 : at_ (L s) 9 = 6
  · exact hyes _ false (by unfold emWhy; rw [if_neg c1, if_neg c2, if_pos (Or.inl p6)]) (by unfold emTup; rw [if_pos (Or.inl p6), p6]) (by unfold emAsk; rw [p6]; rfl) (e_open_flow6 w s hs g20 gv g1 g2 g3 p6)
  by_cases p17 : at_ (L s) 9 = 17
  · exact hyes _ false (by unfold emWhy; rw [if_neg c1, if_neg c2, if_pos (Or.inr p17)]) (by unfold emTup; rw [if_pos (Or.inr p17), p17]) (by unfold emAsk; rw [p17]; rfl) (e_open_flow17 w s hs g20 gv g1 g2 g3 p17)
  by_cases p1 : at_ (L s) 9 = 1
  · have hw : emWhy (L s) = if qIs (emMsg (L s)) = true then 0 else 15 := by unfold emWhy; rw [if_neg c1, if_neg c2, if_neg (by omega), if_neg (by omega)]
    refine (e_open_msg w s hs g20 gv g1 g2 g3 K0 p1).mono ?_
    rintro e w' ⟨W, hb, hlt, hq⟩
    unfold Asked at hq
    unfold Opened
    rw [hw]
    cases his : qIs (emMsg (L s)) with
    | false =>
      rw [his] at hq
      simp only [Bool.false_eq_true, if_false] at hq ⊢
      rw [if_neg (by decide)]
      exact ⟨hq.1, bstep hb hq.2⟩
    | true =>
      rw [his] at hq
      simp only [if_true] at hq ⊢
      obtain ⟨h1, h2, h3⟩ := hq
      refine ⟨_, h1, Nat.le_refl _, ?_, hb.trans (h3.below (fun j e => by omega) hb.size)⟩
      have e1 : emAsk (L s) = qAsk (emMsg (L s)) := by unfold emAsk; rw [p1]; rfl
      have e2 : emTup (L s) = if qAsk (emMsg (L s)) = true then ⟨1, be32 (L s) 12, be16 (L s) (emAt (L s) + 4), be32 (L s) 16, 0⟩ else ⟨1, be32 (L s) 12, 0, be32 (L s) 16, be16 (L s) (emAt (L s) + 4)⟩ := by unfold emTup; rw [if_neg (by omega), p1]
      rw [e1, e2]
      exact h2
  · exact hno 6 (by unfold emWhy; rw [if_neg c1, if_neg c2, if_neg (by omega), if_pos p1]) (by decide) (e_open_other w s hs g20 gv g1 g2 g3 ⟨p6, p17, p1⟩)
end Go.Proofs.YtilfcikhipadpaaGreatDoor
end

section
/- rewrite: a segment, or a datagram, changed, over this program. -/
set_option linter.unusedVariables false
set_option linter.unusedSimpArgs false
namespace Go.Proofs.YtilfcikhipadpaaGreatDoor
open Go.RowKit
attribute [local go_sem] Oper.semAt_some

def flowSum (l ips : List UInt8) (a b c d : Int) (k : Nat) : Int := updates (be16 l k) (ips ++ l.take 4) (ipsOf a c ++ putW [b, d])
/-- the sum that is laid: of a datagram that has none, none; none of 0 -/
def flowFix (k : Nat) (was n : Int) : Int := if k = 6 then (if was = 0 then 0 else if n = 0 then 65535 else n) else n
/-- a segment, or a datagram, changed -/
def flowNew (l ips : List UInt8) (a b c d : Int) (k : Nat) : List UInt8 := lay (putW [b, d] ++ l.drop 4) k (flowFix k (be16 l k) (flowSum l ips a b c d k))
end Go.Proofs.YtilfcikhipadpaaGreatDoor
end
