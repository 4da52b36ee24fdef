/- Several texts of this claim, one behind the other. -/
import Derived.Test.YtilfcikhipadpaaGreatDoorK32a

section
/- embeds.about, embeds.Inner, over this program. -/
set_option linter.unusedVariables false
set_option linter.unusedSimpArgs false
namespace Go.Proofs.YtilfcikhipadpaaGreatDoor
open Go.RowKit
attribute [local go_sem] Oper.semAt_some envL lookV

variable {P : Program}
theorem res_cell_tmp2 {fn : Func} {tmps : Array Value} {w : World} {a b b2 : Nat} {t : TypeId} (hf : fn.results = #[.cell a t, .tmp b, .tmp b2]) {g : Nat} {c : Array Value} {T : TypeId} (hC : Cells w g c T) (hx : tmps.getD a undef = .pointer (some ⟨g, 0, none⟩)) {v v2 : Value} (hv : tmps.getD b undef = v) (hv2 : tmps.getD b2 undef = v2) (d : TypeDesc) (hu : P.underlying t = some d) (hd : d.isRow = true) (hi : (P.info? t).map (·.size) = some c.size) :
    (results fn tmps).run P w = .ok (.tuple #[.agg c, v, v2]) w := by
  have hl := run_load_all (P := P) t hC d hu hd hi
  have hx' : tmps[a]?.getD undef = .pointer (some ⟨g, 0, none⟩) := by simpa using hx
  subst hv hv2
  simp [results, hf, hx', asAddr, hl, Sem.run_bind, Sem.run_pure, Result.andThen_ok]
/-- what about leaves -/
def Abouts (w : World) (s : ByteArray) (en : Ending) (w' : World) : Prop :=
  if emsWhy s = 0 then ∃ B, en = .returned (.tuple #[.agg #[.int .u8 (msgOf (ipRest s)).t, .int .u8 (msgOf (ipRest s)).c, .int .u16 (msgOf (ipRest s)).n, .string (msgOf (ipRest s)).r, .string (msgOf (ipRest s)).d], .pointer (some ⟨B, 0, none⟩), .int .i64 0]) ∧ w.heap.size ≤ B ∧ Em w' B (emData s) (emAt (L (emData s))) (emTup (L (emData s))) (emAsk (L (emData s))) ∧ Below w.heap.size w w'
  else ∃ m : Msg, en = .returned (.tuple #[.agg #[.int .u8 m.t, .int .u8 m.c, .int .u16 m.n, .string m.r, .string m.d], .pointer none, .int .i64 (emsWhy s)]) ∧ Below w.heap.size w w'
set_option maxRecDepth 100000 in
set_option maxHeartbeats 8000000 in
theorem e_about (w : World) (s : ByteArray) (K0 : Kinds w) (hs : s.size ≤ 140737488351232) : Calls Tryz.prog 80 #[.string s] w (Abouts w s) := by
  obtain ⟨x, hx⟩ : ∃ x, x = seenOf s := ⟨_, rfl⟩
  have co := fun W (hW : Below w.heap.size w W) => tu_Of s W (K0.below hW) hs
  rw [← hx] at co
  unfold Seen.cells at co
  obtain ⟨RV, hRV⟩ : ∃ RV : Ending → World → Prop, RV = Abouts w s := ⟨_, rfl⟩
  rw [← hRV]
  have HRV := hide hRV
  by_cases h1 : seenWhy s = 0
  rotate_left 1
  · have hno : emsWhy s = seenWhy s := by unfold emsWhy; rw [if_pos h1]
    have fin : ∀ W (m : Msg), Below w.heap.size w W → RV (.returned (.tuple #[.agg #[.int .u8 m.t, .int .u8 m.c, .int .u16 m.n, .string m.r, .string m.d], .pointer none, .int .i64 (seenWhy s)])) W := fun W m hW => by
      rw [hRV]
      unfold Abouts
      rw [hno, if_neg h1]
      exact ⟨m, rfl, hW⟩
    have hr : (seenWhy s != 0) = true := by simpa using h1
    have FIN := hide fin
    generalize seenWhy s = r at *
    have CO := hide co
    clear co h1 hno fin hx hRV HRV K0 hs
    go_enter Tryz.func80, Tryz.ntmps80
    have d0 := Cells.new w #[.int .u8 0, .int .u8 0, .int .u16 0, .string { data := #[] }, .string { data := #[] }] 166
    have bn := fresh_below w (.cells #[.int .u8 0, .int .u8 0, .int .u16 0, .string { data := #[] }, .string { data := #[] }] 166)
    have D0 := hide d0; have BN := hide bn
    clear d0 bn
    go_upto_region 1 with fail
    generalize (w.alloc (.cells #[.int .u8 0, .int .u8 0, .int .u16 0, .string { data := #[] }, .string { data := #[] }] 166)) = w1 at *
    go_upto_region 3 with (go_at_call 27; (with_reducible refine (CO.out _ BN.out).mono ?_); rintro e w2 ⟨rfl, b2⟩)
    have bz := bstep b2 (fresh_below w2 (.cells #[.int .u8 x.t.p, .int .u32 x.t.a, .int .u16 x.t.b, .int .u32 x.t.c, .int .u16 x.t.d, .int .i64 x.k, .int .u8 x.f, .bool x.q, .int .u8 x.l] 35))
    have HZ := hide (Cells.below bz D0.out); have LW := hide (bstep BN.out bz)
    clear bz b2 D0 BN hr
    refine wp_region_lit ?_
    refine wpList_plain rfl fun K hK => ?_; go_simp; refine hK _ _ ?_; clear hK K
    refine wpList_plain rfl fun K hK => ?_; go_simp; refine hK _ _ ?_; clear hK K
    refine wpList_store_all rfl 166 (.tmp 2) (.tmp 21) rfl (c' := #[.int .u8 0, .int .u8 0, .int .u16 0, .string { data := #[] }, .string { data := #[] }]) HZ.out (by rfl) (by rfl) (by kernel_rfl) rfl (by simp [Value.oneCell']) ?_
    intro W5 r5 o5 z5
    go_wp2_with fail
    (try simp only [Exit.inBlock, Exit.then])
    refine bodyPost_ret (res_cell_tmp2 Tryz.results80 r5 (by rfl) (by rfl) (by rfl) _ Tryz.underlying166 rfl (by kernel_rfl)) rfl ?_
    exact FIN.out _ ⟨0, 0, 0, { data := #[] }, { data := #[] }⟩ (LW.out.trans (o5.below (fun j e => by omega) LW.out.size))
  by_cases h2 : (seenOf s).k = 3
  rotate_left 1
  · have hno : emsWhy s = 15 := by unfold emsWhy; rw [if_neg (by omega), if_pos h2]
    have fin : ∀ W (m : Msg), Below w.heap.size w W → RV (.returned (.tuple #[.agg #[.int .u8 m.t, .int .u8 m.c, .int .u16 m.n, .string m.r, .string m.d], .pointer none, .int .i64 15])) W := fun W m hW => by
      rw [hRV]
      unfold Abouts
      rw [hno, if_neg (by decide)]
      exact ⟨m, rfl, hW⟩
    rw [← hx] at h2
    have hr : (x.k != 3) = true := by simpa using h2
    have FIN := hide fin
    rw [h1] at co
    have CO := hide co
    clear co h1 h2 hno fin hx hRV HRV K0 hs
    go_enter Tryz.func80, Tryz.ntmps80
    have d0 := Cells.new w #[.int .u8 0, .int .u8 0, .int .u16 0, .string { data := #[] }, .string { data := #[] }] 166
    have bn := fresh_below w (.cells #[.int .u8 0, .int .u8 0, .int .u16 0, .string { data := #[] }, .string { data := #[] }] 166)
    have D0 := hide d0; have BN := hide bn
    clear d0 bn
    go_upto_region 1 with fail
    generalize (w.alloc (.cells #[.int .u8 0, .int .u8 0, .int .u16 0, .string { data := #[] }, .string { data := #[] }] 166)) = w1 at *
    go_upto_region 2 with (go_at_call 27; (with_reducible refine (CO.out _ BN.out).mono ?_); rintro e w2 ⟨rfl, b2⟩)
    have bz := bstep b2 (fresh_below w2 (.cells #[.int .u8 x.t.p, .int .u32 x.t.a, .int .u16 x.t.b, .int .u32 x.t.c, .int .u16 x.t.d, .int .i64 x.k, .int .u8 x.f, .bool x.q, .int .u8 x.l] 35))
    have nn := Cells.new w2 #[.int .u8 x.t.p, .int .u32 x.t.a, .int .u16 x.t.b, .int .u32 x.t.c, .int .u16 x.t.d, .int .i64 x.k, .int .u8 x.f, .bool x.q, .int .u8 x.l] 35
    have HZ := hide (Cells.below bz D0.out); have LW := hide (bstep BN.out bz)
    have y5 := nn.at_ 5
    clear bz b2 D0 BN nn
    generalize (w2.alloc (.cells #[.int .u8 x.t.p, .int .u32 x.t.a, .int .u16 x.t.b, .int .u32 x.t.c, .int .u16 x.t.d, .int .i64 x.k, .int .u8 x.f, .bool x.q, .int .u8 x.l] 35)) = w3 at *
    go_upto_region 5 with fail
    clear y5 hr
    refine wp_region_lit ?_
    refine wpList_plain rfl fun K hK => ?_; go_simp; refine hK _ _ ?_; clear hK K
    refine wpList_store_all rfl 166 (.tmp 2) (.tmp 27) rfl (c' := #[.int .u8 0, .int .u8 0, .int .u16 0, .string { data := #[] }, .string { data := #[] }]) HZ.out (by rfl) (by rfl) (by kernel_rfl) rfl (by simp [Value.oneCell']) ?_
    intro W5 r5 o5 z5
    go_wp2_with fail
    (try simp only [Exit.inBlock, Exit.then])
    refine bodyPost_ret (res_cell_tmp2 Tryz.results80 r5 (by rfl) (by rfl) (by rfl) _ Tryz.underlying166 rfl (by kernel_rfl)) rfl ?_
    exact FIN.out _ ⟨0, 0, 0, { data := #[] }, { data := #[] }⟩ (LW.out.trans (o5.below (fun j e => by omega) LW.out.size))
  obtain ⟨H, P, R, hsw, hw, _, _, _, hrest, _, hp8, _, _⟩ := err_whole h1 h2
  have hsz : (ipRest s).size ≤ 2048 := by rw [hrest, S_size]; have := hw.big; omega
  have h8 : 8 ≤ (ipRest s).size := by rw [hrest, S_size]; exact hp8
  have hems : emsWhy s = emWhy (L (emData s)) := by unfold emsWhy; rw [if_neg (by omega), if_neg (by omega)]
  have hdz : (emData s).size ≤ 2048 := by rw [(emData_of hrest).1, S_size, List.length_drop]; rw [hrest, S_size] at hsz; omega
  have cp := fun W => ip_Parse s W hs
  have cm := fun W => i_Parse_yes (ipRest s) W (by omega) h8
  have cop := fun W (hW : Below w.heap.size w W) => e_open W (emData s) (K0.below hW) (by omega)
  rw [show (msgOf (ipRest s)).d = emData s from rfl] at cm
  have fin0 : ∀ W B, emWhy (L (emData s)) = 0 → w.heap.size ≤ B → Em W B (emData s) (emAt (L (emData s))) (emTup (L (emData s))) (emAsk (L (emData s))) → Below w.heap.size w W → RV (.returned (.tuple #[.agg #[.int .u8 (msgOf (ipRest s)).t, .int .u8 (msgOf (ipRest s)).c, .int .u16 (msgOf (ipRest s)).n, .string (msgOf (ipRest s)).r, .string (emData s)], .pointer (some ⟨B, 0, none⟩), .int .i64 0])) W := fun W B k1 k2 k3 k4 => by
    rw [hRV]
    unfold Abouts
    rw [hems, if_pos k1]
    exact ⟨B, rfl, k2, k3, k4⟩
  have fin1 : ∀ W (m : Msg) r, emWhy (L (emData s)) = r → r ≠ 0 → Below w.heap.size w W → RV (.returned (.tuple #[.agg #[.int .u8 m.t, .int .u8 m.c, .int .u16 m.n, .string m.r, .string m.d], .pointer none, .int .i64 r])) W := fun W m r k1 k2 k3 => by
    rw [hRV]
    unfold Abouts
    rw [hems, k1, if_neg k2]
    exact ⟨m, rfl, k3⟩
  rw [← hx] at h2
  have hr : (x.k != 3) = false := by rw [h2]; rfl
  rw [h1] at co
  obtain ⟨h, hh⟩ : ∃ h, h = hdRes s := ⟨_, rfl⟩
  rw [← hh] at cp
  unfold Hd.cells at cp
  generalize ipRest s = rest at *
  generalize emData s = dt at *
  obtain ⟨m, hm⟩ : ∃ m, m = msgOf rest := ⟨_, rfl⟩
  rw [← hm] at cm fin0
  generalize ipWhy s = iw at *
  have CO := hide co; have CP := hide cp; have CM := hide cm; have COP := hide cop; have FIN0 := hide fin0; have FIN1 := hide fin1
  clear co cp cm cop fin0 fin1 h1 h2 hx hh hm hRV HRV K0 hs hsw hw hrest hp8 hsz h8 hems hdz
  go_enter Tryz.func80, Tryz.ntmps80
  have d0 := Cells.new w #[.int .u8 0, .int .u8 0, .int .u16 0, .string { data := #[] }, .string { data := #[] }] 166
  have bn := fresh_below w (.cells #[.int .u8 0, .int .u8 0, .int .u16 0, .string { data := #[] }, .string { data := #[] }] 166)
  have D0 := hide d0; have BN := hide bn
  clear d0 bn
  go_upto_region 1 with fail
  generalize (w.alloc (.cells #[.int .u8 0, .int .u8 0, .int .u16 0, .string { data := #[] }, .string { data := #[] }] 166)) = w1 at *
  go_upto_region 2 with (go_at_call 27; (with_reducible refine (CO.out _ BN.out).mono ?_); rintro e w2 ⟨rfl, b2⟩)
  have bz := bstep b2 (fresh_below w2 (.cells #[.int .u8 x.t.p, .int .u32 x.t.a, .int .u16 x.t.b, .int .u32 x.t.c, .int .u16 x.t.d, .int .i64 x.k, .int .u8 x.f, .bool x.q, .int .u8 x.l] 35))
  have nn := Cells.new w2 #[.int .u8 x.t.p, .int .u32 x.t.a, .int .u16 x.t.b, .int .u32 x.t.c, .int .u16 x.t.d, .int .i64 x.k, .int .u8 x.f, .bool x.q, .int .u8 x.l] 35
  have HZ := hide (Cells.below bz D0.out); have LW := hide (bstep BN.out bz)
  have y5 := nn.at_ 5
  clear bz b2 D0 BN nn CO
  generalize (w2.alloc (.cells #[.int .u8 x.t.p, .int .u32 x.t.a, .int .u16 x.t.b, .int .u32 x.t.c, .int .u16 x.t.d, .int .i64 x.k, .int .u8 x.f, .bool x.q, .int .u8 x.l] 35)) = w3 at *
  go_upto_region 7 with (go_at_call 74; (with_reducible refine (CP.out _).mono ?_); rintro e w4 ⟨rfl, b4⟩)
  have bz := bstep b4 (fresh_below w4 (.cells #[.int .u8 h.t, .int .u16 h.i, .bool h.f, .int .u8 h.l, .int .u8 h.p, .int .u32 h.s, .int .u32 h.d, .string h.o] 151))
  replace HZ := hide (Cells.below bz HZ.out); replace LW := hide (bstep LW.out bz)
  clear bz b4 y5 hr CP
  generalize (w4.alloc (.cells #[.int .u8 h.t, .int .u16 h.i, .bool h.f, .int .u8 h.l, .int .u8 h.p, .int .u32 h.s, .int .u32 h.d, .string h.o] 151)) = w5 at *
  have HW5 := hide (Cells.lt HZ.out)
  go_upto_region 8 with (go_at_call 136; (with_reducible refine (CM.out _).mono ?_); rintro e w6 ⟨rfl, b6⟩)
  have bz := bstep b6 (fresh_below w6 (.cells #[.int .u8 m.t, .int .u8 m.c, .int .u16 m.n, .string m.r, .string dt] 166))
  have nn := Cells.new w6 #[.int .u8 m.t, .int .u8 m.c, .int .u16 m.n, .string m.r, .string dt] 166
  replace HZ := hide (Cells.below bz HZ.out); replace LW := hide (bstep LW.out bz)
  have hgt : w.heap.size < w6.heap.size := by
    have h1 := Cells.lt HZ.out; have h2 := LW.out.size
    have h3 : (w6.alloc (.cells #[.int .u8 m.t, .int .u8 m.c, .int .u16 m.n, .string m.r, .string dt] 166)).heap.size = w6.heap.size + 1 := by simp
    have h4 := b6.size
    have h5 : w.heap.size < w5.heap.size := HW5.out
    omega
  clear bz b6 CM
  generalize w6.heap.size = g10 at nn ⊢ hgt
  generalize (w6.alloc (.cells #[.int .u8 m.t, .int .u8 m.c, .int .u16 m.n, .string m.r, .string dt] 166)) = w7 at *
  have N10 := hide nn
  have y4 := nn.at_ 4
  clear nn
  have cop := COP.out w7 LW.out
  unfold Opened at cop
  clear COP
  by_cases hwy : emWhy (L dt) = 0
  · simp only [hwy, if_true] at cop
    have COP := hide cop; have HWY := hide hwy
    clear cop hwy
    go_upto_region 9 with (go_at_call 137; (refine (COP.out).mono ?_); rintro e w8 ⟨B, rfl, hB, hE, b8⟩)
    have KM := hide (Cells.below b8 N10.out); have HZ8 := hide (Cells.below b8 HZ.out); have L8 := hide (bstep LW.out b8); have HE := hide hE; have HB := hide hB; have HSZ := hide LW.out.size; have HGW := hide (Cells.lt HZ.out)
    clear y4 hE hB b8 COP N10 HZ
    have hZl := Cells.lt HZ8.out
    refine wp_region_lit ?_
    refine wpList_load_all rfl 166 (.tmp 10) rfl KM.out (by rfl) _ Tryz.underlying166 rfl (by kernel_rfl) ?_
    (try simp only [Act.put, putT])
    refine wpList_plain rfl fun K hK => ?_; go_simp; refine hK _ _ ?_; clear hK K
    refine wpList_plain rfl fun K hK => ?_; go_simp; refine hK _ _ ?_; clear hK K
    refine wpList_store_all rfl 166 (.tmp 2) (.tmp 45) rfl (c' := #[.int .u8 m.t, .int .u8 m.c, .int .u16 m.n, .string m.r, .string dt]) HZ8.out (by rfl) (by rfl) (by kernel_rfl) rfl (by simp [Value.oneCell']) ?_
    intro W5 r5 o5 z5
    go_wp2_with fail
    (try simp only [Exit.inBlock, Exit.then])
    refine bodyPost_ret (res_cell_tmp2 Tryz.results80 r5 (by rfl) (by rfl) (by rfl) _ Tryz.underlying166 rfl (by kernel_rfl)) rfl ?_
    exact FIN0.out _ B HWY.out (Nat.le_trans HSZ.out HB.out) (Cells.only HE.out o5 (fun e => by have := HB.out; have := HGW.out; omega)) (L8.out.trans (o5.below (fun j e => by omega) L8.out.size))
  · simp only [hwy, if_false] at cop
    have COP := hide cop; have HWY := hide hwy
    clear cop hwy
    obtain ⟨r, hr⟩ : ∃ r, r = emWhy (L dt) := ⟨_, rfl⟩
    rw [← hr] at COP
    have HR := hide hr
    clear hr
    go_upto_region 9 with (go_at_call 137; (refine (COP.out).mono ?_); rintro e w8 ⟨rfl, b8⟩)
    have KM := hide (Cells.below b8 N10.out); have HZ8 := hide (Cells.below b8 HZ.out); have L8 := hide (bstep LW.out b8)
    clear y4 b8 COP N10 HZ
    refine wp_region_lit ?_
    refine wpList_load_all rfl 166 (.tmp 10) rfl KM.out (by rfl) _ Tryz.underlying166 rfl (by kernel_rfl) ?_
    (try simp only [Act.put, putT])
    refine wpList_plain rfl fun K hK => ?_; go_simp; refine hK _ _ ?_; clear hK K
    refine wpList_plain rfl fun K hK => ?_; go_simp; refine hK _ _ ?_; clear hK K
    refine wpList_store_all rfl 166 (.tmp 2) (.tmp 45) rfl (c' := #[.int .u8 m.t, .int .u8 m.c, .int .u16 m.n, .string m.r, .string dt]) HZ8.out (by rfl) (by rfl) (by kernel_rfl) rfl (by simp [Value.oneCell']) ?_
    intro W5 r5 o5 z5
    go_wp2_with fail
    (try simp only [Exit.inBlock, Exit.then])
    refine bodyPost_ret (res_cell_tmp2 Tryz.results80 r5 (by rfl) (by rfl) (by rfl) _ Tryz.underlying166 rfl (by kernel_rfl)) rfl ?_
    exact FIN1.out _ ⟨m.t, m.c, m.n, m.r, dt⟩ r HR.out.symm (by rw [HR.out]; exact HWY.out) (L8.out.trans (o5.below (fun j e => by omega) L8.out.size))
/-- between whom the packet goes that an error is about; none: it is about none -/
def inTup (s : ByteArray) : Tup := if emsWhy s = 0 then emTup (L (emData s)) else ⟨0, 0, 0, 0, 0⟩
set_option maxRecDepth 100000 in
set_option maxHeartbeats 8000000 in
theorem e_Inner (w : World) (s : ByteArray) (K0 : Kinds w) (hs : s.size ≤ 140737488351232) :
    Calls Tryz.prog 31 #[.string s] w (Ret (.tuple #[.agg #[.int .u8 (inTup s).p, .int .u32 (inTup s).a, .int .u16 (inTup s).b, .int .u32 (inTup s).c, .int .u16 (inTup s).d], .int .i64 (emsWhy s)]) w) := by
  have ca := fun W (hW : Below w.heap.size w W) => e_about W s (K0.below hW) hs
  unfold Abouts at ca
  unfold inTup
  by_cases h : emsWhy s = 0
  · rw [if_pos h]
    simp only [h, if_true] at ca ⊢
    obtain ⟨t, ht⟩ : ∃ t, t = emTup (L (emData s)) := ⟨_, rfl⟩
    rw [← ht] at ca ⊢
    generalize emAsk (L (emData s)) = q at *
    generalize ((emAt (L (emData s)) : Nat) : Int) = ee at *
    generalize emData s = dt at *
    obtain ⟨m, hm⟩ : ∃ m, m = msgOf (ipRest s) := ⟨_, rfl⟩
    rw [← hm] at ca
    have CA := hide ca
    clear ca ht hm K0 hs h
    go_enter Tryz.func31, Tryz.ntmps31
    have d0 := Cells.new w #[.int .u8 0, .int .u32 0, .int .u16 0, .int .u32 0, .int .u16 0] 33
    have bn := fresh_below w (.cells #[.int .u8 0, .int .u32 0, .int .u16 0, .int .u32 0, .int .u16 0] 33)
    have D0 := hide d0; have BN := hide bn
    clear d0 bn
    go_upto_region 1 with fail
    generalize (w.alloc (.cells #[.int .u8 0, .int .u32 0, .int .u16 0, .int .u32 0, .int .u16 0] 33)) = w1 at *
    go_upto_region 2 with (go_at_call 80; (refine (CA.out _ BN.out).mono ?_); rintro e w2 ⟨B, rfl, hB, hE, b2⟩)
    have bz := bstep b2 (fresh_below w2 (.cells #[.int .u8 m.t, .int .u8 m.c, .int .u16 m.n, .string m.r, .string m.d] 166))
    have HZ := hide (Cells.below bz D0.out); have LW := hide (bstep BN.out bz)
    have he := Cells.below (fresh_below w2 (.cells #[.int .u8 m.t, .int .u8 m.c, .int .u16 m.n, .string m.r, .string m.d] 166)) hE
    clear bz b2 D0 BN CA hE hB
    generalize (w2.alloc (.cells #[.int .u8 m.t, .int .u8 m.c, .int .u16 m.n, .string m.r, .string m.d] 166)) = w3 at *
    unfold emCells at he
    have y2 := he.at_ 2; have y3 := he.at_ 3; have y4 := he.at_ 4; have y5 := he.at_ 5; have y6 := he.at_ 6
    clear he
    go_upto_region 4 with fail
    refine wp_region_lit ?_
    refine wpList_plain rfl fun K hK => ?_; go_simp; refine hK _ _ ?_; clear hK K
    refine wpList_plain rfl fun K hK => ?_; go_simp; refine hK _ _ ?_; clear hK K
    refine wpList_plain rfl fun K hK => ?_; go_simp; refine hK _ _ ?_; clear hK K
    refine wpList_plain rfl fun K hK => ?_; go_simp; refine hK _ _ ?_; clear hK K
    refine wpList_store_all rfl 33 (.tmp 2) (.tmp 20) rfl (c' := #[.int .u8 t.p, .int .u32 t.a, .int .u16 t.b, .int .u32 t.c, .int .u16 t.d]) HZ.out (by rfl) (by rfl) (by kernel_rfl) rfl (by simp [Value.oneCell']) ?_
    intro W5 r5 o5 z5
    go_wp2_with fail
    (try simp only [Exit.inBlock, Exit.then])
    refine bodyPost_ret (res_cell_tmp Tryz.results31 r5 (by rfl) (by rfl) _ Tryz.underlying33 rfl (by kernel_rfl)) rfl ?_
    exact ⟨rfl, LW.out.trans (o5.below (fun j e => by omega) LW.out.size)⟩
  · rw [if_neg h]
    simp only [h, if_false] at ca
    have hr : (emsWhy s != 0) = true := by simpa using h
    generalize emsWhy s = r at *
    have CA := hide ca
    clear ca K0 hs h
    go_enter Tryz.func31, Tryz.ntmps31
    have d0 := Cells.new w #[.int .u8 0, .int .u32 0, .int .u16 0, .int .u32 0, .int .u16 0] 33
    have bn := fresh_below w (.cells #[.int .u8 0, .int .u32 0, .int .u16 0, .int .u32 0, .int .u16 0] 33)
    have D0 := hide d0; have BN := hide bn
    clear d0 bn
    go_upto_region 1 with fail
    generalize (w.alloc (.cells #[.int .u8 0, .int .u32 0, .int .u16 0, .int .u32 0, .int .u16 0] 33)) = w1 at *
    go_upto_region 3 with (go_at_call 80; (refine (CA.out _ BN.out).mono ?_); rintro e w2 ⟨m, rfl, b2⟩)
    have bz := bstep b2 (fresh_below w2 (.cells #[.int .u8 m.t, .int .u8 m.c, .int .u16 m.n, .string m.r, .string m.d] 166))
    have HZ := hide (Cells.below bz D0.out); have LW := hide (bstep BN.out bz)
    clear bz b2 D0 BN CA hr
    generalize (w2.alloc (.cells #[.int .u8 m.t, .int .u8 m.c, .int .u16 m.n, .string m.r, .string m.d] 166)) = w3 at *
    refine wp_region_lit ?_
    refine wpList_plain rfl fun K hK => ?_; go_simp; refine hK _ _ ?_; clear hK K
    refine wpList_plain rfl fun K hK => ?_; go_simp; refine hK _ _ ?_; clear hK K
    refine wpList_store_all rfl 33 (.tmp 2) (.tmp 15) rfl (c' := #[.int .u8 0, .int .u32 0, .int .u16 0, .int .u32 0, .int .u16 0]) HZ.out (by rfl) (by rfl) (by kernel_rfl) rfl (by simp [Value.oneCell']) ?_
    intro W5 r5 o5 z5
    go_wp2_with fail
    (try simp only [Exit.inBlock, Exit.then])
    refine bodyPost_ret (res_cell_tmp Tryz.results31 r5 (by rfl) (by rfl) _ Tryz.underlying33 rfl (by kernel_rfl)) rfl ?_
    exact ⟨rfl, LW.out.trans (o5.below (fun j e => by omega) LW.out.size)⟩
end Go.Proofs.YtilfcikhipadpaaGreatDoor
end

section
/- The document's answer for rewrite (porterref09): With, Word, Pair, Query, over this program. -/
set_option linter.unusedVariables false
set_option linter.unusedSimpArgs false
namespace Go.Proofs.YtilfcikhipadpaaGreatDoor
open Go.RowKit
attribute [local go_sem] Oper.semAt_some

end Go.Proofs.YtilfcikhipadpaaGreatDoor
end

section
/- The document's answer for rewrite (porterref09): Head, over this program. -/
set_option linter.unusedVariables false
set_option linter.unusedSimpArgs false
namespace Go.Proofs.YtilfcikhipadpaaGreatDoor
open Go.RowKit
attribute [local go_sem] Oper.semAt_some

end Go.Proofs.YtilfcikhipadpaaGreatDoor
end

section
/- The document's answer for rewrite (porterref09): Head and Ports, over this program. -/
set_option linter.unusedVariables false
set_option linter.unusedSimpArgs false
namespace Go.Proofs.YtilfcikhipadpaaGreatDoor
open Go.RowKit
attribute [local go_sem] Oper.semAt_some

end Go.Proofs.YtilfcikhipadpaaGreatDoor
end
