/- Several texts of this claim, one behind the other. -/
import Derived.Test.YtilfcikhipadpaaGreatDoorK29c

section
/- icmp over this program: Parse of what is one. -/
set_option linter.unusedVariables false
namespace Go.Proofs.YtilfcikhipadpaaGreatDoor
open Go.RowKit
attribute [local go_sem] Oper.semAt_some

set_option maxRecDepth 100000 in
set_option maxHeartbeats 4000000 in
theorem i_Parse_yes (s : ByteArray) (w : World) (hs : s.size ≤ 140737488351232) (h : 8 ≤ s.size) :
    Calls Tryz.prog 136 #[.string s] w (Ret (.tuple #[.agg #[.int .u8 (msgOf s).t, .int .u8 (msgOf s).c, .int .u16 (msgOf s).n, .string (msgOf s).r, .string (msgOf s).d], .bool true]) w) := by
  have c1 := fun w => Get16 s 2 w (reach_max hs) (by omega)
  have hh : has s.size 2 2 = true := has_true (by omega) (by omega)
  have hn : get16 (L s) 2 = (msgOf s).n := by rw [show (2 : Int) = ((2 : Nat) : Int) from rfl, get16_nat (by rw [L_length]; omega)]; rfl
  rw [hh, hn] at c1
  have e0 : (((s[0]'(by omega)).toNat : Nat) : Int) = (msgOf s).t := by rw [getElem_L s 0 (by omega)]; rfl
  have e1 : (((s[1]'(by omega)).toNat : Nat) : Int) = (msgOf s).c := by rw [getElem_L s 1 (by omega)]; rfl
  have e2 : s.extract 4 8 = (msgOf s).r := rfl
  have e3 : s.extract 8 s.size = (msgOf s).d := rfl
  obtain ⟨m, hm⟩ : ∃ m, m = msgOf s := ⟨_, rfl⟩
  rw [← hm] at c1 e0 e1 e2 e3 ⊢
  have q2 : ¬ (s.size : Int) < 8 := by omega
  have i1 : (4 : Int) ≤ (s.size : Int) := by omega
  have i2 : (8 : Int) ≤ (s.size : Int) := by omega
  have i3 : (1 : Int) < (s.size : Int) := by omega
  have i4 : (0 : Int) < (s.size : Int) := by omega
  have i5 : 0 < s.size := by omega
  have i6 : 1 < s.size := by omega
  have C1 := hide c1; have E0 := hide e0; have E1 := hide e1; have E2 := hide e2; have E3 := hide e3
  clear c1 e0 e1 e2 e3 hh hn hm
  go_enter Tryz.func136, Tryz.ntmps136
  have d0 := Cells.new w #[.int .u8 0, .int .u8 0, .int .u16 0, .string { data := #[] }, .string { data := #[] }] 166
  go_wp2_with fail
  (with_reducible refine (C1.out _).mono ?_)
  rintro e w1 ⟨rfl, b1⟩
  replace d0 := Cells.up d0 (by (repeat' (first | with_reducible exact Below.refl _ _ | with_reducible refine bstep ?_ (fresh_below _ _) | with_reducible refine Below.drew ?_))) b1
  replace b1 : Below w.heap.size w w1 := by (refine bstep ?_ b1); (repeat' (first | with_reducible exact Below.refl _ _ | with_reducible refine Below.setCell ?_ (by first | exact Nat.le_refl _ | (dsimp only; omega)) _ | with_reducible refine bstep ?_ (fresh_below _ _) | with_reducible refine Below.drew ?_))
  have z1 : w.heap.size ≤ w1.heap.size := b1.size
  go_wp2_with fail
  have d1 : Cells w1.drew w.heap.size #[.int .u8 0, .int .u8 0, .int .u16 0, .string { data := #[] }, .string { data := #[] }] 166 := d0
  have b2 := b1.drew
  go_still_tail 10, (by kernel_rfl)
  change wpList _ _ _ _ _ w1.drew
  generalize w1.drew = w2 at *
  obtain ⟨xd1_0, xd1_1, xd1_2, xd1_3, xd1_4⟩ := d1.x5
  obtain ⟨yd1_0, yd1_1, yd1_2, yd1_3, yd1_4⟩ := d1.y5
  go_wp2
  (try simp only [Exit.inBlock, Exit.then]); refine bodyPost_ret (by simp [results, Tryz.results136, go_sem, *]; try rfl) rfl ?_
  exact ⟨by rw [← E0.out, ← E1.out, ← E2.out, ← E3.out], (by (repeat' (first | exact b2 | with_reducible exact Below.refl _ _ | with_reducible refine Below.setCell ?_ (by first | exact Nat.le_refl _ | (dsimp only; omega)) _ | with_reducible refine bstep ?_ bq0 | with_reducible refine bstep ?_ bq1 | with_reducible refine bstep ?_ bq2 | with_reducible refine bstep ?_ bq3 | with_reducible refine bstep ?_ bq4 | with_reducible refine bstep ?_ bq5 | with_reducible refine bstep ?_ (fresh_below _ _) | with_reducible refine Below.drew ?_)))⟩

end Go.Proofs.YtilfcikhipadpaaGreatDoor
end

section
/- What is seen of a packet, the program's and the document's. -/
set_option linter.unusedVariables false
set_option linter.unusedSimpArgs false
namespace Go.Proofs.YtilfcikhipadpaaGreatDoor
open Go.RowKit Go.Lib Rx
/-! ### by what stands in the packet -/
/-- what stands in a datagram, as both tell -/
theorem udp_any (l : ByteArray) (hs : l.size ≤ 140737488351232) : ∃ (u0 u1 u2 u3 : Int) (ur : ByteArray), (udpIs l = true → u0 = get16 (L l) 0 ∧ u1 = get16 (L l) 2) ∧ (∀ W, Calls Tryz.prog 181 #[.string l] W (Ret (.tuple #[.agg #[.int .u16 u0, .int .u16 u1, .int .u16 u2, .int .u16 u3], .string ur, .bool (udpIs l)]) W)) ∧
    ∀ W, Calls Tryz.prog 83 #[.string l] W (Ret (.tuple #[.agg #[.int .u16 u0, .int .u16 u1, .int .u16 u2, .int .u16 u3], .string ur, .bool (udpIs l)]) W) := by
  have hm : l.size ≤ maxLen := by unfold maxLen; omega
  cases h : udpIs l
  · exact ⟨0, 0, 0, 0, S [], (fun h => by cases h), fun W => udp_Parse_no l W hm h, fun W => r5_Parse_no l W hm h⟩
  · exact ⟨_, _, _, _, _, (fun _ => ⟨rfl, rfl⟩), fun W => udp_Parse_yes l W hm h, fun W => r5_Parse_yes l W hm h⟩
theorem msg_any (l : ByteArray) (hs : l.size ≤ 140737488351232) : ∃ m : Msg, (8 ≤ l.size → m = msgOf l) ∧ m.Ok ∧ (∀ W, Calls Tryz.prog 136 #[.string l] W (Ret (.tuple #[.agg #[.int .u8 m.t, .int .u8 m.c, .int .u16 m.n, .string m.r, .string m.d], .bool (decide (8 ≤ l.size))]) W)) ∧
    ∀ W, Calls Tryz.prog 84 #[.string l] W (Ret (.tuple #[.agg #[.int .u8 m.t, .int .u8 m.c, .int .u16 m.n, .string m.r, .string m.d], .bool (decide (8 ≤ l.size))]) W) := by
  by_cases h : 8 ≤ l.size
  · rw [decide_eq_true h]
    exact ⟨msgOf l, (fun _ => rfl), msgOf_ok hs, fun W => i_Parse_yes l W hs h, fun W => r7_Parse_yes l W hs h⟩
  · rw [decide_eq_false h]
    exact ⟨⟨0, 0, 0, { data := #[] }, { data := #[] }⟩, (fun k => absurd k h), ⟨by decide, by decide, by decide, by decide, by decide⟩, fun W => i_Parse_no l W (by omega), fun W => r7_Parse_no l W (by omega)⟩
/-- the value of both -/
def tuV (h : Hd) (l : ByteArray) (r : Int) : Value := if r = 0 then .tuple #[.agg (if loadWhy h.p l = 0 then loadSeen h l else seenNone).cells, .int .i64 (loadWhy h.p l)] else .tuple #[.agg seenNone.cells, .int .i64 r]
theorem tuV_is (s : ByteArray) : tuV (hdOf s) (ipRest s) (ipWhy s) = .tuple #[.agg (seenOf s).cells, .int .i64 (seenWhy s)] := by
  unfold tuV seenOf seenWhy
  by_cases h : ipWhy s = 0
  · rw [if_pos h, if_pos h]
  · rw [if_neg h, if_neg h, if_neg h]
theorem tu_v (h : Hd) (l : ByteArray) (r u0 u1 u2 u3 : Int) (m : Msg) (hu : udpIs l = true → u0 = get16 (L l) 0 ∧ u1 = get16 (L l) 2) (hm : 8 ≤ l.size → m = msgOf l) :
    tu_Of1_v h.t h.i h.l h.p h.s h.d r (segRes l).s (segRes l).d (segRes l).q (segRes l).k (segRes l).l (segRes l).f (segRes l).w (segRes l).n (segRes l).u u0 u1 u2 u3 m.t m.c m.n (get16 (L m.r) 0) h.f (tcpIs l) (udpIs l) (decide (8 ≤ l.size)) (qAsk m) (qIs m) (qErr m) = tuV h l r ∧
    o_Of1_v h.t h.i h.l h.p h.s h.d r (segRes l).s (segRes l).d (segRes l).q (segRes l).k (segRes l).l (segRes l).f (segRes l).w (segRes l).n (segRes l).u u0 u1 u2 u3 m.t m.c m.n (get16 (L m.r) 0) h.f (tcpIs l) (udpIs l) (decide (8 ≤ l.size)) (qAsk m) (qIs m) (qErr m) = tuV h l r := by
  obtain ⟨h0, h1, h2, h3, h4, h5, h6, h7⟩ := h
  unfold tu_Of1_v o_Of1_v tuV loadWhy loadSeen
  simp only
  have ka : qAsk m = true → qIs m = true := fun h => by unfold qAsk at h; unfold qIs; simp at h ⊢; exact ⟨h.1, .inl h.2⟩
  have hg : tcpIs l = true → segRes l = segOf l := fun h => by unfold segRes; rw [if_pos h]
  by_cases hr : r = 0
  · subst hr
    by_cases p6 : h4 = 6
    · subst p6
      cases ht : tcpIs l
      · simp [Seen.cells, seenNone]
      · rw [hg ht]
        by_cases hk : bits .and .u8 (segOf l).f 23 = 2 <;> simp [hk, Seen.cells]
    by_cases p17 : h4 = 17
    · subst p17
      cases ht : udpIs l
      · simp [Seen.cells, seenNone]
      · obtain ⟨rfl, rfl⟩ := hu ht
        simp [Seen.cells]
    by_cases p1 : h4 = 1
    · subst p1
      by_cases h8 : 8 ≤ l.size
      · rw [hm h8] at *
        have h8' : ¬ l.size < 8 := by omega
        simp only [if_neg h8']
        cases qa : qAsk (msgOf l) <;> cases qi : qIs (msgOf l) <;> cases qe : qErr (msgOf l) <;> simp_all [Seen.cells, seenNone]
      · have h8' : l.size < 8 := by omega
        simp [h8, h8', Seen.cells, seenNone]
    · simp [p6, p17, p1, Seen.cells, seenNone]
  · have : (r == 0) = false := by simpa using hr
    simp [this, hr, Seen.cells, seenNone]
theorem tu_Of (s : ByteArray) (w : World) (K0 : Kinds w) (hs : s.size ≤ 140737488351232) : Calls Tryz.prog 27 #[.string s] w (Ret (.tuple #[.agg (seenOf s).cells, .int .i64 (seenWhy s)]) w) := by
  have hr : (ipRest s).size ≤ 140737488351232 := by
    unfold ipRest; split
    · rw [ByteArray.size_extract]; omega
    · decide
  obtain ⟨u0, u1, u2, u3, ur, hu, c3, _⟩ := udp_any (ipRest s) hr
  obtain ⟨m, hm, mo, c4, _⟩ := msg_any (ipRest s) hr
  have k := tu_Of1 s w _ _ _ _ _ _ _ _ _ _ _ _ _ _ _ _ _ _ _ _ _ _ _ _ _ _ _ _ _ _ _ _ _ _ _ _ _ _ (fun W _ => ip_Parse s W hs) (fun W _ => t_Parse (ipRest s) W hr) (fun W _ => c3 W) (fun W _ => c4 W) (fun W b => i_Query m W mo (K0.below b)) (fun W _ => i_ID m W mo) (fun W b => i_Error m W mo (K0.below b))
  rw [(tu_v (hdRes s) (ipRest s) (ipWhy s) u0 u1 u2 u3 m hu hm).1] at k
  rwa [show tuV (hdRes s) (ipRest s) (ipWhy s) = .tuple #[.agg (seenOf s).cells, .int .i64 (seenWhy s)] by
    rw [← tuV_is]
    unfold tuV hdRes
    split <;> rfl] at k
end Go.Proofs.YtilfcikhipadpaaGreatDoor
end

section
/- rewrite: a segment, or a datagram, changed, over this program. -/
set_option linter.unusedVariables false
set_option linter.unusedSimpArgs false
namespace Go.Proofs.YtilfcikhipadpaaGreatDoor
open Go.RowKit
attribute [local go_sem] Oper.semAt_some

def flowSum (l ips : List UInt8) (a b c d : Int) (k : Nat) : Int := updates (be16 l k) (ips ++ l.take 4) (ipsOf a c ++ putW [b, d])
/-- the sum that is laid: of a datagram that has none, none; none of 0 -/
def flowFix (k : Nat) (was n : Int) : Int := if k = 6 then (if was = 0 then 0 else if n = 0 then 65535 else n) else n
/-- a segment, or a datagram, changed -/
def flowNew (l ips : List UInt8) (a b c d : Int) (k : Nat) : List UInt8 := lay (putW [b, d] ++ l.drop 4) k (flowFix k (be16 l k) (flowSum l ips a b c d k))
theorem flowSum_bd (l ips : List UInt8) (a b c d : Int) (k : Nat) : 0 ≤ flowSum l ips a b c d k ∧ flowSum l ips a b c d k ≤ 65535 := updates_bd (be16_bd _ _)
theorem flowFix_bd {k : Nat} {was n : Int} (h : 0 ≤ n ∧ n ≤ 65535) : 0 ≤ flowFix k was n ∧ flowFix k was n ≤ 65535 := by
  unfold flowFix; split
  · split
    · omega
    · split <;> omega
  · exact h

set_option maxRecDepth 100000 in
set_option maxHeartbeats 4000000 in
theorem rw_flow_t (a b c d : Int) (l ips : ByteArray) (v n0 nF : Int) (pr p1 p2 ip t1 pn out : ByteArray) (w : World) (hl : l.size ≤ 140737488351232) (h20 : 18 ≤ l.size) (hpr : pr.size = 4)
    (f1 : ∀ W (A : Option Addr), Row W W.heap.size A 2 (ints16 [b, d]) → Calls Tryz.prog 111 #[.slice A 2 2] W (Ret (.string pr) W))
    (f2 : ∀ W, Calls Tryz.prog 155 #[.string l, .int .i64 16] W (Ret (.int .u16 v) W))
    (f3 : ∀ W (A : Option Addr), Row W W.heap.size A 2 [.string ips, .string (l.extract 0 4)] → Calls Tryz.prog 154 #[.slice A 2 2] W (Ret (.string p1) W))
    (f4 : ∀ W, Calls Tryz.prog 156 #[.agg #[.int .u32 a, .int .u16 b, .int .u32 c, .int .u16 d]] W (Ret (.string ip) W))
    (f5 : ∀ W (A : Option Addr), Row W W.heap.size A 2 [.string ip, .string pr] → Calls Tryz.prog 154 #[.slice A 2 2] W (Ret (.string p2) W))
    (f6 : ∀ W, Calls Tryz.prog 109 #[.int .u16 v, .string p1, .string p2] W (Ret (.int .u16 n0) W))
    (f7 : ∀ W, Calls Tryz.prog 197 #[.string l, .int .i64 0, .string pr] W (Ret (.string t1) W))
    (f8 : ∀ W, Calls Tryz.prog 157 #[.int .u16 nF] W (Ret (.string pn) W))
    (f9 : ∀ W, Calls Tryz.prog 197 #[.string t1, .int .i64 16, .string pn] W (Ret (.string out) W))
    (hF : nF = n0) :
    Calls Tryz.prog 158 #[.agg #[.int .u32 a, .int .u16 b, .int .u32 c, .int .u16 d], .string l, .string ips, .int .i64 16] w (Ret (.string out) w) := by
  subst hF
  have i1 : (4 : Int) ≤ (l.size : Int) := by omega
  have F1 := hide f1; have F2 := hide f2; have F3 := hide f3; have F4 := hide f4; have F5 := hide f5; have F6 := hide f6; have F7 := hide f7; have F8 := hide f8; have F9 := hide f9
  clear f1 f2 f3 f4 f5 f6 f7 f8 f9
  go_enter Tryz.func158, Tryz.ntmps158
  have d0 := Cells.new w #[.int .u32 a, .int .u16 b, .int .u32 c, .int .u16 d] 136
  go_wp2_with fail
  (with_reducible refine Calls.mono (F1.out _ _ (Row.freshAt _ _ _ _ _ _ (by simp) rfl rfl)) ?_)
  rintro e w1 ⟨rfl, b1⟩
  have d1 := Cells.up d0 (fresh_below _ _) b1
  replace b1 : Below w.heap.size w w1 := bstep (bstep (fresh_below _ _) (fresh_below _ _)) b1
  clear d0
  go_wp2_with fail
  (with_reducible refine (F2.out _).mono ?_)
  rintro e w2 ⟨rfl, b2⟩
  have d2 := Cells.below b2 d1
  replace b2 : Below w.heap.size w w2 := bstep b1 b2
  clear d1 b1
  go_wp2_with fail
  have SK := hide (fun (zX zY : World) (zh : (Below w.heap.size w zX ∧ zX.cell? ⟨w.heap.size, 0, none⟩ = some (.int .u32 a) ∧ zX.cell? ⟨w.heap.size, 1, none⟩ = some (.int .u16 b) ∧ zX.cell? ⟨w.heap.size, 2, none⟩ = some (.int .u32 c) ∧ zX.cell? ⟨w.heap.size, 3, none⟩ = some (.int .u16 d) ∧ True)) (zb : Below zX.heap.size zX zY) => (show (Below w.heap.size w zY ∧ zY.cell? ⟨w.heap.size, 0, none⟩ = some (.int .u32 a) ∧ zY.cell? ⟨w.heap.size, 1, none⟩ = some (.int .u16 b) ∧ zY.cell? ⟨w.heap.size, 2, none⟩ = some (.int .u32 c) ∧ zY.cell? ⟨w.heap.size, 3, none⟩ = some (.int .u16 d) ∧ True) from ⟨bstep zh.1 zb, cellAt zb zh.2.1, cellAt zb zh.2.2.1, cellAt zb zh.2.2.2.1, cellAt zb zh.2.2.2.2.1, trivial⟩))
  have FS := hide (fun (zX : World) (zh : (Below w.heap.size w zX ∧ zX.cell? ⟨w.heap.size, 0, none⟩ = some (.int .u32 a) ∧ zX.cell? ⟨w.heap.size, 1, none⟩ = some (.int .u16 b) ∧ zX.cell? ⟨w.heap.size, 2, none⟩ = some (.int .u32 c) ∧ zX.cell? ⟨w.heap.size, 3, none⟩ = some (.int .u16 d) ∧ True)) => zh.1)
  have GS := hide (fun (zX : World) (zh : (Below w.heap.size w zX ∧ zX.cell? ⟨w.heap.size, 0, none⟩ = some (.int .u32 a) ∧ zX.cell? ⟨w.heap.size, 1, none⟩ = some (.int .u16 b) ∧ zX.cell? ⟨w.heap.size, 2, none⟩ = some (.int .u32 c) ∧ zX.cell? ⟨w.heap.size, 3, none⟩ = some (.int .u16 d) ∧ True)) => zh)
  have hS0 : (Below w.heap.size w w2 ∧ w2.cell? ⟨w.heap.size, 0, none⟩ = some (.int .u32 a) ∧ w2.cell? ⟨w.heap.size, 1, none⟩ = some (.int .u16 b) ∧ w2.cell? ⟨w.heap.size, 2, none⟩ = some (.int .u32 c) ∧ w2.cell? ⟨w.heap.size, 3, none⟩ = some (.int .u16 d) ∧ True) := ⟨(by (repeat' (first | with_reducible exact b2 | with_reducible exact Below.refl _ _ | with_reducible refine Below.setCell ?_ (by first | exact Nat.le_refl _ | (dsimp only; omega)) _ | with_reducible refine bstep ?_ (fresh_below _ _) | with_reducible refine Below.drew ?_))), d2.at_ 0, d2.at_ 1, d2.at_ 2, d2.at_ 3, trivial⟩
  go_region_held_law (fun w' => (Below w.heap.size w w' ∧ w'.cell? ⟨w.heap.size, 0, none⟩ = some (.int .u32 a) ∧ w'.cell? ⟨w.heap.size, 1, none⟩ = some (.int .u16 b) ∧ w'.cell? ⟨w.heap.size, 2, none⟩ = some (.int .u32 c) ∧ w'.cell? ⟨w.heap.size, 3, none⟩ = some (.int .u16 d) ∧ True)) (first | assumption | exact SK.out _ _ hS0 (Below.refl _ _).drew | exact SK.out _ _ hS0 (fresh_below _ _).drew | exact SK.out _ _ (by assumption) (fresh_below _ _) | (refine SK.out _ _ ?_ (by assumption); assumption))
    (first | (go_at_call 154; (with_reducible refine Calls.mono (F3.out _ _ ?_) ?_); (focus ((repeat' (first | with_reducible refine Row.afterdraw ?_ | with_reducible exact Row.freshAt _ _ _ _ _ _ (by first | (simp; done) | fail) rfl rfl | (with_reducible refine Row.rise ?_ (fresh_below _ _)) | (with_reducible refine Row.rise ?_ (by with_reducible assumption)))); (first | done | fail))); rintro e wq ⟨rfl, bq⟩) | (go_at_call 154; (with_reducible refine Calls.mono (F5.out _ _ ?_) ?_); (focus ((repeat' (first | with_reducible refine Row.afterdraw ?_ | with_reducible exact Row.freshAt _ _ _ _ _ _ (by first | (simp; done) | fail) rfl rfl | (with_reducible refine Row.rise ?_ (fresh_below _ _)) | (with_reducible refine Row.rise ?_ (by with_reducible assumption)))); (first | done | fail))); rintro e wq ⟨rfl, bq⟩) | (go_at_call 156; (with_reducible refine (F4.out _).mono ?_); rintro e wq ⟨rfl, bq⟩) | (go_at_call 109; (with_reducible refine (F6.out _).mono ?_); rintro e wq ⟨rfl, bq⟩))
  all_goals
    have gs := GS.out _ (by assumption)
    have gb : Below w.heap.size w wq := gs.1
    clear SK FS GS hS0 gs
    obtain ⟨w3, rfl⟩ : ∃ W : World, W = wq := ⟨_, rfl⟩
    have b3 := gb
    go_wp2_with fail
    (with_reducible refine (F7.out _).mono ?_)
    rintro e w4 ⟨rfl, b4⟩
    replace b4 : Below w.heap.size w w4 := bstep b3 b4
    go_wp2_with fail
    (with_reducible refine (F8.out _).mono ?_)
    rintro e w5 ⟨rfl, b5⟩
    replace b5 : Below w.heap.size w w5 := bstep b4 b5
    go_wp2_with fail
    (with_reducible refine (F9.out _).mono ?_)
    rintro e w6 ⟨rfl, b6⟩
    replace b6 : Below w.heap.size w w6 := bstep b5 b6
    go_wp2_with fail
    go_ret
    exact ⟨rfl, b6⟩

set_option maxRecDepth 100000 in
set_option maxHeartbeats 4000000 in
theorem rw_flow_u0 (a b c d : Int) (l ips : ByteArray) (v n0 nF : Int) (pr p1 p2 ip t1 pn out : ByteArray) (w : World) (hl : l.size ≤ 140737488351232) (h20 : 8 ≤ l.size) (hpr : pr.size = 4)
    (f1 : ∀ W (A : Option Addr), Row W W.heap.size A 2 (ints16 [b, d]) → Calls Tryz.prog 111 #[.slice A 2 2] W (Ret (.string pr) W))
    (f2 : ∀ W, Calls Tryz.prog 155 #[.string l, .int .i64 6] W (Ret (.int .u16 v) W))
    (f3 : ∀ W (A : Option Addr), Row W W.heap.size A 2 [.string ips, .string (l.extract 0 4)] → Calls Tryz.prog 154 #[.slice A 2 2] W (Ret (.string p1) W))
    (f4 : ∀ W, Calls Tryz.prog 156 #[.agg #[.int .u32 a, .int .u16 b, .int .u32 c, .int .u16 d]] W (Ret (.string ip) W))
    (f5 : ∀ W (A : Option Addr), Row W W.heap.size A 2 [.string ip, .string pr] → Calls Tryz.prog 154 #[.slice A 2 2] W (Ret (.string p2) W))
    (f6 : ∀ W, Calls Tryz.prog 109 #[.int .u16 v, .string p1, .string p2] W (Ret (.int .u16 n0) W))
    (f7 : ∀ W, Calls Tryz.prog 197 #[.string l, .int .i64 0, .string pr] W (Ret (.string t1) W))
    (f8 : ∀ W, Calls Tryz.prog 157 #[.int .u16 nF] W (Ret (.string pn) W))
    (f9 : ∀ W, Calls Tryz.prog 197 #[.string t1, .int .i64 6, .string pn] W (Ret (.string out) W))
    (hv : v = 0) (hF : nF = 0) :
    Calls Tryz.prog 158 #[.agg #[.int .u32 a, .int .u16 b, .int .u32 c, .int .u16 d], .string l, .string ips, .int .i64 6] w (Ret (.string out) w) := by
  subst hF; subst hv
  have i1 : (4 : Int) ≤ (l.size : Int) := by omega
  have F1 := hide f1; have F2 := hide f2; have F3 := hide f3; have F4 := hide f4; have F5 := hide f5; have F6 := hide f6; have F7 := hide f7; have F8 := hide f8; have F9 := hide f9
  clear f1 f2 f3 f4 f5 f6 f7 f8 f9
  go_enter Tryz.func158, Tryz.ntmps158
  have d0 := Cells.new w #[.int .u32 a, .int .u16 b, .int .u32 c, .int .u16 d] 136
  go_wp2_with fail
  (with_reducible refine Calls.mono (F1.out _ _ (Row.freshAt _ _ _ _ _ _ (by simp) rfl rfl)) ?_)
  rintro e w1 ⟨rfl, b1⟩
  have d1 := Cells.up d0 (fresh_below _ _) b1
  replace b1 : Below w.heap.size w w1 := bstep (bstep (fresh_below _ _) (fresh_below _ _)) b1
  clear d0
  go_wp2_with fail
  (with_reducible refine (F2.out _).mono ?_)
  rintro e w2 ⟨rfl, b2⟩
  have d2 := Cells.below b2 d1
  replace b2 : Below w.heap.size w w2 := bstep b1 b2
  clear d1 b1
  go_wp2_with fail
  have SK := hide (fun (zX zY : World) (zh : (Below w.heap.size w zX ∧ zX.cell? ⟨w.heap.size, 0, none⟩ = some (.int .u32 a) ∧ zX.cell? ⟨w.heap.size, 1, none⟩ = some (.int .u16 b) ∧ zX.cell? ⟨w.heap.size, 2, none⟩ = some (.int .u32 c) ∧ zX.cell? ⟨w.heap.size, 3, none⟩ = some (.int .u16 d) ∧ True)) (zb : Below zX.heap.size zX zY) => (show (Below w.heap.size w zY ∧ zY.cell? ⟨w.heap.size, 0, none⟩ = some (.int .u32 a) ∧ zY.cell? ⟨w.heap.size, 1, none⟩ = some (.int .u16 b) ∧ zY.cell? ⟨w.heap.size, 2, none⟩ = some (.int .u32 c) ∧ zY.cell? ⟨w.heap.size, 3, none⟩ = some (.int .u16 d) ∧ True) from ⟨bstep zh.1 zb, cellAt zb zh.2.1, cellAt zb zh.2.2.1, cellAt zb zh.2.2.2.1, cellAt zb zh.2.2.2.2.1, trivial⟩))
  have FS := hide (fun (zX : World) (zh : (Below w.heap.size w zX ∧ zX.cell? ⟨w.heap.size, 0, none⟩ = some (.int .u32 a) ∧ zX.cell? ⟨w.heap.size, 1, none⟩ = some (.int .u16 b) ∧ zX.cell? ⟨w.heap.size, 2, none⟩ = some (.int .u32 c) ∧ zX.cell? ⟨w.heap.size, 3, none⟩ = some (.int .u16 d) ∧ True)) => zh.1)
  have GS := hide (fun (zX : World) (zh : (Below w.heap.size w zX ∧ zX.cell? ⟨w.heap.size, 0, none⟩ = some (.int .u32 a) ∧ zX.cell? ⟨w.heap.size, 1, none⟩ = some (.int .u16 b) ∧ zX.cell? ⟨w.heap.size, 2, none⟩ = some (.int .u32 c) ∧ zX.cell? ⟨w.heap.size, 3, none⟩ = some (.int .u16 d) ∧ True)) => zh)
  have hS0 : (Below w.heap.size w w2 ∧ w2.cell? ⟨w.heap.size, 0, none⟩ = some (.int .u32 a) ∧ w2.cell? ⟨w.heap.size, 1, none⟩ = some (.int .u16 b) ∧ w2.cell? ⟨w.heap.size, 2, none⟩ = some (.int .u32 c) ∧ w2.cell? ⟨w.heap.size, 3, none⟩ = some (.int .u16 d) ∧ True) := ⟨(by (repeat' (first | with_reducible exact b2 | with_reducible exact Below.refl _ _ | with_reducible refine Below.setCell ?_ (by first | exact Nat.le_refl _ | (dsimp only; omega)) _ | with_reducible refine bstep ?_ (fresh_below _ _) | with_reducible refine Below.drew ?_))), d2.at_ 0, d2.at_ 1, d2.at_ 2, d2.at_ 3, trivial⟩
  go_region_held_law (fun w' => (Below w.heap.size w w' ∧ w'.cell? ⟨w.heap.size, 0, none⟩ = some (.int .u32 a) ∧ w'.cell? ⟨w.heap.size, 1, none⟩ = some (.int .u16 b) ∧ w'.cell? ⟨w.heap.size, 2, none⟩ = some (.int .u32 c) ∧ w'.cell? ⟨w.heap.size, 3, none⟩ = some (.int .u16 d) ∧ True)) (first | assumption | exact SK.out _ _ hS0 (Below.refl _ _).drew | exact SK.out _ _ hS0 (fresh_below _ _).drew | exact SK.out _ _ (by assumption) (fresh_below _ _) | (refine SK.out _ _ ?_ (by assumption); assumption))
    (first | (go_at_call 154; (with_reducible refine Calls.mono (F3.out _ _ ?_) ?_); (focus ((repeat' (first | with_reducible refine Row.afterdraw ?_ | with_reducible exact Row.freshAt _ _ _ _ _ _ (by first | (simp; done) | fail) rfl rfl | (with_reducible refine Row.rise ?_ (fresh_below _ _)) | (with_reducible refine Row.rise ?_ (by with_reducible assumption)))); (first | done | fail))); rintro e wq ⟨rfl, bq⟩) | (go_at_call 154; (with_reducible refine Calls.mono (F5.out _ _ ?_) ?_); (focus ((repeat' (first | with_reducible refine Row.afterdraw ?_ | with_reducible exact Row.freshAt _ _ _ _ _ _ (by first | (simp; done) | fail) rfl rfl | (with_reducible refine Row.rise ?_ (fresh_below _ _)) | (with_reducible refine Row.rise ?_ (by with_reducible assumption)))); (first | done | fail))); rintro e wq ⟨rfl, bq⟩) | (go_at_call 156; (with_reducible refine (F4.out _).mono ?_); rintro e wq ⟨rfl, bq⟩) | (go_at_call 109; (with_reducible refine (F6.out _).mono ?_); rintro e wq ⟨rfl, bq⟩))
  all_goals
    have gs := GS.out _ (by assumption)
    have gb : Below w.heap.size w wq := gs.1
    clear SK FS GS hS0 gs
    obtain ⟨w3, rfl⟩ : ∃ W : World, W = wq := ⟨_, rfl⟩
    have b3 := gb
    go_wp2_with fail
    (with_reducible refine (F7.out _).mono ?_)
    rintro e w4 ⟨rfl, b4⟩
    replace b4 : Below w.heap.size w w4 := bstep b3 b4
    go_wp2_with fail
    (with_reducible refine (F8.out _).mono ?_)
    rintro e w5 ⟨rfl, b5⟩
    replace b5 : Below w.heap.size w w5 := bstep b4 b5
    go_wp2_with fail
    (with_reducible refine (F9.out _).mono ?_)
    rintro e w6 ⟨rfl, b6⟩
    replace b6 : Below w.heap.size w w6 := bstep b5 b6
    go_wp2_with fail
    go_ret
    exact ⟨rfl, b6⟩

set_option maxRecDepth 100000 in
set_option maxHeartbeats 4000000 in
theorem rw_flow_u1 (a b c d : Int) (l ips : ByteArray) (v n0 nF : Int) (pr p1 p2 ip t1 pn out : ByteArray) (w : World) (hl : l.size ≤ 140737488351232) (h20 : 8 ≤ l.size) (hpr : pr.size = 4)
    (f1 : ∀ W (A : Option Addr), Row W W.heap.size A 2 (ints16 [b, d]) → Calls Tryz.prog 111 #[.slice A 2 2] W (Ret (.string pr) W))
    (f2 : ∀ W, Calls Tryz.prog 155 #[.string l, .int .i64 6] W (Ret (.int .u16 v) W))
    (f3 : ∀ W (A : Option Addr), Row W W.heap.size A 2 [.string ips, .string (l.extract 0 4)] → Calls Tryz.prog 154 #[.slice A 2 2] W (Ret (.string p1) W))
    (f4 : ∀ W, Calls Tryz.prog 156 #[.agg #[.int .u32 a, .int .u16 b, .int .u32 c, .int .u16 d]] W (Ret (.string ip) W))
    (f5 : ∀ W (A : Option Addr), Row W W.heap.size A 2 [.string ip, .string pr] → Calls Tryz.prog 154 #[.slice A 2 2] W (Ret (.string p2) W))
    (f6 : ∀ W, Calls Tryz.prog 109 #[.int .u16 v, .string p1, .string p2] W (Ret (.int .u16 n0) W))
    (f7 : ∀ W, Calls Tryz.prog 197 #[.string l, .int .i64 0, .string pr] W (Ret (.string t1) W))
    (f8 : ∀ W, Calls Tryz.prog 157 #[.int .u16 nF] W (Ret (.string pn) W))
    (f9 : ∀ W, Calls Tryz.prog 197 #[.string t1, .int .i64 6, .string pn] W (Ret (.string out) W))
    (hv : v ≠ 0) (hn : n0 = 0) (hF : nF = 65535) :
    Calls Tryz.prog 158 #[.agg #[.int .u32 a, .int .u16 b, .int .u32 c, .int .u16 d], .string l, .string ips, .int .i64 6] w (Ret (.string out) w) := by
  have q1 : (v == 0) = false := by simpa using hv
  have qx : bits .xor .u16 IntKind.u16.max 0 = 65535 := by decide
  clear hv
  subst hF; subst hn
  have i1 : (4 : Int) ≤ (l.size : Int) := by omega
  have F1 := hide f1; have F2 := hide f2; have F3 := hide f3; have F4 := hide f4; have F5 := hide f5; have F6 := hide f6; have F7 := hide f7; have F8 := hide f8; have F9 := hide f9
  clear f1 f2 f3 f4 f5 f6 f7 f8 f9
  go_enter Tryz.func158, Tryz.ntmps158
  have d0 := Cells.new w #[.int .u32 a, .int .u16 b, .int .u32 c, .int .u16 d] 136
  go_wp2_with fail
  (with_reducible refine Calls.mono (F1.out _ _ (Row.freshAt _ _ _ _ _ _ (by simp) rfl rfl)) ?_)
  rintro e w1 ⟨rfl, b1⟩
  have d1 := Cells.up d0 (fresh_below _ _) b1
  replace b1 : Below w.heap.size w w1 := bstep (bstep (fresh_below _ _) (fresh_below _ _)) b1
  clear d0
  go_wp2_with fail
  (with_reducible refine (F2.out _).mono ?_)
  rintro e w2 ⟨rfl, b2⟩
  have d2 := Cells.below b2 d1
  replace b2 : Below w.heap.size w w2 := bstep b1 b2
  clear d1 b1
  go_wp2_with fail
  have SK := hide (fun (zX zY : World) (zh : (Below w.heap.size w zX ∧ zX.cell? ⟨w.heap.size, 0, none⟩ = some (.int .u32 a) ∧ zX.cell? ⟨w.heap.size, 1, none⟩ = some (.int .u16 b) ∧ zX.cell? ⟨w.heap.size, 2, none⟩ = some (.int .u32 c) ∧ zX.cell? ⟨w.heap.size, 3, none⟩ = some (.int .u16 d) ∧ True)) (zb : Below zX.heap.size zX zY) => (show (Below w.heap.size w zY ∧ zY.cell? ⟨w.heap.size, 0, none⟩ = some (.int .u32 a) ∧ zY.cell? ⟨w.heap.size, 1, none⟩ = some (.int .u16 b) ∧ zY.cell? ⟨w.heap.size, 2, none⟩ = some (.int .u32 c) ∧ zY.cell? ⟨w.heap.size, 3, none⟩ = some (.int .u16 d) ∧ True) from ⟨bstep zh.1 zb, cellAt zb zh.2.1, cellAt zb zh.2.2.1, cellAt zb zh.2.2.2.1, cellAt zb zh.2.2.2.2.1, trivial⟩))
  have FS := hide (fun (zX : World) (zh : (Below w.heap.size w zX ∧ zX.cell? ⟨w.heap.size, 0, none⟩ = some (.int .u32 a) ∧ zX.cell? ⟨w.heap.size, 1, none⟩ = some (.int .u16 b) ∧ zX.cell? ⟨w.heap.size, 2, none⟩ = some (.int .u32 c) ∧ zX.cell? ⟨w.heap.size, 3, none⟩ = some (.int .u16 d) ∧ True)) => zh.1)
  have GS := hide (fun (zX : World) (zh : (Below w.heap.size w zX ∧ zX.cell? ⟨w.heap.size, 0, none⟩ = some (.int .u32 a) ∧ zX.cell? ⟨w.heap.size, 1, none⟩ = some (.int .u16 b) ∧ zX.cell? ⟨w.heap.size, 2, none⟩ = some (.int .u32 c) ∧ zX.cell? ⟨w.heap.size, 3, none⟩ = some (.int .u16 d) ∧ True)) => zh)
  have hS0 : (Below w.heap.size w w2 ∧ w2.cell? ⟨w.heap.size, 0, none⟩ = some (.int .u32 a) ∧ w2.cell? ⟨w.heap.size, 1, none⟩ = some (.int .u16 b) ∧ w2.cell? ⟨w.heap.size, 2, none⟩ = some (.int .u32 c) ∧ w2.cell? ⟨w.heap.size, 3, none⟩ = some (.int .u16 d) ∧ True) := ⟨(by (repeat' (first | with_reducible exact b2 | with_reducible exact Below.refl _ _ | with_reducible refine Below.setCell ?_ (by first | exact Nat.le_refl _ | (dsimp only; omega)) _ | with_reducible refine bstep ?_ (fresh_below _ _) | with_reducible refine Below.drew ?_))), d2.at_ 0, d2.at_ 1, d2.at_ 2, d2.at_ 3, trivial⟩
  go_region_held_law (fun w' => (Below w.heap.size w w' ∧ w'.cell? ⟨w.heap.size, 0, none⟩ = some (.int .u32 a) ∧ w'.cell? ⟨w.heap.size, 1, none⟩ = some (.int .u16 b) ∧ w'.cell? ⟨w.heap.size, 2, none⟩ = some (.int .u32 c) ∧ w'.cell? ⟨w.heap.size, 3, none⟩ = some (.int .u16 d) ∧ True)) (first | assumption | exact SK.out _ _ hS0 (Below.refl _ _).drew | exact SK.out _ _ hS0 (fresh_below _ _).drew | exact SK.out _ _ (by assumption) (fresh_below _ _) | (refine SK.out _ _ ?_ (by assumption); assumption))
    (first | (go_at_call 154; (with_reducible refine Calls.mono (F3.out _ _ ?_) ?_); (focus ((repeat' (first | with_reducible refine Row.afterdraw ?_ | with_reducible exact Row.freshAt _ _ _ _ _ _ (by first | (simp; done) | fail) rfl rfl | (with_reducible refine Row.rise ?_ (fresh_below _ _)) | (with_reducible refine Row.rise ?_ (by with_reducible assumption)))); (first | done | fail))); rintro e wq ⟨rfl, bq⟩) | (go_at_call 154; (with_reducible refine Calls.mono (F5.out _ _ ?_) ?_); (focus ((repeat' (first | with_reducible refine Row.afterdraw ?_ | with_reducible exact Row.freshAt _ _ _ _ _ _ (by first | (simp; done) | fail) rfl rfl | (with_reducible refine Row.rise ?_ (fresh_below _ _)) | (with_reducible refine Row.rise ?_ (by with_reducible assumption)))); (first | done | fail))); rintro e wq ⟨rfl, bq⟩) | (go_at_call 156; (with_reducible refine (F4.out _).mono ?_); rintro e wq ⟨rfl, bq⟩) | (go_at_call 109; (with_reducible refine (F6.out _).mono ?_); rintro e wq ⟨rfl, bq⟩))
  all_goals
    have gs := GS.out _ (by assumption)
    have gb : Below w.heap.size w wq := gs.1
    clear SK FS GS hS0 gs
    obtain ⟨w3, rfl⟩ : ∃ W : World, W = wq := ⟨_, rfl⟩
    have b3 := gb
    go_wp2_with fail
    (with_reducible refine (F7.out _).mono ?_)
    rintro e w4 ⟨rfl, b4⟩
    replace b4 : Below w.heap.size w w4 := bstep b3 b4
    go_wp2_with fail
    (with_reducible refine (F8.out _).mono ?_)
    rintro e w5 ⟨rfl, b5⟩
    replace b5 : Below w.heap.size w w5 := bstep b4 b5
    go_wp2_with fail
    (with_reducible refine (F9.out _).mono ?_)
    rintro e w6 ⟨rfl, b6⟩
    replace b6 : Below w.heap.size w w6 := bstep b5 b6
    go_wp2_with fail
    go_ret
    exact ⟨rfl, b6⟩

set_option maxRecDepth 100000 in
set_option maxHeartbeats 4000000 in
theorem rw_flow_u2 (a b c d : Int) (l ips : ByteArray) (v n0 nF : Int) (pr p1 p2 ip t1 pn out : ByteArray) (w : World) (hl : l.size ≤ 140737488351232) (h20 : 8 ≤ l.size) (hpr : pr.size = 4)
    (f1 : ∀ W (A : Option Addr), Row W W.heap.size A 2 (ints16 [b, d]) → Calls Tryz.prog 111 #[.slice A 2 2] W (Ret (.string pr) W))
    (f2 : ∀ W, Calls Tryz.prog 155 #[.string l, .int .i64 6] W (Ret (.int .u16 v) W))
    (f3 : ∀ W (A : Option Addr), Row W W.heap.size A 2 [.string ips, .string (l.extract 0 4)] → Calls Tryz.prog 154 #[.slice A 2 2] W (Ret (.string p1) W))
    (f4 : ∀ W, Calls Tryz.prog 156 #[.agg #[.int .u32 a, .int .u16 b, .int .u32 c, .int .u16 d]] W (Ret (.string ip) W))
    (f5 : ∀ W (A : Option Addr), Row W W.heap.size A 2 [.string ip, .string pr] → Calls Tryz.prog 154 #[.slice A 2 2] W (Ret (.string p2) W))
    (f6 : ∀ W, Calls Tryz.prog 109 #[.int .u16 v, .string p1, .string p2] W (Ret (.int .u16 n0) W))
    (f7 : ∀ W, Calls Tryz.prog 197 #[.string l, .int .i64 0, .string pr] W (Ret (.string t1) W))
    (f8 : ∀ W, Calls Tryz.prog 157 #[.int .u16 nF] W (Ret (.string pn) W))
    (f9 : ∀ W, Calls Tryz.prog 197 #[.string t1, .int .i64 6, .string pn] W (Ret (.string out) W))
    (hv : v ≠ 0) (hn : n0 ≠ 0) (hF : nF = n0) :
    Calls Tryz.prog 158 #[.agg #[.int .u32 a, .int .u16 b, .int .u32 c, .int .u16 d], .string l, .string ips, .int .i64 6] w (Ret (.string out) w) := by
  have q1 : (v == 0) = false := by simpa using hv
  have q2 : (n0 == 0) = false := by simpa using hn
  clear hv hn
  subst hF
  have i1 : (4 : Int) ≤ (l.size : Int) := by omega
  have F1 := hide f1; have F2 := hide f2; have F3 := hide f3; have F4 := hide f4; have F5 := hide f5; have F6 := hide f6; have F7 := hide f7; have F8 := hide f8; have F9 := hide f9
  clear f1 f2 f3 f4 f5 f6 f7 f8 f9
  go_enter Tryz.func158, Tryz.ntmps158
  have d0 := Cells.new w #[.int .u32 a, .int .u16 b, .int .u32 c, .int .u16 d] 136
  go_wp2_with fail
  (with_reducible refine Calls.mono (F1.out _ _ (Row.freshAt _ _ _ _ _ _ (by simp) rfl rfl)) ?_)
  rintro e w1 ⟨rfl, b1⟩
  have d1 := Cells.up d0 (fresh_below _ _) b1
  replace b1 : Below w.heap.size w w1 := bstep (bstep (fresh_below _ _) (fresh_below _ _)) b1
  clear d0
  go_wp2_with fail
  (with_reducible refine (F2.out _).mono ?_)
  rintro e w2 ⟨rfl, b2⟩
  have d2 := Cells.below b2 d1
  replace b2 : Below w.heap.size w w2 := bstep b1 b2
  clear d1 b1
  go_wp2_with fail
  have SK := hide (fun (zX zY : World) (zh : (Below w.heap.size w zX ∧ zX.cell? ⟨w.heap.size, 0, none⟩ = some (.int .u32 a) ∧ zX.cell? ⟨w.heap.size, 1, none⟩ = some (.int .u16 b) ∧ zX.cell? ⟨w.heap.size, 2, none⟩ = some (.int .u32 c) ∧ zX.cell? ⟨w.heap.size, 3, none⟩ = some (.int .u16 d) ∧ True)) (zb : Below zX.heap.size zX zY) => (show (Below w.heap.size w zY ∧ zY.cell? ⟨w.heap.size, 0, none⟩ = some (.int .u32 a) ∧ zY.cell? ⟨w.heap.size, 1, none⟩ = some (.int .u16 b) ∧ zY.cell? ⟨w.heap.size, 2, none⟩ = some (.int .u32 c) ∧ zY.cell? ⟨w.heap.size, 3, none⟩ = some (.int .u16 d) ∧ True) from ⟨bstep zh.1 zb, cellAt zb zh.2.1, cellAt zb zh.2.2.1, cellAt zb zh.2.2.2.1, cellAt zb zh.2.2.2.2.1, trivial⟩))
  have FS := hide (fun (zX : World) (zh : (Below w.heap.size w zX ∧ zX.cell? ⟨w.heap.size, 0, none⟩ = some (.int .u32 a) ∧ zX.cell? ⟨w.heap.size, 1, none⟩ = some (.int .u16 b) ∧ zX.cell? ⟨w.heap.size, 2, none⟩ = some (.int .u32 c) ∧ zX.cell? ⟨w.heap.size, 3, none⟩ = some (.int .u16 d) ∧ True)) => zh.1)
  have GS := hide (fun (zX : World) (zh : (Below w.heap.size w zX ∧ zX.cell? ⟨w.heap.size, 0, none⟩ = some (.int .u32 a) ∧ zX.cell? ⟨w.heap.size, 1, none⟩ = some (.int .u16 b) ∧ zX.cell? ⟨w.heap.size, 2, none⟩ = some (.int .u32 c) ∧ zX.cell? ⟨w.heap.size, 3, none⟩ = some (.int .u16 d) ∧ True)) => zh)
  have hS0 : (Below w.heap.size w w2 ∧ w2.cell? ⟨w.heap.size, 0, none⟩ = some (.int .u32 a) ∧ w2.cell? ⟨w.heap.size, 1, none⟩ = some (.int .u16 b) ∧ w2.cell? ⟨w.heap.size, 2, none⟩ = some (.int .u32 c) ∧ w2.cell? ⟨w.heap.size, 3, none⟩ = some (.int .u16 d) ∧ True) := ⟨(by (repeat' (first | with_reducible exact b2 | with_reducible exact Below.refl _ _ | with_reducible refine Below.setCell ?_ (by first | exact Nat.le_refl _ | (dsimp only; omega)) _ | with_reducible refine bstep ?_ (fresh_below _ _) | with_reducible refine Below.drew ?_))), d2.at_ 0, d2.at_ 1, d2.at_ 2, d2.at_ 3, trivial⟩
  go_region_held_law (fun w' => (Below w.heap.size w w' ∧ w'.cell? ⟨w.heap.size, 0, none⟩ = some (.int .u32 a) ∧ w'.cell? ⟨w.heap.size, 1, none⟩ = some (.int .u16 b) ∧ w'.cell? ⟨w.heap.size, 2, none⟩ = some (.int .u32 c) ∧ w'.cell? ⟨w.heap.size, 3, none⟩ = some (.int .u16 d) ∧ True)) (first | assumption | exact SK.out _ _ hS0 (Below.refl _ _).drew | exact SK.out _ _ hS0 (fresh_below _ _).drew | exact SK.out _ _ (by assumption) (fresh_below _ _) | (refine SK.out _ _ ?_ (by assumption); assumption))
    (first | (go_at_call 154; (with_reducible refine Calls.mono (F3.out _ _ ?_) ?_); (focus ((repeat' (first | with_reducible refine Row.afterdraw ?_ | with_reducible exact Row.freshAt _ _ _ _ _ _ (by first | (simp; done) | fail) rfl rfl | (with_reducible refine Row.rise ?_ (fresh_below _ _)) | (with_reducible refine Row.rise ?_ (by with_reducible assumption)))); (first | done | fail))); rintro e wq ⟨rfl, bq⟩) | (go_at_call 154; (with_reducible refine Calls.mono (F5.out _ _ ?_) ?_); (focus ((repeat' (first | with_reducible refine Row.afterdraw ?_ | with_reducible exact Row.freshAt _ _ _ _ _ _ (by first | (simp; done) | fail) rfl rfl | (with_reducible refine Row.rise ?_ (fresh_below _ _)) | (with_reducible refine Row.rise ?_ (by with_reducible assumption)))); (first | done | fail))); rintro e wq ⟨rfl, bq⟩) | (go_at_call 156; (with_reducible refine (F4.out _).mono ?_); rintro e wq ⟨rfl, bq⟩) | (go_at_call 109; (with_reducible refine (F6.out _).mono ?_); rintro e wq ⟨rfl, bq⟩))
  all_goals
    have gs := GS.out _ (by assumption)
    have gb : Below w.heap.size w wq := gs.1
    clear SK FS GS hS0 gs
    obtain ⟨w3, rfl⟩ : ∃ W : World, W = wq := ⟨_, rfl⟩
    have b3 := gb
    go_wp2_with fail
    (with_reducible refine (F7.out _).mono ?_)
    rintro e w4 ⟨rfl, b4⟩
    replace b4 : Below w.heap.size w w4 := bstep b3 b4
    go_wp2_with fail
    (with_reducible refine (F8.out _).mono ?_)
    rintro e w5 ⟨rfl, b5⟩
    replace b5 : Below w.heap.size w w5 := bstep b4 b5
    go_wp2_with fail
    (with_reducible refine (F9.out _).mono ?_)
    rintro e w6 ⟨rfl, b6⟩
    replace b6 : Below w.heap.size w w6 := bstep b5 b6
    go_wp2_with fail
    go_ret
    exact ⟨rfl, b6⟩

theorem rw_flow (a b c d : Int) (l ips : ByteArray) (k : Nat) (kk : Int) (w : World) (hk : (k = 16 ∧ kk = 16) ∨ (k = 6 ∧ kk = 6)) (ha : 0 ≤ a ∧ a ≤ 4294967295) (hb : 0 ≤ b ∧ b ≤ 65535) (hc : 0 ≤ c ∧ c ≤ 4294967295) (hd : 0 ≤ d ∧ d ≤ 65535) (hl : l.size ≤ 1000000) (h20 : k + 2 ≤ l.size) (hi : ips.size = 8) :
    Calls Tryz.prog 158 #[.agg #[.int .u32 a, .int .u16 b, .int .u32 c, .int .u16 d], .string l, .string ips, .int .i64 kk] w (Ret (.string (S (flowNew (L l) (L ips) a b c d k))) w) := by
  have hbd : ∀ x ∈ [b, d], 0 ≤ x ∧ x ≤ 65535 := by
    intro x hx
    simp only [List.mem_cons, List.not_mem_nil, or_false] at hx
    rcases hx with rfl | rfl <;> assumption
  have hL : k + 2 ≤ (L l).length := by rw [L_length]; exact h20
  have hk4 : 6 ≤ k := by omega
  have hns := flowSum_bd (L l) (L ips) a b c d k
  have hnf := flowFix_bd (k := k) (was := be16 (L l) k) hns
  have hz : (putW [b, d] ++ (L l).drop 4).length = l.size := by rw [List.length_append, List.length_drop, L_length]; show 4 + _ = _; omega
  have z0 : (S (putW [b, d])).size = 4 := rfl
  have f1 := fun W A (hR : Row W W.heap.size A 2 (ints16 [b, d])) => Word A 2 2 [b, d] W hR hbd (by omega)
  have f2 := fun W => rw_word l k W (by unfold maxLen; omega) h20
  have f3 := fun W A (hR : Row W W.heap.size A 2 [.string ips, .string (l.extract 0 4)]) => rw_laid A 2 2 [ips, l.extract 0 4] W hR (by simp [allOf, L_extract, L_length]; omega) (by omega)
  have f4 := fun W => rw_ips a b c d W ha hc
  have f5 := fun W A (hR : Row W W.heap.size A 2 [.string (S (ipsOf a c)), .string (S (putW [b, d]))]) => rw_laid A 2 2 [S (ipsOf a c), S (putW [b, d])] W hR (by simp [allOf, L_S, putW_length, show (ipsOf a c).length = 8 from rfl]) (by omega)
  have e1 : S (allOf [ips, l.extract 0 4]) = S (L ips ++ (L l).take 4) := by unfold allOf; simp [L_to]
  have e2 : S (allOf [S (ipsOf a c), S (putW [b, d])]) = S (ipsOf a c ++ putW [b, d]) := by unfold allOf; simp [L_S]
  rw [e1] at f3
  rw [e2] at f5
  have f6 := fun W => Updates (be16 (L l) k) (S (L ips ++ (L l).take 4)) (S (ipsOf a c ++ putW [b, d])) W (be16_bd _ _) (by rw [S_size, List.length_append, L_length]; simp; omega) (by rw [S_size, List.length_append, putW_length]; show 8 + _ ≤ _; simp)
  rw [L_S, L_S] at f6
  have f7 := fun W => rw_patch l 0 (S (putW [b, d])) W (by omega) (by rw [z0]; omega)
  rw [show (L l).take 0 ++ (L (S (putW [b, d])) ++ (L l).drop (0 + (S (putW [b, d])).size)) = putW [b, d] ++ (L l).drop 4 from by rw [L_S]; rfl, show ((0 : Nat) : Int) = 0 from rfl] at f7
  have f8 := fun W => Put16 (flowFix k (be16 (L l) k) (flowSum (L l) (L ips) a b c d k)) W hnf.1 hnf.2
  have f9 := fun W => rw_patch (S (putW [b, d] ++ (L l).drop 4)) k (S (put16 (flowFix k (be16 (L l) k) (flowSum (L l) (L ips) a b c d k)))) W (by rw [S_size, hz]; omega) (by rw [S_size, S_size, hz, put16_length]; omega)
  have e9 : (L (S (putW [b, d] ++ (L l).drop 4))).take k ++ (L (S (put16 (flowFix k (be16 (L l) k) (flowSum (L l) (L ips) a b c d k)))) ++ (L (S (putW [b, d] ++ (L l).drop 4))).drop (k + (S (put16 (flowFix k (be16 (L l) k) (flowSum (L l) (L ips) a b c d k)))).size)) = flowNew (L l) (L ips) a b c d k := by
    rw [L_S, L_S, ← List.append_assoc]; rfl
  rw [e9] at f9
  rcases hk with ⟨rfl, rfl⟩ | ⟨rfl, rfl⟩
  · rw [show ((16 : Nat) : Int) = 16 from rfl] at f2 f9
    exact rw_flow_t a b c d l ips _ _ _ _ _ _ _ _ _ _ w (by omega) (by omega) z0 f1 f2 f3 f4 f5 f6 f7 f8 f9 (by unfold flowFix; rw [if_neg (by decide)]; rfl)
  · rw [show ((6 : Nat) : Int) = 6 from rfl] at f2 f9
    by_cases hv : be16 (L l) 6 = 0
    · exact rw_flow_u0 a b c d l ips _ _ _ _ _ _ _ _ _ _ w (by omega) (by omega) z0 f1 f2 f3 f4 f5 f6 f7 f8 f9 hv (by unfold flowFix; rw [if_pos rfl, if_pos hv])
    by_cases hn : flowSum (L l) (L ips) a b c d 6 = 0
    · exact rw_flow_u1 a b c d l ips _ _ _ _ _ _ _ _ _ _ w (by omega) (by omega) z0 f1 f2 f3 f4 f5 f6 f7 f8 f9 hv hn (by unfold flowFix; rw [if_pos rfl, if_neg hv, if_pos hn])
    · exact rw_flow_u2 a b c d l ips _ _ _ _ _ _ _ _ _ _ w (by omega) (by omega) z0 f1 f2 f3 f4 f5 f6 f7 f8 f9 hv hn (by unfold flowFix; rw [if_pos rfl, if_neg hv, if_neg hn]; rfl)
end Go.Proofs.YtilfcikhipadpaaGreatDoor
end

section
/- rewrite: what a packet carries, changed, and Apply, over this program. -/
set_option linter.unusedVariables false
set_option linter.unusedSimpArgs false
namespace Go.Proofs.YtilfcikhipadpaaGreatDoor
open Go.RowKit Go.Lib Rx

/-- what a packet carries, changed -/
def loadNew (x : Seen) (l ips : List UInt8) (a b c d : Int) : List UInt8 :=
  if x.t.p = 6 then flowNew l ips a b c d 16 else if x.t.p = 17 then flowNew l ips a b c d 6 else if x.k = 3 then l else if x.q = true then queryOf l b else queryOf l d
theorem rw_load_t (a b c d : Int) (x0 x1 x2 x3 x4 x5 x6 x8 : Int) (x7 : Bool) (l ips out : ByteArray) (w : World) (h : x0 = 6) (f1 : ∀ W, Calls Tryz.prog 158 #[.agg #[.int .u32 a, .int .u16 b, .int .u32 c, .int .u16 d], .string l, .string ips, .int .i64 16] W (Ret (.string out) W)) :
    Calls Tryz.prog 107 #[.agg #[.int .u32 a, .int .u16 b, .int .u32 c, .int .u16 d], .agg #[.int .u8 x0, .int .u32 x1, .int .u16 x2, .int .u32 x3, .int .u16 x4, .int .i64 x5, .int .u8 x6, .bool x7, .int .u8 x8], .string l, .string ips] w (Ret (.string out) w) := by
  exact run (args := [.agg #[.int .u32 a, .int .u16 b, .int .u32 c, .int .u16 d], .agg #[.int .u8 x0, .int .u32 x1, .int .u16 x2, .int .u32 x3, .int .u16 x4, .int .i64 x5, .int .u8 x6, .bool x7, .int .u8 x8], .string l, .string ips]) [yes 8 (b := x0 == 6) (by simpa using h), does 12 (args := [.agg #[.int .u32 a, .int .u16 b, .int .u32 c, .int .u16 d], .string l, .string ips, .int .i64 16]) (fun W _ => f1 W)]
theorem rw_load_u (a b c d : Int) (x0 x1 x2 x3 x4 x5 x6 x8 : Int) (x7 : Bool) (l ips out : ByteArray) (w : World) (h : x0 = 17) (f1 : ∀ W, Calls Tryz.prog 158 #[.agg #[.int .u32 a, .int .u16 b, .int .u32 c, .int .u16 d], .string l, .string ips, .int .i64 6] W (Ret (.string out) W)) :
    Calls Tryz.prog 107 #[.agg #[.int .u32 a, .int .u16 b, .int .u32 c, .int .u16 d], .agg #[.int .u8 x0, .int .u32 x1, .int .u16 x2, .int .u32 x3, .int .u16 x4, .int .i64 x5, .int .u8 x6, .bool x7, .int .u8 x8], .string l, .string ips] w (Ret (.string out) w) := by
  exact run (args := [.agg #[.int .u32 a, .int .u16 b, .int .u32 c, .int .u16 d], .agg #[.int .u8 x0, .int .u32 x1, .int .u16 x2, .int .u32 x3, .int .u16 x4, .int .i64 x5, .int .u8 x6, .bool x7, .int .u8 x8], .string l, .string ips]) [no 8 (b := x0 == 6) (by simp; omega), yes 14 (b := x0 == 17) (by simpa using h), does 18 (args := [.agg #[.int .u32 a, .int .u16 b, .int .u32 c, .int .u16 d], .string l, .string ips, .int .i64 6]) (fun W _ => f1 W)]
theorem rw_load_e (a b c d : Int) (x0 x1 x2 x3 x4 x5 x6 x8 : Int) (x7 : Bool) (l ips out : ByteArray) (w : World) (h : x0 ≠ 6 ∧ x0 ≠ 17) (hk : x5 = 3) (ho : out = l) :
    Calls Tryz.prog 107 #[.agg #[.int .u32 a, .int .u16 b, .int .u32 c, .int .u16 d], .agg #[.int .u8 x0, .int .u32 x1, .int .u16 x2, .int .u32 x3, .int .u16 x4, .int .i64 x5, .int .u8 x6, .bool x7, .int .u8 x8], .string l, .string ips] w (Ret (.string out) w) := by
  subst ho
  exact run (args := [.agg #[.int .u32 a, .int .u16 b, .int .u32 c, .int .u16 d], .agg #[.int .u8 x0, .int .u32 x1, .int .u16 x2, .int .u32 x3, .int .u16 x4, .int .i64 x5, .int .u8 x6, .bool x7, .int .u8 x8], .string out, .string ips]) [no 8 (b := x0 == 6) (by simpa using h.1), no 14 (b := x0 == 17) (by simpa using h.2), yes 19 (b := x5 == 3) (by simpa using hk)]
theorem rw_load_a (a b c d : Int) (x0 x1 x2 x3 x4 x5 x6 x8 : Int) (x7 : Bool) (l ips out : ByteArray) (w : World) (h : x0 ≠ 6 ∧ x0 ≠ 17) (hk : x5 ≠ 3) (hq : x7 = true) (f1 : ∀ W, Calls Tryz.prog 159 #[.string l, .int .u16 b] W (Ret (.string out) W)) :
    Calls Tryz.prog 107 #[.agg #[.int .u32 a, .int .u16 b, .int .u32 c, .int .u16 d], .agg #[.int .u8 x0, .int .u32 x1, .int .u16 x2, .int .u32 x3, .int .u16 x4, .int .i64 x5, .int .u8 x6, .bool x7, .int .u8 x8], .string l, .string ips] w (Ret (.string out) w) := by
  exact run (args := [.agg #[.int .u32 a, .int .u16 b, .int .u32 c, .int .u16 d], .agg #[.int .u8 x0, .int .u32 x1, .int .u16 x2, .int .u32 x3, .int .u16 x4, .int .i64 x5, .int .u8 x6, .bool x7, .int .u8 x8], .string l, .string ips]) [no 8 (b := x0 == 6) (by simpa using h.1), no 14 (b := x0 == 17) (by simpa using h.2), no 19 (b := x5 == 3) (by simpa using hk), yes 23 hq, does 28 (args := [.string l, .int .u16 b]) (fun W _ => f1 W)]
theorem rw_load_b (a b c d : Int) (x0 x1 x2 x3 x4 x5 x6 x8 : Int) (x7 : Bool) (l ips out : ByteArray) (w : World) (h : x0 ≠ 6 ∧ x0 ≠ 17) (hk : x5 ≠ 3) (hq : x7 = false) (f1 : ∀ W, Calls Tryz.prog 159 #[.string l, .int .u16 d] W (Ret (.string out) W)) :
    Calls Tryz.prog 107 #[.agg #[.int .u32 a, .int .u16 b, .int .u32 c, .int .u16 d], .agg #[.int .u8 x0, .int .u32 x1, .int .u16 x2, .int .u32 x3, .int .u16 x4, .int .i64 x5, .int .u8 x6, .bool x7, .int .u8 x8], .string l, .string ips] w (Ret (.string out) w) := by
  exact run (args := [.agg #[.int .u32 a, .int .u16 b, .int .u32 c, .int .u16 d], .agg #[.int .u8 x0, .int .u32 x1, .int .u16 x2, .int .u32 x3, .int .u16 x4, .int .i64 x5, .int .u8 x6, .bool x7, .int .u8 x8], .string l, .string ips]) [no 8 (b := x0 == 6) (by simpa using h.1), no 14 (b := x0 == 17) (by simpa using h.2), no 19 (b := x5 == 3) (by simpa using hk), no 23 hq, does 28 (args := [.string l, .int .u16 d]) (fun W _ => f1 W)]

theorem rw_load (a b c d : Int) (x : Seen) (l ips : ByteArray) (w : World) (ha : 0 ≤ a ∧ a ≤ 4294967295) (hb : 0 ≤ b ∧ b ≤ 65535) (hc : 0 ≤ c ∧ c ≤ 4294967295) (hd : 0 ≤ d ∧ d ≤ 65535) (hl : l.size ≤ 1000000) (hi : ips.size = 8)
    (h6 : x.t.p = 6 → 20 ≤ l.size) (h8 : 8 ≤ l.size) :
    Calls Tryz.prog 107 #[.agg #[.int .u32 a, .int .u16 b, .int .u32 c, .int .u16 d], .agg x.cells, .string l, .string ips] w (Ret (.string (S (loadNew x (L l) (L ips) a b c d))) w) := by
  obtain ⟨⟨x0, x1, x2, x3, x4⟩, x5, x6, x7, x8⟩ := x
  unfold Seen.cells loadNew
  simp only at h6 ⊢
  by_cases g6 : x0 = 6
  · rw [if_pos g6]
    exact rw_load_t a b c d _ _ _ _ _ _ _ _ _ l ips _ w g6 (fun W => rw_flow a b c d l ips 16 16 W (Or.inl ⟨rfl, rfl⟩) ha hb hc hd hl (by have := h6 g6; omega) hi)
  rw [if_neg g6]
  by_cases g17 : x0 = 17
  · rw [if_pos g17]
    exact rw_load_u a b c d _ _ _ _ _ _ _ _ _ l ips _ w g17 (fun W => rw_flow a b c d l ips 6 6 W (Or.inr ⟨rfl, rfl⟩) ha hb hc hd hl (by omega) hi)
  rw [if_neg g17]
  by_cases g3 : x5 = 3
  · rw [if_pos g3]
    exact rw_load_e a b c d _ _ _ _ _ _ _ _ _ l ips _ w ⟨g6, g17⟩ g3 (S_L l)
  rw [if_neg g3]
  by_cases gq : x7 = true
  · rw [if_pos gq]
    exact rw_load_a a b c d _ _ _ _ _ _ _ _ _ l ips _ w ⟨g6, g17⟩ g3 gq (fun W => rw_query l b W (by omega) h8 hb)
  · rw [if_neg gq]
    exact rw_load_b a b c d _ _ _ _ _ _ _ _ _ l ips _ w ⟨g6, g17⟩ g3 (by simpa using gq) (fun W => rw_query l d W (by omega) h8 hd)
end Go.Proofs.YtilfcikhipadpaaGreatDoor
end
