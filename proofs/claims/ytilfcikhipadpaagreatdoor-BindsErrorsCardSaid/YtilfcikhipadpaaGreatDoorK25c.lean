/- Several texts of this claim, one behind the other. -/
import Derived.Test.YtilfcikhipadpaaGreatDoorK24c
import Derived.Deep.RegionHeldLaw
import Derived.Deep.RegionHeld3

section
/- Errors, and what they are about (embeds): between whom, changed. Plain. -/
set_option linter.unusedVariables false
set_option linter.unusedSimpArgs false
namespace Go.Proofs.YtilfcikhipadpaaGreatDoor
open Go.RowKit

/-- where an inner header ends -/
def emEnd (d : List UInt8) : Int := at_ d 0 % 16 * 4
def emAt (d : List UInt8) : Nat := (emEnd d).toNat
def emMsg (d : List UInt8) : Msg := ⟨at_ d (emAt d), at_ d (emAt d + 1), 0, { data := #[] }, { data := #[] }⟩
/-- why some bytes are nothing that an error can be about -/
def emWhy (d : List UInt8) : Int :=
  if (d.length : Int) < 20 ∨ at_ d 0 / 16 ≠ 4 then 15
  else if emEnd d < 20 ∨ (d.length : Int) - 8 < emEnd d ∨ be16 d 6 % 8192 ≠ 0 then 15
  else if at_ d 9 = 6 ∨ at_ d 9 = 17 then 0
  else if at_ d 9 ≠ 1 then 6
  else if qIs (emMsg d) = true then 0 else 15
def emAsk (d : List UInt8) : Bool := decide (at_ d 9 = 1) && qAsk (emMsg d)
/-- between whom the packet goes -/
def emTup (d : List UInt8) : Tup :=
  if at_ d 9 = 6 ∨ at_ d 9 = 17 then ⟨at_ d 9, be32 d 12, be16 d (emAt d), be32 d 16, be16 d (emAt d + 2)⟩
  else if qAsk (emMsg d) = true then ⟨at_ d 9, be32 d 12, be16 d (emAt d + 4), be32 d 16, 0⟩
  else ⟨at_ d 9, be32 d 12, 0, be32 d 16, be16 d (emAt d + 4)⟩
/-- a change of the ports, and of the sum that stands k bytes behind -/
def emFlowL (l : List UInt8) (e : Nat) (b d : Int) : List UInt8 := l.take e ++ (putW [b, d] ++ l.drop (e + 4))
def emFlowN (l : List UInt8) (e : Nat) (t : Tup) (a b c d : Int) (k : Nat) : Int := updates (get16 (emFlowL l e b d) ((e + k : Nat) : Int)) (ipsOf t.a t.c ++ putW [t.b, t.d]) (ipsOf a c ++ putW [b, d])
def emFlow (l : List UInt8) (e : Nat) (t : Tup) (a b c d : Int) (k : Nat) : List UInt8 :=
  if t.p = 17 ∧ get16 (emFlowL l e b d) ((e + k : Nat) : Int) = 0 then emFlowL l e b d
  else if e + k + 2 ≤ l.length then lay (emFlowL l e b d) (e + k) (if t.p = 17 ∧ emFlowN l e t a b c d k = 0 then 65535 else emFlowN l e t a b c d k)
  else emFlowL l e b d
/-- a query's ID, changed, and its sum -/
def emMsgN (l : List UInt8) (e : Nat) (id : Int) : List UInt8 := lay (lay l (e + 4) id) (e + 2) (upd (be16 l (e + 2)) (be16 l (e + 4)) id)
/-- the header's addresses, and its sum -/
def emMid (l : List UInt8) (a c : Int) : List UInt8 := lay (l.take 12 ++ (ipsOf a c ++ l.drop 20)) 10 (updates (be16 l 10) ((l.drop 12).take 8) (ipsOf a c))
def emCh (l : List UInt8) (e : Nat) (t : Tup) (q : Bool) (a b c d : Int) : List UInt8 :=
  if t.p = 6 then emFlow (emMid l a c) e t a b c d 16 else if t.p = 17 then emFlow (emMid l a c) e t a b c d 6 else emMsgN (emMid l a c) e (if q = true then b else d)
/-- what an error is about, changed -/
def emNew (l : List UInt8) (a b c d : Int) : List UInt8 := emCh l (emAt l) (emTup l) (emAsk l) a b c d
theorem ipsOf_len (a c : Int) : (ipsOf a c).length = 8 := rfl
theorem putW2_len (b d : Int) : (putW [b, d]).length = 4 := rfl
theorem emFlowL_len {l : List UInt8} {e : Nat} {b d : Int} (h : e + 4 ≤ l.length) : (emFlowL l e b d).length = l.length := by
  unfold emFlowL
  simp only [List.length_append, List.length_take, List.length_drop, putW2_len]; omega
theorem emFlow_len {l : List UInt8} {e : Nat} {t : Tup} {a b c d : Int} {k : Nat} (h : e + 4 ≤ l.length) : (emFlow l e t a b c d k).length = l.length := by
  unfold emFlow
  split
  · exact emFlowL_len h
  · split
    · rw [lay_length (by rw [emFlowL_len h]; assumption), emFlowL_len h]
    · exact emFlowL_len h
theorem emMid_len {l : List UInt8} {a c : Int} (h : 20 ≤ l.length) : (emMid l a c).length = l.length := by
  have h1 : (l.take 12 ++ (ipsOf a c ++ l.drop 20)).length = l.length := by
    simp only [List.length_append, List.length_take, List.length_drop, ipsOf_len]; omega
  unfold emMid
  rw [lay_length (by rw [h1]; omega), h1]
theorem emMsgN_len {l : List UInt8} {e : Nat} {id : Int} (h : e + 6 ≤ l.length) : (emMsgN l e id).length = l.length := by
  unfold emMsgN
  rw [lay_length (by rw [lay_length (by omega)]; omega), lay_length (by omega)]
theorem emCh_len {l : List UInt8} {e : Nat} {t : Tup} {q : Bool} {a b c d : Int} (h : e + 8 ≤ l.length) (h20 : 20 ≤ l.length) : (emCh l e t q a b c d).length = l.length := by
  have hm := emMid_len (a := a) (c := c) h20
  unfold emCh
  split
  · rw [emFlow_len (by rw [hm]; omega), hm]
  · split
    · rw [emFlow_len (by rw [hm]; omega), hm]
    · rw [emMsgN_len (by rw [hm]; omega), hm]
/-- of what lay there, just block B is another one, that holds these cells -/
def Turned (w : World) (B : Nat) (cs : Array Value) (T : TypeId) (e : Ending) (w' : World) : Prop := e = .returned (.tuple #[]) ∧ Cells w' B cs T ∧ Only (fun i => i = B) w w'
end Go.Proofs.YtilfcikhipadpaaGreatDoor
end

section
/- porterref08.Wrong: an error about a short packet, by the document's parts. -/
set_option linter.unusedVariables false
set_option linter.unusedSimpArgs false
namespace Go.Proofs.YtilfcikhipadpaaGreatDoor
open Go.RowKit

theorem wrong_of (a c k : Int) (about y l1 out : ByteArray) (w : World) (h : about.size ≤ 548)
    (c1 : ∀ W, Calls Tryz.prog 78 #[.agg #[.int .u8 k, .int .u8 1, .int .u16 0, .string { data := #[0, 0, 0, 0] }, .string about]] W (Ret (.tuple #[.string y, .int .i64 0]) W))
    (c2 : ∀ W, Calls Tryz.prog 79 #[.string y] W (Ret (.string l1) W))
    (c3 : ∀ W, Calls Tryz.prog 76 #[.agg #[.int .u8 0, .int .u16 0, .bool false, .int .u8 64, .int .u8 1, .int .u32 a, .int .u32 c, .string { data := #[] }], .string l1] W (Ret (.tuple #[.string out, .int .i64 0]) W)) :
    Calls Tryz.prog 30 #[.int .u32 a, .int .u32 c, .int .u8 k, .string about] w (Ret (.string out) w) := by
  have i1 : (about.size : Int) ≤ 548 := by omega
  have i2 : min (about.size : Int) 548 = (about.size : Int) := by omega
  have i3 : about.extract 0 about.size = about := by
    apply ByteArray.ext
    simp
  have C1 := hide c1; have C2 := hide c2; have C3 := hide c3
  clear c1 c2 c3 h
  go_enter Tryz.func30, Tryz.ntmps30
  go_wp2_with (first | (go_at_call 78; (with_reducible refine (C1.out _).mono ?_); rintro e w1 ⟨rfl, b1⟩) | (go_at_call 79; (with_reducible refine (C2.out _).mono ?_); rintro e w2 ⟨rfl, b2⟩) | (go_at_call 76; (with_reducible refine (C3.out _).mono ?_); rintro e w3 ⟨rfl, b3⟩))
  go_ret
  exact ⟨rfl, bstep (bstep b1 b2) b3⟩
end Go.Proofs.YtilfcikhipadpaaGreatDoor
end

section
/- The document's Seal of tcp over this program; Put, and Parse of what is none. -/
set_option linter.unusedVariables false
namespace Go.Proofs.YtilfcikhipadpaaGreatDoor
open Go.RowKit
attribute [local go_sem] Oper.semAt_some

set_option maxHeartbeats 4000000 in
theorem r6_Seal (a b : Int) (s : ByteArray) (w : World) (ha : 0 ≤ a ∧ a ≤ 4294967295) (hb : 0 ≤ b ∧ b ≤ 4294967295) (hs : s.size ≤ 140737488351232) :
    Calls Tryz.prog 132 #[.int .u32 a, .int .u32 b, .string s] w (Ret (.string (S (tcpSeal a b (L s)))) w) := by
  by_cases h8 : s.size < 20
  · have hv : S (tcpSeal a b (L s)) = s := by unfold tcpSeal; rw [L_length, if_pos h8, S_L]
    rw [hv]
    have q2 : (s.size : Int) < 20 := by omega
    clear hv
    go_enter Tryz.func132, Tryz.ntmps132
    go_wp2_with fail
    go_ret
    exact ⟨rfl, (by (repeat' (first | with_reducible exact Below.refl _ _ | with_reducible refine Below.setCell ?_ (by first | exact Nat.le_refl _ | (dsimp only; omega)) _ | with_reducible refine bstep ?_ (fresh_below _ _) | with_reducible refine Below.drew ?_)))⟩
  · have q2 : ¬ (s.size : Int) < 20 := by omega
    have i1 : (18 : Int) ≤ (s.size : Int) := by omega
    have i2 : (16 : Int) ≤ (s.size : Int) := by omega
    have hv : S (tcpSeal a b (L s)) = S (lay (L s) 16 (tcpSum a b (L s))) := by unfold tcpSeal; rw [L_length, if_neg h8]
    rw [hv]
    have hub := tcpSum_bd a b (L s)
    have c4 := fun w => r_Put16 (tcpSum a b (L s)) w hub.1 hub.2
    have c1 := fun w => r5_Pseudo a b 6 s.size w ha hb (by omega) hs
    obtain ⟨q, hq⟩ : ∃ q, q = S (pseudo a b 6 s.size) := ⟨_, rfl⟩
    have zq : q.size = 12 := by rw [hq]; rfl
    obtain ⟨f, hf⟩ : ∃ f, f = s.extract 0 16 := ⟨_, rfl⟩
    obtain ⟨g, hg⟩ : ∃ g, g = s.extract 18 s.size := ⟨_, rfl⟩
    have zf : f.size = 16 := by rw [hf, ByteArray.size_extract]; omega
    have zg : g.size = s.size - 18 := by rw [hg, ByteArray.size_extract]; omega
    have hLf : L f = (L s).take 16 := by rw [hf, L_to]
    have hLg : L g = (L s).drop 18 := by rw [hg, L_from]
    have z00 : (f ++ { data := #[0, 0] }).size = 18 := by rw [ByteArray.size_append, zf]; rfl
    have hLm : L (f ++ { data := #[0, 0] } ++ g) = lay (L s) 16 0 := by rw [L_append, L_append, hLf, hLg]; rfl
    have hzm : (f ++ { data := #[0, 0] } ++ g).size = s.size := by rw [ByteArray.size_append, z00, zg]; omega
    have c2 := fun W => r_Sum (some ⟨W.heap.size, 0, none⟩) 2 2 [q, f ++ { data := #[0, 0] } ++ g] (W.alloc (.cells #[.string q, .string (f ++ { data := #[0, 0] } ++ g)] 9)) (Row.freshAt W #[.string q, .string (f ++ { data := #[0, 0] } ++ g)] 9 W.heap.size _ _ rfl rfl rfl) (by
      intro x hx
      simp only [List.mem_cons, List.not_mem_nil, or_false] at hx
      rcases hx with rfl | rfl
      · omega
      · rw [hzm]; exact hs) (by omega)
    have hm : sumL ([q, f ++ { data := #[0, 0] } ++ g].map L) = tcpSum a b (L s) := by
      rw [List.map_cons, List.map_cons, hLm, hq]; rfl
    rw [hm] at c2
    rw [← hq] at c1
    obtain ⟨n, hn⟩ : ∃ n, n = tcpSum a b (L s) := ⟨_, rfl⟩
    rw [← hn] at c2 c4 hub ⊢
    obtain ⟨p, hp⟩ : ∃ p, p = S (put16 n) := ⟨_, rfl⟩
    have zp : p.size = 2 := by rw [hp]; rfl
    rw [← hp] at c4
    have zg2 : g.size ≤ 140737488351232 := by omega
    have zfp : (f ++ p).size = 18 := by rw [ByteArray.size_append, zf, zp]
    have hend : f ++ p ++ g = S (lay (L s) 16 n) := by
      apply L_inj
      rw [L_S, L_append, L_append, hLf, hLg, hp]; rfl
    subst hf
    subst hg
    have HE := hide hend; have C1 := hide c1; have C2 := hide c2; have C4 := hide c4
    clear zf zg zg2 z00 hzm hend c1 c2 c4 hLf hLg hLm hm hn hp hv hq
    go_enter Tryz.func132, Tryz.ntmps132
    go_wp2_with fail
    go_region_held_law (fun _ => True) (trivial)
      (first | (go_at_call 187; (with_reducible refine (C1.out _).mono ?_); rintro e w1 ⟨rfl, b1⟩) | (go_at_call 129; (with_reducible refine (C2.out _).mono ?_); rintro e w2 ⟨rfl, b2⟩))
    all_goals
     go_wp2_with fail
     go_region_held_law (fun _ => True) (trivial)
      (first | (go_at_call 118; (with_reducible refine (C4.out _).mono ?_); rintro e w3 ⟨rfl, b3⟩))
     all_goals
      go_wp2
      go_ret
      refine ⟨ret_str HE.out, ?_⟩
      repeat' (first | with_reducible exact Below.refl _ _ | with_reducible refine bstep ?_ b3 | with_reducible refine bstep ?_ b2 | with_reducible refine bstep ?_ b1 | with_reducible refine Below.drew ?_ | with_reducible refine bstep ?_ (fresh_below _ _))
end Go.Proofs.YtilfcikhipadpaaGreatDoor
end

section
/- porterref08.Load, Made, Wrong at any tuple: that something is made, and how long it is. -/
set_option linter.unusedVariables false
set_option linter.unusedSimpArgs false
namespace Go.Proofs.YtilfcikhipadpaaGreatDoor
open Go.RowKit
attribute [local go_sem] Oper.semAt_some

set_option maxRecDepth 100000 in
set_option maxHeartbeats 2000000 in
theorem load_tcp (a b c d f : Int) (data p1 l1 : ByteArray) (w : World)
    (c1 : ∀ W, Calls Tryz.prog 131 #[.agg #[.int .u16 b, .int .u16 d, .int .u32 1000, .int .u32 2000, .int .u8 0, .int .u8 f, .int .u16 512, .int .u16 0, .int .u16 0, .string { data := #[] }], .string data] W (Ret (.tuple #[.string p1, .int .i64 0]) W))
    (c2 : ∀ W, Calls Tryz.prog 132 #[.int .u32 a, .int .u32 c, .string p1] W (Ret (.string l1) W)) :
    Calls Tryz.prog 77 #[.agg #[.int .u8 6, .int .u32 a, .int .u16 b, .int .u32 c, .int .u16 d], .int .u8 f, .string data] w (Ret (.string l1) w) := by
  have C1 := hide c1; have C2 := hide c2
  clear c1 c2
  go_enter Tryz.func77, Tryz.ntmps77
  have d0 := Cells.new w #[.int .u8 6, .int .u32 a, .int .u16 b, .int .u32 c, .int .u16 d] 33
  obtain ⟨xd0_0, xd0_1, xd0_2, xd0_3, xd0_4⟩ := d0.x5
  go_wp2_with fail
  (with_reducible refine (C1.out _).mono ?_)
  rintro e w1 ⟨rfl, b1⟩
  replace d0 := Cells.below b1 d0
  replace b1 := bstep (fresh_below _ _) b1
  clear xd0_0 xd0_1 xd0_2 xd0_3 xd0_4
  obtain ⟨xd0_0, xd0_1, xd0_2, xd0_3, xd0_4⟩ := d0.x5
  go_wp2_with fail
  (with_reducible refine (C2.out _).mono ?_)
  rintro e w2 ⟨rfl, b2⟩
  go_wp2_with fail
  go_ret
  exact ⟨rfl, bstep b1 b2⟩
theorem tcpSeal_len (a b : Int) (l : List UInt8) : (tcpSeal a b l).length = l.length := by
  unfold tcpSeal
  split
  · rfl
  · rw [lay_length (by omega)]
theorem udpSeal_len (a b : Int) (l : List UInt8) : (udpSeal a b l).length = l.length := by
  unfold udpSeal
  split
  · rfl
  · simp only [List.length_append, List.length_take, List.length_drop, put16_length]; omega
theorem icmpSeal_len (l : List UInt8) : (icmpSeal l).length = l.length := by
  unfold icmpSeal
  split
  · rfl
  · rw [lay_length (by omega)]
theorem loadG (p a b c d f : Int) (data : ByteArray) (hp : p = 6 ∨ p = 17 ∨ (p = 1 ∧ (d = 0 ∨ (b = 0 ∧ d ≠ 0)))) (ha : 0 ≤ a ∧ a ≤ 4294967295) (hb : 0 ≤ b ∧ b ≤ 65535) (hc : 0 ≤ c ∧ c ≤ 4294967295) (hd : 0 ≤ d ∧ d ≤ 65535) (hf : 0 ≤ f ∧ f ≤ 255) (hz : data.size ≤ 1000) :
    ∃ l1 : ByteArray, l1.size ≤ data.size + 20 ∧ ∀ W, Calls Tryz.prog 77 #[.agg #[.int .u8 p, .int .u32 a, .int .u16 b, .int .u32 c, .int .u16 d], .int .u8 f, .string data] W (Ret (.string l1) W) := by
  have hL := L_length data
  rcases hp with rfl | rfl | ⟨rfl, h⟩
  · have ho : (Seg.mk b d 1000 2000 0 f 512 0 0 { data := #[] }).Ok := by
      refine ⟨hb, hd, ?_, ?_, ?_, hf, ?_, ?_, ?_, ?_⟩ <;> (dsimp only; decide)
    have hz1 : ((Seg.mk b d 1000 2000 0 f 512 0 0 { data := #[] }).put data).length = data.size + 20 := by
      unfold Seg.put Seg.head
      simp only [List.length_append, putW_length, put32_length, L_length, List.length_cons, List.length_nil]
      have e0 : ({ data := #[] } : ByteArray).size = 0 := rfl
      omega
    have c1 := fun W => r6_Put_yes b d 1000 2000 0 f 512 0 0 { data := #[] } data W ho (by omega) rfl
    have c2 := fun W => r6_Seal a c (S ((Seg.mk b d 1000 2000 0 f 512 0 0 { data := #[] }).put data)) W ha hc (by rw [S_size]; omega)
    exact ⟨_, by rw [S_size, tcpSeal_len, L_S, hz1]; exact Nat.le_refl _, fun W => load_tcp a b c d f data _ _ W c1 c2⟩
  · have hz1 : (udpWords b d ((8 + (data.size : Int)) % 65536) 0 ++ L data).length = data.size + 8 := by
      unfold udpWords
      simp only [List.length_append, putW_length, L_length, List.length_cons, List.length_nil]; omega
    have c1 := fun W => r5_Put b d 0 0 data W hb hd (by decide) (by omega)
    have c2 := fun W => r5_Seal a c (S (udpWords b d ((8 + data.size) % 65536) 0 ++ L data)) W ha hc (by rw [S_size]; omega)
    exact ⟨_, by rw [S_size, udpSeal_len, L_S, hz1]; omega, fun W => load_udp a b c d f data _ _ W c1 c2⟩
  · have z4 : ({ data := #[0, 0, 0, 1] } : ByteArray).size = 4 := rfl
    have rs : ∀ (m : Msg) (id : Int), m.r.size = 4 → (msgID m id).r.size = 4 := by
      intro m id h4
      show (if 2 ≤ m.r.size then S (lay (L m.r) 0 id) else m.r).size = 4
      rw [if_pos (by omega), S_size, lay_length (by rw [L_length]; omega), L_length, h4]
    have ms : ∀ m : Msg, m.r.size = 4 → (msgPut m).length = m.d.size + 8 := by
      intro m h4
      unfold msgPut
      simp only [List.length_append, put16_length, L_length, List.length_cons, List.length_nil]; omega
    by_cases hd0 : d = 0
    · subst hd0
      have o1 : (Msg.mk 8 0 0 { data := #[0, 0, 0, 1] } data).Ok := ⟨⟨(by decide : (0 : Int) ≤ 8), (by decide : (8 : Int) ≤ 255)⟩, ⟨(by decide : (0 : Int) ≤ 0), (by decide : (0 : Int) ≤ 255)⟩, ⟨(by decide : (0 : Int) ≤ 0), (by decide : (0 : Int) ≤ 65535)⟩, by rw [z4]; decide, by dsimp only; omega⟩
      have r1 := rs ⟨8, 0, 0, { data := #[0, 0, 0, 1] }, data⟩ b rfl
      have o2 : (msgID ⟨8, 0, 0, { data := #[0, 0, 0, 1] }, data⟩ b).Ok := ⟨o1.1, o1.2.1, o1.2.2.1, by rw [r1]; decide, o1.2.2.2.2⟩
      have c1 := fun W => r7_WithID ⟨8, 0, 0, { data := #[0, 0, 0, 1] }, data⟩ b W o1 hb
      have c3 := fun W => r7_Put_yes (msgID ⟨8, 0, 0, { data := #[0, 0, 0, 1] }, data⟩ b) W o2 r1
      have hz1 := ms _ r1
      have hz2 : (msgID ⟨8, 0, 0, { data := #[0, 0, 0, 1] }, data⟩ b).d = data := rfl
      rw [hz2] at hz1
      have c4 := fun W => r7_Seal (S (msgPut (msgID ⟨8, 0, 0, { data := #[0, 0, 0, 1] }, data⟩ b))) W (by rw [S_size]; omega)
      exact ⟨_, by rw [S_size, icmpSeal_len, L_S, hz1]; omega, fun W => load_ask a b c f data _ _ _ _ _ 0 0 0 _ _ data data W c1 c3 c4⟩
    · have hb0 : b = 0 := by omega
      subst hb0
      have o1 : (Msg.mk 8 0 0 { data := #[0, 0, 0, 1] } data).Ok := ⟨⟨(by decide : (0 : Int) ≤ 8), (by decide : (8 : Int) ≤ 255)⟩, ⟨(by decide : (0 : Int) ≤ 0), (by decide : (0 : Int) ≤ 255)⟩, ⟨(by decide : (0 : Int) ≤ 0), (by decide : (0 : Int) ≤ 65535)⟩, by rw [z4]; decide, by dsimp only; omega⟩
      have r1 := rs ⟨8, 0, 0, { data := #[0, 0, 0, 1] }, data⟩ 0 rfl
      obtain ⟨y3, hy3⟩ : ∃ y, y = (msgID ⟨8, 0, 0, { data := #[0, 0, 0, 1] }, data⟩ 0).r := ⟨_, rfl⟩
      rw [← hy3] at r1
      have c1 := fun W => r7_WithID ⟨8, 0, 0, { data := #[0, 0, 0, 1] }, data⟩ 0 W o1 (by decide)
      rw [← hy3] at c1
      have o2 : (Msg.mk 0 0 0 y3 data).Ok := ⟨⟨(by decide : (0 : Int) ≤ 0), (by decide : (0 : Int) ≤ 255)⟩, o1.2.1, o1.2.2.1, by rw [r1]; decide, o1.2.2.2.2⟩
      have r2 := rs ⟨0, 0, 0, y3, data⟩ d r1
      have o3 : (msgID ⟨0, 0, 0, y3, data⟩ d).Ok := ⟨o2.1, o2.2.1, o2.2.2.1, by rw [r2]; decide, o2.2.2.2.2⟩
      have c2 := fun W => r7_WithID ⟨0, 0, 0, y3, data⟩ d W o2 hd
      have c3 := fun W => r7_Put_yes (msgID ⟨0, 0, 0, y3, data⟩ d) W o3 r2
      have hz1 := ms _ r2
      have hz2 : (msgID ⟨0, 0, 0, y3, data⟩ d).d = data := rfl
      rw [hz2] at hz1
      have c4 := fun W => r7_Seal (S (msgPut (msgID ⟨0, 0, 0, y3, data⟩ d))) W (by rw [S_size]; omega)
      exact ⟨_, by rw [S_size, icmpSeal_len, L_S, hz1]; omega, fun W => load_told a c d f data _ _ _ _ _ _ _ _ _ _ _ _ W hd0 c1 c2 c3 c4⟩
theorem madeG (p a b c d f l : Int) (data : ByteArray) (hp : p = 6 ∨ p = 17 ∨ (p = 1 ∧ (d = 0 ∨ (b = 0 ∧ d ≠ 0)))) (ha : 0 ≤ a ∧ a ≤ 4294967295) (hb : 0 ≤ b ∧ b ≤ 65535) (hc : 0 ≤ c ∧ c ≤ 4294967295) (hd : 0 ≤ d ∧ d ≤ 65535) (hf : 0 ≤ f ∧ f ≤ 255) (hl : 0 ≤ l ∧ l ≤ 255) (hz : data.size ≤ 1000) :
    ∃ out : ByteArray, out.size ≤ data.size + 40 ∧ ∀ W, Calls Tryz.prog 28 #[.agg #[.int .u8 p, .int .u32 a, .int .u16 b, .int .u32 c, .int .u16 d], .int .u8 f, .int .u8 l, .string data] W (Ret (.string out) W) := by
  obtain ⟨l1, h1, c1⟩ := loadG p a b c d f data hp ha hb hc hd hf hz
  have ho : (Hd.mk 0 0 false l p a c { data := #[] }).Ok := by
    refine ⟨?_, ?_, hl, ?_, ha, hc, ?_⟩
    · dsimp only; decide
    · dsimp only; decide
    · dsimp only; omega
    · dsimp only; decide
  have c2 := fun W => r4_Put 0 0 l p a c false { data := #[] } l1 W ho (by omega)
  have e0 : ({ data := #[] } : ByteArray).size = 0 := rfl
  have he : ipErr (Hd.mk 0 0 false l p a c { data := #[] }) l1 = 0 := by
    unfold ipErr
    rw [if_neg (by rw [e0]; omega), if_neg (by rw [e0]; omega)]
  rw [he] at c2
  refine ⟨ipText (Hd.mk 0 0 false l p a c { data := #[] }) l1, ?_, fun W => made p a b c d f l data l1 _ W c1 c2⟩
  unfold ipText
  rw [if_pos he, S_size]
  unfold Hd.put Hd.bytes
  simp only [Hd.words, List.length_append, putW_length, put32_length, L_length, List.length_cons, List.length_nil]
  omega
theorem wrongG (a c k : Int) (about : ByteArray) (ha : 0 ≤ a ∧ a ≤ 4294967295) (hc : 0 ≤ c ∧ c ≤ 4294967295) (hk : 0 ≤ k ∧ k ≤ 255) (hz : about.size ≤ 548) :
    ∃ out : ByteArray, out.size ≤ about.size + 28 ∧ ∀ W, Calls Tryz.prog 30 #[.int .u32 a, .int .u32 c, .int .u8 k, .string about] W (Ret (.string out) W) := by
  have z4 : ({ data := #[0, 0, 0, 0] } : ByteArray).size = 4 := rfl
  have o1 : (Msg.mk k 1 0 { data := #[0, 0, 0, 0] } about).Ok := ⟨hk, ⟨(by decide : (0 : Int) ≤ 1), (by decide : (1 : Int) ≤ 255)⟩, ⟨(by decide : (0 : Int) ≤ 0), (by decide : (0 : Int) ≤ 65535)⟩, by rw [z4]; decide, by dsimp only; omega⟩
  have c1 := fun W => r7_Put_yes ⟨k, 1, 0, { data := #[0, 0, 0, 0] }, about⟩ W o1 rfl
  have hz1 : (msgPut ⟨k, 1, 0, { data := #[0, 0, 0, 0] }, about⟩).length = about.size + 8 := by
    unfold msgPut
    simp only [List.length_append, put16_length, L_length, List.length_cons, List.length_nil]; omega
  have c2 := fun W => r7_Seal (S (msgPut ⟨k, 1, 0, { data := #[0, 0, 0, 0] }, about⟩)) W (by rw [S_size]; omega)
  have h1 : (S (icmpSeal (L (S (msgPut ⟨k, 1, 0, { data := #[0, 0, 0, 0] }, about⟩))))).size = about.size + 8 := by rw [S_size, icmpSeal_len, L_S, hz1]
  generalize S (icmpSeal (L (S (msgPut ⟨k, 1, 0, { data := #[0, 0, 0, 0] }, about⟩)))) = l1 at *
  have ho : (Hd.mk 0 0 false 64 1 a c { data := #[] }).Ok := by
    refine ⟨?_, ?_, ?_, ?_, ha, hc, ?_⟩ <;> (dsimp only; decide)
  have c3 := fun W => r4_Put 0 0 64 1 a c false { data := #[] } l1 W ho (by omega)
  have e0 : ({ data := #[] } : ByteArray).size = 0 := rfl
  have he : ipErr (Hd.mk 0 0 false 64 1 a c { data := #[] }) l1 = 0 := by
    unfold ipErr
    rw [if_neg (by rw [e0]; omega), if_neg (by rw [e0]; omega)]
  rw [he] at c3
  refine ⟨ipText (Hd.mk 0 0 false 64 1 a c { data := #[] }) l1, ?_, fun W => wrong_of a c k about _ l1 _ W hz c1 c2 c3⟩
  unfold ipText
  rw [if_pos he, S_size]
  unfold Hd.put Hd.bytes
  simp only [Hd.words, List.length_append, putW_length, put32_length, L_length, List.length_cons, List.length_nil]
  omega
end Go.Proofs.YtilfcikhipadpaaGreatDoor
end
