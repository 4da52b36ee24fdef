/- Several texts of this claim, one behind the other. -/
import Derived.Test.YtilfcikhipadpaaGreatDoorK23
import Derived.KernelRfl
import Derived.Deep.CutRange

section
/- porterref08.Load, Made, Wrong at any tuple: that something is made, and how long it is. -/
set_option linter.unusedVariables false
set_option linter.unusedSimpArgs false
namespace Go.Proofs.YtilfcikhipadpaaGreatDoor
open Go.RowKit
attribute [local go_sem] Oper.semAt_some

set_option maxRecDepth 100000 in
set_option maxHeartbeats 2000000 in
theorem load_tcp (a b c d f : Int) (data p1 l1 : ByteArray) (w : World)
    (c1 : ∀ W, Calls Tryz.prog 131 #[.agg #[.int .u16 b, .int .u16 d, .int .u32 1000, .int .u32 2000, .int .u8 0, .int .u8 f, .int .u16 512, .int .u16 0, .int .u16 0, .string { data := #[] }], .string data] W (Ret (.tuple #[.string p1, .int .i64 0]) W))
    (c2 : ∀ W, Calls Tryz.prog 132 #[.int .u32 a, .int .u32 c, .string p1] W (Ret (.string l1) W)) :
    Calls Tryz.prog 77 #[.agg #[.int .u8 6, .int .u32 a, .int .u16 b, .int .u32 c, .int .u16 d], .int .u8 f, .string data] w (Ret (.string l1) w) := by
  have C1 := hide c1; have C2 := hide c2
  clear c1 c2
  go_enter Tryz.func77, Tryz.ntmps77
  have d0 := Cells.new w #[.int .u8 6, .int .u32 a, .int .u16 b, .int .u32 c, .int .u16 d] 33
  obtain ⟨xd0_0, xd0_1, xd0_2, xd0_3, xd0_4⟩ := d0.x5
  go_wp2_with fail
  (with_reducible refine (C1.out _).mono ?_)
  rintro e w1 ⟨rfl, b1⟩
  replace d0 := Cells.below b1 d0
  replace b1 := bstep (fresh_below _ _) b1
  clear xd0_0 xd0_1 xd0_2 xd0_3 xd0_4
  obtain ⟨xd0_0, xd0_1, xd0_2, xd0_3, xd0_4⟩ := d0.x5
  go_wp2_with fail
  (with_reducible refine (C2.out _).mono ?_)
  rintro e w2 ⟨rfl, b2⟩
  go_wp2_with fail
  go_ret
  exact ⟨rfl, bstep b1 b2⟩
theorem tcpSeal_len (a b : Int) (l : List UInt8) : (tcpSeal a b l).length = l.length := by
  unfold tcpSeal
  split
  · rfl
  · rw [lay_length (by omega)]
theorem udpSeal_len (a b : Int) (l : List UInt8) : (udpSeal a b l).length = l.length := by
  unfold udpSeal
  split
  · rfl
  · simp only [List.length_append, List.length_take, List.length_drop, put16_length]; omega
theorem icmpSeal_len (l : List UInt8) : (icmpSeal l).length = l.length := by
  unfold icmpSeal
  split
  · rfl
  · rw [lay_length (by omega)]
theorem loadG (p a b c d f : Int) (data : ByteArray) (hp : p = 6 ∨ p = 17 ∨ (p = 1 ∧ (d = 0 ∨ (b = 0 ∧ d ≠ 0)))) (ha : 0 ≤ a ∧ a ≤ 4294967295) (hb : 0 ≤ b ∧ b ≤ 65535) (hc : 0 ≤ c ∧ c ≤ 4294967295) (hd : 0 ≤ d ∧ d ≤ 65535) (hf : 0 ≤ f ∧ f ≤ 255) (hz : data.size ≤ 1000) :
    ∃ l1 : ByteArray, l1.size ≤ data.size + 20 ∧ ∀ W, Calls Tryz.prog 77 #[.agg #[.int .u8 p, .int .u32 a, .int .u16 b, .int .u32 c, .int .u16 d], .int .u8 f, .string data] W (Ret (.string l1) W) := by
  have hL := L_length data
  rcases hp with rfl | rfl | ⟨rfl, h⟩
  · have ho : (Seg.mk b d 1000 2000 0 f 512 0 0 { data := #[] }).Ok := by
      refine ⟨hb, hd, ?_, ?_, ?_, hf, ?_, ?_, ?_, ?_⟩ <;> (dsimp only; decide)
    have hz1 : ((Seg.mk b d 1000 2000 0 f 512 0 0 { data := #[] }).put data).length = data.size + 20 := by
      unfold Seg.put Seg.head
      simp only [List.length_append, putW_length, put32_length, L_length, List.length_cons, List.length_nil]
      have e0 : ({ data := #[] } : ByteArray).size = 0 := rfl
      omega
    have c1 := fun W => r6_Put_yes b d 1000 2000 0 f 512 0 0 { data := #[] } data W ho (by omega) rfl
    have c2 := fun W => r6_Seal a c (S ((Seg.mk b d 1000 2000 0 f 512 0 0 { data := #[] }).put data)) W ha hc (by rw [S_size]; omega)
    exact ⟨_, by rw [S_size, tcpSeal_len, L_S, hz1]; exact Nat.le_refl _, fun W => load_tcp a b c d f data _ _ W c1 c2⟩
  · have hz1 : (udpWords b d ((8 + (data.size : Int)) % 65536) 0 ++ L data).length = data.size + 8 := by
      unfold udpWords
      simp only [List.length_append, putW_length, L_length, List.length_cons, List.length_nil]; omega
    have c1 := fun W => r5_Put b d 0 0 data W hb hd (by decide) (by omega)
    have c2 := fun W => r5_Seal a c (S (udpWords b d ((8 + data.size) % 65536) 0 ++ L data)) W ha hc (by rw [S_size]; omega)
    exact ⟨_, by rw [S_size, udpSeal_len, L_S, hz1]; omega, fun W => load_udp a b c d f data _ _ W c1 c2⟩
  · have z4 : ({ data := #[0, 0, 0, 1] } : ByteArray).size = 4 := rfl
    have rs : ∀ (m : Msg) (id : Int), m.r.size = 4 → (msgID m id).r.size = 4 := by
      intro m id h4
      show (if 2 ≤ m.r.size then S (lay (L m.r) 0 id) else m.r).size = 4
      rw [if_pos (by omega), S_size, lay_length (by rw [L_length]; omega), L_length, h4]
    have ms : ∀ m : Msg, m.r.size = 4 → (msgPut m).length = m.d.size + 8 := by
      intro m h4
      unfold msgPut
      simp only [List.length_append, put16_length, L_length, List.length_cons, List.length_nil]; omega
    by_cases hd0 : d = 0
    · subst hd0
      have o1 : (Msg.mk 8 0 0 { data := #[0, 0, 0, 1] } data).Ok := ⟨⟨(by decide : (0 : Int) ≤ 8), (by decide : (8 : Int) ≤ 255)⟩, ⟨(by decide : (0 : Int) ≤ 0), (by decide : (0 : Int) ≤ 255)⟩, ⟨(by decide : (0 : Int) ≤ 0), (by decide : (0 : Int) ≤ 65535)⟩, by rw [z4]; decide, by dsimp only; omega⟩
      have r1 := rs ⟨8, 0, 0, { data := #[0, 0, 0, 1] }, data⟩ b rfl
      have o2 : (msgID ⟨8, 0, 0, { data := #[0, 0, 0, 1] }, data⟩ b).Ok := ⟨o1.1, o1.2.1, o1.2.2.1, by rw [r1]; decide, o1.2.2.2.2⟩
      have c1 := fun W => r7_WithID ⟨8, 0, 0, { data := #[0, 0, 0, 1] }, data⟩ b W o1 hb
      have c3 := fun W => r7_Put_yes (msgID ⟨8, 0, 0, { data := #[0, 0, 0, 1] }, data⟩ b) W o2 r1
      have hz1 := ms _ r1
      have hz2 : (msgID ⟨8, 0, 0, { data := #[0, 0, 0, 1] }, data⟩ b).d = data := rfl
      rw [hz2] at hz1
      have c4 := fun W => r7_Seal (S (msgPut (msgID ⟨8, 0, 0, { data := #[0, 0, 0, 1] }, data⟩ b))) W (by rw [S_size]; omega)
      exact ⟨_, by rw [S_size, icmpSeal_len, L_S, hz1]; omega, fun W => load_ask a b c f data _ _ _ _ _ 0 0 0 _ _ data data W c1 c3 c4⟩
    · have hb0 : b = 0 := by omega
      subst hb0
      have o1 : (Msg.mk 8 0 0 { data := #[0, 0, 0, 1] } data).Ok := ⟨⟨(by decide : (0 : Int) ≤ 8), (by decide : (8 : Int) ≤ 255)⟩, ⟨(by decide : (0 : Int) ≤ 0), (by decide : (0 : Int) ≤ 255)⟩, ⟨(by decide : (0 : Int) ≤ 0), (by decide : (0 : Int) ≤ 65535)⟩, by rw [z4]; decide, by dsimp only; omega⟩
      have r1 := rs ⟨8, 0, 0, { data := #[0, 0, 0, 1] }, data⟩ 0 rfl
      obtain ⟨y3, hy3⟩ : ∃ y, y = (msgID ⟨8, 0, 0, { data := #[0, 0, 0, 1] }, data⟩ 0).r := ⟨_, rfl⟩
      rw [← hy3] at r1
      have c1 := fun W => r7_WithID ⟨8, 0, 0, { data := #[0, 0, 0, 1] }, data⟩ 0 W o1 (by decide)
      rw [← hy3] at c1
      have o2 : (Msg.mk 0 0 0 y3 data).Ok := ⟨⟨(by decide : (0 : Int) ≤ 0), (by decide : (0 : Int) ≤ 255)⟩, o1.2.1, o1.2.2.1, by rw [r1]; decide, o1.2.2.2.2⟩
      have r2 := rs ⟨0, 0, 0, y3, data⟩ d r1
      have o3 : (msgID ⟨0, 0, 0, y3, data⟩ d).Ok := ⟨o2.1, o2.2.1, o2.2.2.1, by rw [r2]; decide, o2.2.2.2.2⟩
      have c2 := fun W => r7_WithID ⟨0, 0, 0, y3, data⟩ d W o2 hd
      have c3 := fun W => r7_Put_yes (msgID ⟨0, 0, 0, y3, data⟩ d) W o3 r2
      have hz1 := ms _ r2
      have hz2 : (msgID ⟨0, 0, 0, y3, data⟩ d).d = data := rfl
      rw [hz2] at hz1
      have c4 := fun W => r7_Seal (S (msgPut (msgID ⟨0, 0, 0, y3, data⟩ d))) W (by rw [S_size]; omega)
      exact ⟨_, by rw [S_size, icmpSeal_len, L_S, hz1]; omega, fun W => load_told a c d f data _ _ _ _ _ _ _ _ _ _ _ _ W hd0 c1 c2 c3 c4⟩
theorem madeG (p a b c d f l : Int) (data : ByteArray) (hp : p = 6 ∨ p = 17 ∨ (p = 1 ∧ (d = 0 ∨ (b = 0 ∧ d ≠ 0)))) (ha : 0 ≤ a ∧ a ≤ 4294967295) (hb : 0 ≤ b ∧ b ≤ 65535) (hc : 0 ≤ c ∧ c ≤ 4294967295) (hd : 0 ≤ d ∧ d ≤ 65535) (hf : 0 ≤ f ∧ f ≤ 255) (hl : 0 ≤ l ∧ l ≤ 255) (hz : data.size ≤ 1000) :
    ∃ out : ByteArray, out.size ≤ data.size + 40 ∧ ∀ W, Calls Tryz.prog 28 #[.agg #[.int .u8 p, .int .u32 a, .int .u16 b, .int .u32 c, .int .u16 d], .int .u8 f, .int .u8 l, .string data] W (Ret (.string out) W) := by
  obtain ⟨l1, h1, c1⟩ := loadG p a b c d f data hp ha hb hc hd hf hz
  have ho : (Hd.mk 0 0 false l p a c { data := #[] }).Ok := by
    refine ⟨?_, ?_, hl, ?_, ha, hc, ?_⟩
    · dsimp only; decide
    · dsimp only; decide
    · dsimp only; omega
    · dsimp only; decide
  have c2 := fun W => r4_Put 0 0 l p a c false { data := #[] } l1 W ho (by omega)
  have e0 : ({ data := #[] } : ByteArray).size = 0 := rfl
  have he : ipErr (Hd.mk 0 0 false l p a c { data := #[] }) l1 = 0 := by
    unfold ipErr
    rw [if_neg (by rw [e0]; omega), if_neg (by rw [e0]; omega)]
  rw [he] at c2
  refine ⟨ipText (Hd.mk 0 0 false l p a c { data := #[] }) l1, ?_, fun W => made p a b c d f l data l1 _ W c1 c2⟩
  unfold ipText
  rw [if_pos he, S_size]
  unfold Hd.put Hd.bytes
  simp only [Hd.words, List.length_append, putW_length, put32_length, L_length, List.length_cons, List.length_nil]
  omega
theorem wrongG (a c k : Int) (about : ByteArray) (ha : 0 ≤ a ∧ a ≤ 4294967295) (hc : 0 ≤ c ∧ c ≤ 4294967295) (hk : 0 ≤ k ∧ k ≤ 255) (hz : about.size ≤ 548) :
    ∃ out : ByteArray, out.size ≤ about.size + 28 ∧ ∀ W, Calls Tryz.prog 30 #[.int .u32 a, .int .u32 c, .int .u8 k, .string about] W (Ret (.string out) W) := by
  have z4 : ({ data := #[0, 0, 0, 0] } : ByteArray).size = 4 := rfl
  have o1 : (Msg.mk k 1 0 { data := #[0, 0, 0, 0] } about).Ok := ⟨hk, ⟨(by decide : (0 : Int) ≤ 1), (by decide : (1 : Int) ≤ 255)⟩, ⟨(by decide : (0 : Int) ≤ 0), (by decide : (0 : Int) ≤ 65535)⟩, by rw [z4]; decide, by dsimp only; omega⟩
  have c1 := fun W => r7_Put_yes ⟨k, 1, 0, { data := #[0, 0, 0, 0] }, about⟩ W o1 rfl
  have hz1 : (msgPut ⟨k, 1, 0, { data := #[0, 0, 0, 0] }, about⟩).length = about.size + 8 := by
    unfold msgPut
    simp only [List.length_append, put16_length, L_length, List.length_cons, List.length_nil]; omega
  have c2 := fun W => r7_Seal (S (msgPut ⟨k, 1, 0, { data := #[0, 0, 0, 0] }, about⟩)) W (by rw [S_size]; omega)
  have h1 : (S (icmpSeal (L (S (msgPut ⟨k, 1, 0, { data := #[0, 0, 0, 0] }, about⟩))))).size = about.size + 8 := by rw [S_size, icmpSeal_len, L_S, hz1]
  generalize S (icmpSeal (L (S (msgPut ⟨k, 1, 0, { data := #[0, 0, 0, 0] }, about⟩)))) = l1 at *
  have ho : (Hd.mk 0 0 false 64 1 a c { data := #[] }).Ok := by
    refine ⟨?_, ?_, ?_, ?_, ha, hc, ?_⟩ <;> (dsimp only; decide)
  have c3 := fun W => r4_Put 0 0 64 1 a c false { data := #[] } l1 W ho (by omega)
  have e0 : ({ data := #[] } : ByteArray).size = 0 := rfl
  have he : ipErr (Hd.mk 0 0 false 64 1 a c { data := #[] }) l1 = 0 := by
    unfold ipErr
    rw [if_neg (by rw [e0]; omega), if_neg (by rw [e0]; omega)]
  rw [he] at c3
  refine ⟨ipText (Hd.mk 0 0 false 64 1 a c { data := #[] }) l1, ?_, fun W => wrong_of a c k about _ l1 _ W hz c1 c2 c3⟩
  unfold ipText
  rw [if_pos he, S_size]
  unfold Hd.put Hd.bytes
  simp only [Hd.words, List.length_append, putW_length, put32_length, L_length, List.length_cons, List.length_nil]
  omega
end Go.Proofs.YtilfcikhipadpaaGreatDoor
end

section
/- A wire's points, flags, tuple, text. -/
set_option linter.unusedVariables false
namespace Go.Proofs.YtilfcikhipadpaaGreatDoor
open Go.RowKit Go.Lib

theorem idx_ev {P : Program} {T e : TypeId} {l : List Int} {k kk : IntKind} {i : Int} (hu : P.underlying T = some (.array l.length e)) (ha : Rx.pureRun P (isAgg e) = some false) (hs : Rx.pureRun P (sizeOf e) = some 1) (h : 0 ≤ i ∧ i < l.length) (W : World) :
    ((Instr.index T (.agg (l.map (Value.int k)).toArray) (.int kk i)) >>= fun v => (pure (Next.value v) : Sem Next)).run P W = .ok (.value (.int k (l.getD i.toNat 0))) W := by
  have h1 : (Instr.index T (.agg (l.map (Value.int k)).toArray) (.int kk i)).run P W = .ok (.int k (l.getD i.toNat 0)) W := by
    have hlt : i.toNat < l.length := by omega
    unfold Instr.index
    rw [Rx.run_bind_ok (show (asIntOf (.int kk i)).run P W = .ok (kk, i) W from rfl), Rx.run_bind_ok (run_underlying hu W)]
    simp only [h.1, h.2, and_self, if_true]
    rw [Rx.run_bind_ok (Rx.pureRun_run W _ _ hs)]
    unfold Go.part
    rw [Rx.run_bind_ok (Rx.pureRun_run W _ _ ha)]
    simp [List.getD_eq_getElem?_getD, hlt]
  rw [Rx.run_bind_ok h1]
  rfl
def hostL : List Int := [167772161, 167772162, 167772163, 134744072, 117901063, 151587081, 151587092, 134744073]
def portL : List Int := [4000, 4001, 53, 53, 80, 81, 82, 83, 1000, 1001, 1002, 1003, 1004, 1010, 8000, 8001]
def protoL : List Int := [17, 6, 1, 17]
def hostV (h : Int) : Int := hostL.getD (h.tmod 8).toNat 0
def portV (p : Int) : Int := portL.getD (p.tmod 16).toNat 0
def protoV (p : Int) : Int := protoL.getD (p.tmod 4).toNat 0
theorem tmod_lt {x : Int} (h : 0 ≤ x) (n : Int) (hn : 0 < n) : 0 ≤ x.tmod n ∧ x.tmod n < n := by
  rw [Int.tmod_eq_emod_of_nonneg h]
  exact ⟨Int.emod_nonneg _ (by omega), Int.emod_lt_of_pos _ (by omega)⟩
theorem getD_all {l : List Int} {p : Int → Prop} (h : ∀ x ∈ l, p x) (h0 : p 0) (i : Nat) : p (l.getD i 0) := by
  rw [List.getD_eq_getElem?_getD]
  cases hi : l[i]? with
  | none => exact h0
  | some x => exact h x (List.mem_of_getElem? hi)
theorem host_bd (h : Int) : 0 ≤ hostV h ∧ hostV h ≤ 4294967295 := getD_all (p := fun x => 0 ≤ x ∧ x ≤ 4294967295) (l := hostL) (by decide) (by decide) _
theorem port_bd (h : Int) : 0 ≤ portV h ∧ portV h ≤ 65535 := getD_all (p := fun x => 0 ≤ x ∧ x ≤ 65535) (l := portL) (by decide) (by decide) _
theorem proto_is (p : Int) (h : 0 ≤ p) : protoV p = 17 ∨ protoV p = 6 ∨ protoV p = 1 := by
  have hb := tmod_lt h 4 (by decide)
  unfold protoV
  generalize p.tmod 4 = i at *
  have : i = 0 ∨ i = 1 ∨ i = 2 ∨ i = 3 := by omega
  rcases this with rfl | rfl | rfl | rfl <;> decide
theorem w_point (h p : Int) (w : World) (h0 : 0 ≤ h) (p0 : 0 ≤ p) : Calls Tryz.prog 34 #[.int .u8 h, .int .u8 p] w (Ret (.agg #[.int .u32 (hostV h), .int .u16 (portV p)]) w) :=
  Rx.run (args := [.int .u8 h, .int .u8 p]) [Rx.gives 4 fun W _ => idx_ev (T := 174) (e := 28) (l := hostL) (k := .u32) (kk := .u8) (by kernel_rfl) (by kernel_rfl) (by kernel_rfl) (tmod_lt h0 8 (by decide)) W,
    Rx.gives 8 fun W _ => idx_ev (T := 175) (e := 29) (l := portL) (k := .u16) (kk := .u8) (by kernel_rfl) (by kernel_rfl) (by kernel_rfl) (tmod_lt p0 16 (by decide)) W]
def flV (fl : Int) : Int := if fl.tmod 4 < 2 then 2 else fl
def wireV (k p f t b p0 p1 fl : Int) (s : ByteArray) : Value := .agg #[.int .u8 k, .int .u8 p, .int .u8 f, .int .u8 t, .int .u8 b, .int .u8 p0, .int .u8 p1, .int .u8 fl, .string s]
theorem w_flags (k p f t b p0 p1 fl : Int) (s : ByteArray) (w : World) : Calls Tryz.prog 36 #[wireV k p f t b p0 p1 fl s] w (Ret (.int .u8 (flV fl)) w) := by
  unfold flV
  split
  · rename_i h
    exact Rx.run (args := [wireV k p f t b p0 p1 fl s]) [Rx.yes 6 (decide_eq_true h)]
  · rename_i h
    exact Rx.run (args := [wireV k p f t b p0 p1 fl s]) [Rx.no 6 (decide_eq_false h)]
def wireT (p f t p0 p1 fl : Int) : Tup := if protoV p = 1 then (if fl.tmod 4 = 0 then ⟨protoV p, hostV f, 0, hostV t, portV p1⟩ else ⟨protoV p, hostV f, portV p0, hostV t, 0⟩) else ⟨protoV p, hostV f, portV p0, hostV t, portV p1⟩
theorem w_Tuple (k p f t b p0 p1 fl : Int) (s : ByteArray) (w : World) (h : 0 ≤ p ∧ 0 ≤ f ∧ 0 ≤ t ∧ 0 ≤ p0 ∧ 0 ≤ p1 ∧ 0 ≤ fl) : Calls Tryz.prog 35 #[wireV k p f t b p0 p1 fl s] w (Ret (.agg #[.int .u8 (wireT p f t p0 p1 fl).p, .int .u32 (wireT p f t p0 p1 fl).a, .int .u16 (wireT p f t p0 p1 fl).b, .int .u32 (wireT p f t p0 p1 fl).c, .int .u16 (wireT p f t p0 p1 fl).d]) w) := by
  have c1 : ∀ W, (Rx.Amb.of w).S W → Calls Tryz.prog 34 #[.int .u8 f, .int .u8 p0] W (Ret (.agg #[.int .u32 (hostV f), .int .u16 (portV p0)]) W) := fun W _ => w_point f p0 W h.2.1 h.2.2.2.1
  have c2 : ∀ W, (Rx.Amb.of w).S W → Calls Tryz.prog 34 #[.int .u8 t, .int .u8 p1] W (Ret (.agg #[.int .u32 (hostV t), .int .u16 (portV p1)]) W) := fun W _ => w_point t p1 W h.2.2.1 h.2.2.2.2.1
  unfold wireT
  split
  · rename_i hp
    split
    · rename_i hf
      exact Rx.run (args := [wireV k p f t b p0 p1 fl s]) [Rx.gives 6 fun W _ => idx_ev (T := 176) (e := 5) (l := protoL) (k := .u8) (kk := .u8) (by kernel_rfl) (by kernel_rfl) (by kernel_rfl) (tmod_lt h.1 4 (by decide)) W, Rx.does 12 (args := [.int .u8 f, .int .u8 p0]) c1, Rx.does 18 (args := [.int .u8 t, .int .u8 p1]) c2,
        Rx.isT 25 (b := protoV p == 1) (by simpa using hp), Rx.yes 31 (b := fl.tmod 4 == 0) (by simpa using hf), Rx.isT 38 (b := protoV p == 1) (by simpa using hp), Rx.no 44 (b := decide (fl.tmod 4 > 0)) (by simp [hf])]
    · rename_i hf
      have hg : fl.tmod 4 > 0 := by have := (tmod_lt h.2.2.2.2.2 4 (by decide)).1; omega
      exact Rx.run (args := [wireV k p f t b p0 p1 fl s]) [Rx.gives 6 fun W _ => idx_ev (T := 176) (e := 5) (l := protoL) (k := .u8) (kk := .u8) (by kernel_rfl) (by kernel_rfl) (by kernel_rfl) (tmod_lt h.1 4 (by decide)) W, Rx.does 12 (args := [.int .u8 f, .int .u8 p0]) c1, Rx.does 18 (args := [.int .u8 t, .int .u8 p1]) c2,
        Rx.isT 25 (b := protoV p == 1) (by simpa using hp), Rx.no 31 (b := fl.tmod 4 == 0) (by simpa using hf), Rx.isT 35 (b := protoV p == 1) (by simpa using hp), Rx.yes 41 (b := decide (fl.tmod 4 > 0)) (by simpa using hg)]
  · rename_i hp
    exact Rx.run (args := [wireV k p f t b p0 p1 fl s]) [Rx.gives 6 fun W _ => idx_ev (T := 176) (e := 5) (l := protoL) (k := .u8) (kk := .u8) (by kernel_rfl) (by kernel_rfl) (by kernel_rfl) (tmod_lt h.1 4 (by decide)) W, Rx.does 12 (args := [.int .u8 f, .int .u8 p0]) c1, Rx.does 18 (args := [.int .u8 t, .int .u8 p1]) c2,
        Rx.isF 25 (b := protoV p == 1) (by simpa using hp), Rx.isF 35 (b := protoV p == 1) (by simpa using hp)]
end Go.Proofs.YtilfcikhipadpaaGreatDoor
end

section
/- embeds: two, addr, lay, ends, over this program. -/
set_option linter.unusedVariables false
set_option linter.unusedSimpArgs false
namespace Go.Proofs.YtilfcikhipadpaaGreatDoor
open Go.RowKit
attribute [local go_sem] Oper.semAt_some envL lookV

theorem e_two (w : World) (B : Nat) (s : ByteArray) (i : Int) (hC : w.cell? ⟨B, 0, none⟩ = some (.string s)) (hs : s.size ≤ 140737488351232) (hi : -9223372036854775808 ≤ i ∧ i ≤ 9223372036854775807) :
    Calls Tryz.prog 161 #[.pointer (some ⟨B, 0, none⟩), .int .i64 i] w (Ret (.int .u16 (get16 (L s) i)) w) := by
  have c := fun W => Get16 s i W (reach_max hs) hi
  generalize get16 (L s) i = x at *
  generalize has s.size i 2 = y at *
  have C := hide c
  clear c hs hi
  have bb : Below w.heap.size w w := Below.refl _ _
  go_enter Tryz.func161, Tryz.ntmps161
  go_wp2_with ((go_at_call 165; (with_reducible refine (C.out _).mono ?_); rintro e2 w2 ⟨rfl, b2⟩; have b2' := bstep (by assumption : Below w.heap.size w _) b2; clear b2))
  go_ret
  exact ⟨rfl, by assumption⟩
theorem e_addr (w : World) (B : Nat) (s : ByteArray) (i : Int) (hC : w.cell? ⟨B, 0, none⟩ = some (.string s)) (hs : s.size ≤ 140737488351232) (hi : -9223372036854775808 ≤ i ∧ i ≤ 9223372036854775807) :
    Calls Tryz.prog 188 #[.pointer (some ⟨B, 0, none⟩), .int .i64 i] w (Ret (.int .u32 (get32 (L s) i)) w) := by
  have c := fun W => Get32 s i W (reach_max hs) hi
  generalize get32 (L s) i = x at *
  generalize has s.size i 4 = y at *
  have C := hide c
  clear c hs hi
  have bb : Below w.heap.size w w := Below.refl _ _
  go_enter Tryz.func188, Tryz.ntmps188
  go_wp2_with ((go_at_call 178; (with_reducible refine (C.out _).mono ?_); rintro e2 w2 ⟨rfl, b2⟩; have b2' := bstep (by assumption : Below w.heap.size w _) b2; clear b2))
  go_ret
  exact ⟨rfl, by assumption⟩
end Go.Proofs.YtilfcikhipadpaaGreatDoor
end
