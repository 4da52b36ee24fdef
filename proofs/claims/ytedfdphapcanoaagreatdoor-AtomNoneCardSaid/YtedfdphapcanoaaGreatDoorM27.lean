/- Several texts of this claim, one behind the other. -/
import Derived.Test.YtedfdphapcanoaaGreatDoorM26

section
/- tcp.Parse over this program, of what is a segment. -/
set_option linter.unusedVariables false
namespace Go.Proofs.YtedfdphapcanoaaGreatDoor
open Go.RowKit
attribute [local go_sem] Oper.semAt_some

/-- what a text is as a segment -/
def segOf (s : ByteArray) : Seg := ⟨get16 (L s) 0, get16 (L s) 2, get32 (L s) 4, get32 (L s) 8, at_ (L s) 12 % 16, at_ (L s) 13, get16 (L s) 14, get16 (L s) 16, get16 (L s) 18, s.extract 20 (tcpOwn (L s)).toNat⟩
def Seg.cells (h : Seg) : Array Value := #[.int .u16 h.s, .int .u16 h.d, .int .u32 h.q, .int .u32 h.k, .int .u8 h.l, .int .u8 h.f, .int .u16 h.w, .int .u16 h.n, .int .u16 h.u, .string h.o]

set_option maxRecDepth 100000 in
set_option maxHeartbeats 2000000 in
theorem t_Parse_yes (s : ByteArray) (w : World) (hs : s.size ≤ 140737488351232) (h : tcpIs s = true) :
    Calls Tryz.prog 186 #[.string s] w (Ret (.tuple #[.agg (segOf s).cells, .string (s.extract (tcpOwn (L s)).toNat s.size), .bool true]) w) := by
  have h1 : 20 ≤ s.size ∧ 20 ≤ tcpOwn (L s) ∧ tcpOwn (L s) ≤ s.size := by unfold tcpIs at h; simpa [and_assoc] using h
  obtain ⟨h20, o20, oN⟩ := h1
  have e0 : (((s[12]'(by omega)).toNat : Nat) : Int) = at_ (L s) 12 := by rw [getElem_L s 12 (by omega)]; rfl
  have e1 : (((s[13]'(by omega)).toNat : Nat) : Int) = at_ (L s) 13 := by rw [getElem_L s 13 (by omega)]; rfl
  have hb := at_bd (L s) 12
  have hb2 := at_bd (L s) 13
  have i4 : (12 : Int) < (s.size : Int) := by omega
  have i5 : 12 < s.size := by omega
  have i6 : (13 : Int) < (s.size : Int) := by omega
  have i7 : 13 < s.size := by omega
  have q2 : ¬ (s.size : Int) < 20 := by omega
  obtain ⟨v, hv⟩ : ∃ v, v = (segOf s).cells := ⟨_, rfl⟩
  rw [← hv]
  unfold tcpOwn at o20 oN ⊢
  obtain ⟨x, hx⟩ : ∃ x, x = at_ (L s) 12 := ⟨_, rfl⟩
  obtain ⟨y, hy⟩ : ∃ y, y = at_ (L s) 13 := ⟨_, rfl⟩
  rw [← hx] at e0 hb o20 oN ⊢
  rw [← hy] at e1 hb2
  have o1 : ¬ x / 16 * 4 < 20 := by omega
  have o2 : ¬ (s.size : Int) < x / 16 * 4 := by omega
  have HV := hide hv; have HX := hide hx; have HY := hide hy
  clear hv hx hy h
  obtain ⟨p0, hp0⟩ : ∃ p, p = get16 (L s) 0 := ⟨_, rfl⟩
  obtain ⟨p1, hp1⟩ : ∃ p, p = get16 (L s) 2 := ⟨_, rfl⟩
  obtain ⟨p2, hp2⟩ : ∃ p, p = get32 (L s) 4 := ⟨_, rfl⟩
  obtain ⟨p3, hp3⟩ : ∃ p, p = get32 (L s) 8 := ⟨_, rfl⟩
  obtain ⟨p4, hp4⟩ : ∃ p, p = get16 (L s) 14 := ⟨_, rfl⟩
  obtain ⟨p5, hp5⟩ : ∃ p, p = get16 (L s) 16 := ⟨_, rfl⟩
  obtain ⟨p6, hp6⟩ : ∃ p, p = get16 (L s) 18 := ⟨_, rfl⟩
  have n4 : x / 16 * 4 ≤ (s.size : Int) := oN
  have c1 := fun (W : World) (B : Nat) (hC : Cells W (w.heap.size + 1) #[.int .u16 0, .int .u16 0, .int .u32 0, .int .u32 0, .int .u8 (x % 16), .int .u8 y, .int .u16 0, .int .u16 0, .int .u16 0, .string (s.extract 20 (x / 16 * 4).toNat)] 290) (hB : Cells W B #[.pointer (some ⟨w.heap.size + 1, 0, none⟩), .pointer (some ⟨w.heap.size + 1, 1, none⟩)] 361) (hne : B ≠ w.heap.size + 1) => t_halves s 0 2 0 (w.heap.size + 1) B 0 2 _ _ _ _ W hs (by omega) (by omega) hC (by simp) hB hne (fun k hk => match k, hk with | 0, _ => rfl | 1, _ => rfl)
  have g1 : halfTo #[.int .u16 0, .int .u16 0, .int .u32 0, .int .u32 0, .int .u8 (x % 16), .int .u8 y, .int .u16 0, .int .u16 0, .int .u16 0, .string (s.extract 20 (x / 16 * 4).toNat)] 0 (L s) 0 2 = #[.int .u16 p0, .int .u16 p1, .int .u32 0, .int .u32 0, .int .u8 (x % 16), .int .u8 y, .int .u16 0, .int .u16 0, .int .u16 0, .string (s.extract 20 (x / 16 * 4).toNat)] := by rw [hp0, hp1]; rfl
  simp only [g1] at c1
  rw [show ((0 : Nat) : Int) = 0 from rfl] at c1
  have c4 := fun (W : World) (B : Nat) (hC : Cells W (w.heap.size + 1) #[.int .u16 p0, .int .u16 p1, .int .u32 p2, .int .u32 p3, .int .u8 (x % 16), .int .u8 y, .int .u16 0, .int .u16 0, .int .u16 0, .string (s.extract 20 (x / 16 * 4).toNat)] 290) (hB : Cells W B #[.pointer (some ⟨w.heap.size + 1, 6, none⟩), .pointer (some ⟨w.heap.size + 1, 7, none⟩), .pointer (some ⟨w.heap.size + 1, 8, none⟩)] 361) (hne : B ≠ w.heap.size + 1) => t_halves s 14 3 6 (w.heap.size + 1) B 0 3 _ _ _ _ W hs (by omega) (by omega) hC (by simp) hB hne (fun k hk => match k, hk with | 0, _ => rfl | 1, _ => rfl | 2, _ => rfl)
  have g4 : halfTo #[.int .u16 p0, .int .u16 p1, .int .u32 p2, .int .u32 p3, .int .u8 (x % 16), .int .u8 y, .int .u16 0, .int .u16 0, .int .u16 0, .string (s.extract 20 (x / 16 * 4).toNat)] 6 (L s) 14 3 = #[.int .u16 p0, .int .u16 p1, .int .u32 p2, .int .u32 p3, .int .u8 (x % 16), .int .u8 y, .int .u16 p4, .int .u16 p5, .int .u16 p6, .string (s.extract 20 (x / 16 * 4).toNat)] := by rw [hp4, hp5, hp6]; rfl
  simp only [g4] at c4
  rw [show ((14 : Nat) : Int) = 14 from rfl] at c4
  have c2 := fun W => Get32 s 4 W (by unfold maxLen; omega) (by omega)
  have c3 := fun W => Get32 s 8 W (by unfold maxLen; omega) (by omega)
  rw [← hp2] at c2; rw [← hp3] at c3
  obtain ⟨y2, hy2⟩ : ∃ y, y = has s.size 4 4 := ⟨_, rfl⟩
  obtain ⟨y3, hy3⟩ : ∃ y, y = has s.size 8 4 := ⟨_, rfl⟩
  rw [← hy2] at c2; rw [← hy3] at c3
  have hend : v = #[.int .u16 p0, .int .u16 p1, .int .u32 p2, .int .u32 p3, .int .u8 (x % 16), .int .u8 y, .int .u16 p4, .int .u16 p5, .int .u16 p6, .string (s.extract 20 (x / 16 * 4).toNat)] := by rw [HV.out, HX.out, HY.out, hp0, hp1, hp2, hp3, hp4, hp5, hp6]; rfl
  have C1 := hide c1; have C2 := hide c2; have C3 := hide c3; have C4 := hide c4; have HE := hide hend
  clear c1 c2 c3 c4 g1 g4 hp0 hp1 hp2 hp3 hp4 hp5 hp6 hy2 hy3 hend n4
  go_enter Tryz.func186, Tryz.ntmps186
  have d0 := Cells.new w #[.int .u16 0, .int .u16 0, .int .u32 0, .int .u32 0, .int .u8 0, .int .u8 0, .int .u16 0, .int .u16 0, .int .u16 0, .string { data := #[] }] 290
  go_wp2_with fail
  refine' share (P := _) (fun key => ?main) ?rest
  case main =>
    go_region_held3 (fun _ => True) (trivial)
      (fail)
    all_goals exact key
  case rest =>
    have hbits : bits .and .u8 x 15 = x % 16 := by rw [u8_and15 _ (by omega) (by omega)]
    simp only [hbits]
    have dH : Cells ((w.alloc (.cells #[.int .u16 0, .int .u16 0, .int .u32 0, .int .u32 0, .int .u8 0, .int .u8 0, .int .u16 0, .int .u16 0, .int .u16 0, .string { data := #[] }] 290)).alloc (.cells #[.int .u16 0, .int .u16 0, .int .u32 0, .int .u32 0, .int .u8 (x % 16), .int .u8 y, .int .u16 0, .int .u16 0, .int .u16 0, .string (s.extract 20 (x / 16 * 4).toNat)] 290)).drew (w.heap.size + 1) #[.int .u16 0, .int .u16 0, .int .u32 0, .int .u32 0, .int .u8 (x % 16), .int .u8 y, .int .u16 0, .int .u16 0, .int .u16 0, .string (s.extract 20 (x / 16 * 4).toNat)] 290 := by
      have := Cells.new (w.alloc (.cells #[.int .u16 0, .int .u16 0, .int .u32 0, .int .u32 0, .int .u8 0, .int .u8 0, .int .u16 0, .int .u16 0, .int .u16 0, .string { data := #[] }] 290)) #[.int .u16 0, .int .u16 0, .int .u32 0, .int .u32 0, .int .u8 (x % 16), .int .u8 y, .int .u16 0, .int .u16 0, .int .u16 0, .string (s.extract 20 (x / 16 * 4).toNat)] 290
      rw [show (w.alloc (.cells #[.int .u16 0, .int .u16 0, .int .u32 0, .int .u32 0, .int .u8 0, .int .u8 0, .int .u16 0, .int .u16 0, .int .u16 0, .string { data := #[] }] 290)).heap.size = w.heap.size + 1 from by simp] at this
      exact this
    have dR : Cells ((w.alloc (.cells #[.int .u16 0, .int .u16 0, .int .u32 0, .int .u32 0, .int .u8 0, .int .u8 0, .int .u16 0, .int .u16 0, .int .u16 0, .string { data := #[] }] 290)).alloc (.cells #[.int .u16 0, .int .u16 0, .int .u32 0, .int .u32 0, .int .u8 (x % 16), .int .u8 y, .int .u16 0, .int .u16 0, .int .u16 0, .string (s.extract 20 (x / 16 * 4).toNat)] 290)).drew w.heap.size #[.int .u16 0, .int .u16 0, .int .u32 0, .int .u32 0, .int .u8 0, .int .u8 0, .int .u16 0, .int .u16 0, .int .u16 0, .string { data := #[] }] 290 := Cells.alloc d0 (.cells #[.int .u16 0, .int .u16 0, .int .u32 0, .int .u32 0, .int .u8 (x % 16), .int .u8 y, .int .u16 0, .int .u16 0, .int .u16 0, .string (s.extract 20 (x / 16 * 4).toNat)] 290)
    have bW : Below w.heap.size w ((w.alloc (.cells #[.int .u16 0, .int .u16 0, .int .u32 0, .int .u32 0, .int .u8 0, .int .u8 0, .int .u16 0, .int .u16 0, .int .u16 0, .string { data := #[] }] 290)).alloc (.cells #[.int .u16 0, .int .u16 0, .int .u32 0, .int .u32 0, .int .u8 (x % 16), .int .u8 y, .int .u16 0, .int .u16 0, .int .u16 0, .string (s.extract 20 (x / 16 * 4).toNat)] 290)).drew := (by (repeat' (first | with_reducible exact Below.refl _ _ | with_reducible refine Below.setCell ?_ (by first | exact Nat.le_refl _ | (dsimp only; omega)) _ | with_reducible refine bstep ?_ (fresh_below _ _) | with_reducible refine Below.drew ?_)))
    have zW : ((w.alloc (.cells #[.int .u16 0, .int .u16 0, .int .u32 0, .int .u32 0, .int .u8 0, .int .u8 0, .int .u16 0, .int .u16 0, .int .u16 0, .string { data := #[] }] 290)).alloc (.cells #[.int .u16 0, .int .u16 0, .int .u32 0, .int .u32 0, .int .u8 (x % 16), .int .u8 y, .int .u16 0, .int .u16 0, .int .u16 0, .string (s.extract 20 (x / 16 * 4).toNat)] 290)).drew.heap.size = w.heap.size + 1 + 1 := by simp [World.drew]
    clear d0
    generalize ((w.alloc (.cells #[.int .u16 0, .int .u16 0, .int .u32 0, .int .u32 0, .int .u8 0, .int .u8 0, .int .u16 0, .int .u16 0, .int .u16 0, .string { data := #[] }] 290)).alloc (.cells #[.int .u16 0, .int .u16 0, .int .u32 0, .int .u32 0, .int .u8 (x % 16), .int .u8 y, .int .u16 0, .int .u16 0, .int .u16 0, .string (s.extract 20 (x / 16 * 4).toNat)] 290)).drew = W0 at *
    have HZ := hide zW
    clear zW
    go_wp2_with fail
    (with_reducible refine (C1.out _ _ (Cells.alloc dH _) (Cells.new W0 _ _) (by have := HZ.out; omega)).mono ?_)
    rintro e w1 ⟨rfl, b1, h1⟩
    have r1 := Cells.under b1 (Cells.alloc dR _) (Nat.lt_succ_self _)
    replace b1 : Below w.heap.size w w1 := (bW.trans ((fresh_below W0 _).mono bW.size)).trans (b1.mono (Nat.le_succ _))
    have z1 : w.heap.size + 1 < w1.heap.size := h1.lt
    clear dH dR bW HZ
    go_wp2_with fail
    (with_reducible refine (C2.out _).mono ?_)
    rintro e w2 ⟨rfl, b2⟩
    replace h1 := Cells.below b2 h1; replace r1 := Cells.below b2 r1
    replace b2 : Below w.heap.size w w2 := bstep b1 b2
    have x1 : w2.cell? ⟨w.heap.size + 1, 2, none⟩ = some (.int .u32 0) := h1.at_ 2
    have y1 := h1.free 2
    have h2 : Cells (w2.setCell ⟨w.heap.size + 1, 2, none⟩ (.int .u32 p2)) (w.heap.size + 1) #[.int .u16 p0, .int .u16 p1, .int .u32 p2, .int .u32 0, .int .u8 (x % 16), .int .u8 y, .int .u16 0, .int .u16 0, .int .u16 0, .string (s.extract 20 (x / 16 * 4).toNat)] 290 := h1.set_ 2 (.int .u32 p2)
    have r2 := r1.other (Nat.ne_of_lt (Nat.lt_succ_self _)) 2 (.int .u32 p2)
    replace b2 := b2.setCell (p := ⟨w.heap.size + 1, 2, none⟩) (Nat.le_succ _) (.int .u32 p2)
    have H2 := hide h2; have R2 := hide r2; have B2 := hide b2
    clear h1 r1 b1 h2 r2 b2 z1
    go_wp2_with fail
    generalize w2.setCell ⟨w.heap.size + 1, 2, none⟩ (.int .u32 p2) = W2 at *
    clear x1 y1
    (with_reducible refine (C3.out _).mono ?_)
    rintro e w3 ⟨rfl, b3⟩
    have h2 := Cells.below b3 H2.out; have r2 := Cells.below b3 R2.out
    replace b3 : Below w.heap.size w w3 := bstep B2.out b3
    have x1 : w3.cell? ⟨w.heap.size + 1, 3, none⟩ = some (.int .u32 0) := h2.at_ 3
    have y1 := h2.free 3
    have h3 : Cells (w3.setCell ⟨w.heap.size + 1, 3, none⟩ (.int .u32 p3)) (w.heap.size + 1) #[.int .u16 p0, .int .u16 p1, .int .u32 p2, .int .u32 p3, .int .u8 (x % 16), .int .u8 y, .int .u16 0, .int .u16 0, .int .u16 0, .string (s.extract 20 (x / 16 * 4).toNat)] 290 := h2.set_ 3 (.int .u32 p3)
    have r3 := r2.other (Nat.ne_of_lt (Nat.lt_succ_self _)) 3 (.int .u32 p3)
    replace b3 := b3.setCell (p := ⟨w.heap.size + 1, 3, none⟩) (Nat.le_succ _) (.int .u32 p3)
    have H3 := hide h3; have R3 := hide r3; have B3 := hide b3
    clear H2 R2 B2 h2 r2 h3 r3 b3
    go_wp2_with fail
    have hz3 : (w3.setCell ⟨w.heap.size + 1, 3, none⟩ (.int .u32 p3)).heap.size = w3.heap.size := by simp
    generalize w3.setCell ⟨w.heap.size + 1, 3, none⟩ (.int .u32 p3) = W3 at *
    clear x1 y1
    (with_reducible refine (C4.out _ _ (Cells.alloc H3.out _) (hz3 ▸ Cells.new W3 #[.pointer (some ⟨w.heap.size + 1, 6, none⟩), .pointer (some ⟨w.heap.size + 1, 7, none⟩), .pointer (some ⟨w.heap.size + 1, 8, none⟩)] 361) (by have := H3.out.lt; omega)).mono ?_)
    rintro e w4 ⟨rfl, b4, h4⟩
    have r4 := Cells.under b4 (Cells.alloc R3.out _) (Nat.lt_succ_self _)
    replace b4 : Below w.heap.size w w4 := (B3.out.trans ((fresh_below W3 _).mono B3.out.size)).trans (b4.mono (Nat.le_succ _))
    clear H3 R3 B3
    have xh4_0 : w4.cell? ⟨w.heap.size + 1, 0, none⟩ = some (.int .u16 p0) := h4.at_ 0
    have xh4_1 : w4.cell? ⟨w.heap.size + 1, 1, none⟩ = some (.int .u16 p1) := h4.at_ 1
    have xh4_2 : w4.cell? ⟨w.heap.size + 1, 2, none⟩ = some (.int .u32 p2) := h4.at_ 2
    have xh4_3 : w4.cell? ⟨w.heap.size + 1, 3, none⟩ = some (.int .u32 p3) := h4.at_ 3
    have xh4_4 : w4.cell? ⟨w.heap.size + 1, 4, none⟩ = some (.int .u8 (x % 16)) := h4.at_ 4
    have xh4_5 : w4.cell? ⟨w.heap.size + 1, 5, none⟩ = some (.int .u8 y) := h4.at_ 5
    have xh4_6 : w4.cell? ⟨w.heap.size + 1, 6, none⟩ = some (.int .u16 p4) := h4.at_ 6
    have xh4_7 : w4.cell? ⟨w.heap.size + 1, 7, none⟩ = some (.int .u16 p5) := h4.at_ 7
    have xh4_8 : w4.cell? ⟨w.heap.size + 1, 8, none⟩ = some (.int .u16 p6) := h4.at_ 8
    have xh4_9 : w4.cell? ⟨w.heap.size + 1, 9, none⟩ = some (.string (s.extract 20 (x / 16 * 4).toNat)) := h4.at_ 9
    have hx : w4.cell? ⟨w.heap.size, 0, none⟩ = some (.int .u16 0) := r4.at_ 0
    have xr4_0 : w4.cell? ⟨w.heap.size, 0, none⟩ = some (.int .u16 0) := r4.at_ 0
    have xr4_1 : w4.cell? ⟨w.heap.size, 1, none⟩ = some (.int .u16 0) := r4.at_ 1
    have xr4_2 : w4.cell? ⟨w.heap.size, 2, none⟩ = some (.int .u32 0) := r4.at_ 2
    have xr4_3 : w4.cell? ⟨w.heap.size, 3, none⟩ = some (.int .u32 0) := r4.at_ 3
    have xr4_4 : w4.cell? ⟨w.heap.size, 4, none⟩ = some (.int .u8 0) := r4.at_ 4
    have xr4_5 : w4.cell? ⟨w.heap.size, 5, none⟩ = some (.int .u8 0) := r4.at_ 5
    have xr4_6 : w4.cell? ⟨w.heap.size, 6, none⟩ = some (.int .u16 0) := r4.at_ 6
    have xr4_7 : w4.cell? ⟨w.heap.size, 7, none⟩ = some (.int .u16 0) := r4.at_ 7
    have xr4_8 : w4.cell? ⟨w.heap.size, 8, none⟩ = some (.int .u16 0) := r4.at_ 8
    have xr4_9 : w4.cell? ⟨w.heap.size, 9, none⟩ = some (.string { data := #[] }) := r4.at_ 9
    have yr4_0 : w4.frozen? ⟨w.heap.size, 0, none⟩ = false := r4.free 0
    have yr4_1 : w4.frozen? ⟨w.heap.size, 1, none⟩ = false := r4.free 1
    have yr4_2 : w4.frozen? ⟨w.heap.size, 2, none⟩ = false := r4.free 2
    have yr4_3 : w4.frozen? ⟨w.heap.size, 3, none⟩ = false := r4.free 3
    have yr4_4 : w4.frozen? ⟨w.heap.size, 4, none⟩ = false := r4.free 4
    have yr4_5 : w4.frozen? ⟨w.heap.size, 5, none⟩ = false := r4.free 5
    have yr4_6 : w4.frozen? ⟨w.heap.size, 6, none⟩ = false := r4.free 6
    have yr4_7 : w4.frozen? ⟨w.heap.size, 7, none⟩ = false := r4.free 7
    have yr4_8 : w4.frozen? ⟨w.heap.size, 8, none⟩ = false := r4.free 8
    have yr4_9 : w4.frozen? ⟨w.heap.size, 9, none⟩ = false := r4.free 9
    go_wp2_with fail
    have fS := hide (fun (X : World) (hX : Cells X (w.heap.size + 1) #[.int .u16 p0, .int .u16 p1, .int .u32 p2, .int .u32 p3, .int .u8 (x % 16), .int .u8 y, .int .u16 p4, .int .u16 p5, .int .u16 p6, .string (s.extract 20 (x / 16 * 4).toNat)] 290) => (show World.cell? X ⟨w.heap.size + 1, 0, none⟩ = some (.int .u16 p0) ∧ World.cell? X ⟨w.heap.size + 1, 1, none⟩ = some (.int .u16 p1) ∧ World.cell? X ⟨w.heap.size + 1, 2, none⟩ = some (.int .u32 p2) ∧ World.cell? X ⟨w.heap.size + 1, 3, none⟩ = some (.int .u32 p3) ∧ World.cell? X ⟨w.heap.size + 1, 4, none⟩ = some (.int .u8 (x % 16)) ∧ World.cell? X ⟨w.heap.size + 1, 5, none⟩ = some (.int .u8 y) ∧ World.cell? X ⟨w.heap.size + 1, 6, none⟩ = some (.int .u16 p4) ∧ World.cell? X ⟨w.heap.size + 1, 7, none⟩ = some (.int .u16 p5) ∧ World.cell? X ⟨w.heap.size + 1, 8, none⟩ = some (.int .u16 p6) ∧ World.cell? X ⟨w.heap.size + 1, 9, none⟩ = some (.string (s.extract 20 (x / 16 * 4).toNat)) from ⟨hX.at_ 0, hX.at_ 1, hX.at_ 2, hX.at_ 3, hX.at_ 4, hX.at_ 5, hX.at_ 6, hX.at_ 7, hX.at_ 8, hX.at_ 9⟩))
    have H4 := hide h4
    have oZ : (0 : Int) ≤ x / 16 * 4 := by omega
    go_region_held3 (fun zW => World.cell? zW ⟨w.heap.size + 1, 0, none⟩ = some (.int .u16 p0) ∧ World.cell? zW ⟨w.heap.size + 1, 1, none⟩ = some (.int .u16 p1) ∧ World.cell? zW ⟨w.heap.size + 1, 2, none⟩ = some (.int .u32 p2) ∧ World.cell? zW ⟨w.heap.size + 1, 3, none⟩ = some (.int .u32 p3) ∧ World.cell? zW ⟨w.heap.size + 1, 4, none⟩ = some (.int .u8 (x % 16)) ∧ World.cell? zW ⟨w.heap.size + 1, 5, none⟩ = some (.int .u8 y) ∧ World.cell? zW ⟨w.heap.size + 1, 6, none⟩ = some (.int .u16 p4) ∧ World.cell? zW ⟨w.heap.size + 1, 7, none⟩ = some (.int .u16 p5) ∧ World.cell? zW ⟨w.heap.size + 1, 8, none⟩ = some (.int .u16 p6) ∧ World.cell? zW ⟨w.heap.size + 1, 9, none⟩ = some (.string (s.extract 20 (x / 16 * 4).toNat))) (((try dsimp only); with_reducible refine fS.out _ ?_; (repeat' (first | with_reducible exact H4.out | with_reducible refine Cells.drew ?_ | with_reducible refine Cells.other ?_ (Nat.succ_ne_self _) _ _))))
      (fail)
    go_wp2
    have r5 := (Cells.put10 r4 (.int .u16 p0) (.int .u16 p1) (.int .u32 p2) (.int .u32 p3) (.int .u8 (x % 16)) (.int .u8 y) (.int .u16 p4) (.int .u16 p5) (.int .u16 p6) (.string (s.extract 20 (x / 16 * 4).toNat))).drew
    have b5 := (Below.put10 b4 (Nat.le_refl w.heap.size) (.int .u16 p0) (.int .u16 p1) (.int .u32 p2) (.int .u32 p3) (.int .u8 (x % 16)) (.int .u8 y) (.int .u16 p4) (.int .u16 p5) (.int .u16 p6) (.string (s.extract 20 (x / 16 * 4).toNat))).drew
    have HE1 := hide r5; have HB5 := hide b5
    generalize ((((((((((w4.setCell ⟨w.heap.size, 0, none⟩ (.int .u16 p0)).setCell ⟨w.heap.size, 1, none⟩ (.int .u16 p1)).setCell ⟨w.heap.size, 2, none⟩ (.int .u32 p2)).setCell ⟨w.heap.size, 3, none⟩ (.int .u32 p3)).setCell ⟨w.heap.size, 4, none⟩ (.int .u8 (x % 16))).setCell ⟨w.heap.size, 5, none⟩ (.int .u8 y)).setCell ⟨w.heap.size, 6, none⟩ (.int .u16 p4)).setCell ⟨w.heap.size, 7, none⟩ (.int .u16 p5)).setCell ⟨w.heap.size, 8, none⟩ (.int .u16 p6)).setCell ⟨w.heap.size, 9, none⟩ (.string (s.extract 20 (x / 16 * 4).toNat))).drew = W5 at *
    have r6 := HE1.out
    clear r5 b5 r4 h4 H4 HE1 hx fS C1 C2 C3 C4 HV HX HY
    have xr6_0 : W5.cell? ⟨w.heap.size, 0, none⟩ = some (.int .u16 p0) := r6.at_ 0
    have xr6_1 : W5.cell? ⟨w.heap.size, 1, none⟩ = some (.int .u16 p1) := r6.at_ 1
    have xr6_2 : W5.cell? ⟨w.heap.size, 2, none⟩ = some (.int .u32 p2) := r6.at_ 2
    have xr6_3 : W5.cell? ⟨w.heap.size, 3, none⟩ = some (.int .u32 p3) := r6.at_ 3
    have xr6_4 : W5.cell? ⟨w.heap.size, 4, none⟩ = some (.int .u8 (x % 16)) := r6.at_ 4
    have xr6_5 : W5.cell? ⟨w.heap.size, 5, none⟩ = some (.int .u8 y) := r6.at_ 5
    have xr6_6 : W5.cell? ⟨w.heap.size, 6, none⟩ = some (.int .u16 p4) := r6.at_ 6
    have xr6_7 : W5.cell? ⟨w.heap.size, 7, none⟩ = some (.int .u16 p5) := r6.at_ 7
    have xr6_8 : W5.cell? ⟨w.heap.size, 8, none⟩ = some (.int .u16 p6) := r6.at_ 8
    have xr6_9 : W5.cell? ⟨w.heap.size, 9, none⟩ = some (.string (s.extract 20 (x / 16 * 4).toNat)) := r6.at_ 9
    (try simp only [Exit.inBlock, Exit.then]); refine bodyPost_ret (by simp [results, Tryz.results186, go_sem, *]; try rfl) rfl ?_
    exact ⟨by rw [HE.out], HB5.out⟩
end Go.Proofs.YtedfdphapcanoaaGreatDoor
end

section
/- The document's answer for tcp (porterref06) over this program: what a text is as a segment. -/
set_option linter.unusedVariables false
set_option linter.unusedSimpArgs false
namespace Go.Proofs.YtedfdphapcanoaaGreatDoor
open Go.RowKit
attribute [local go_sem] Oper.semAt_some

theorem q_Get16 (s : ByteArray) (i : Nat) (w : World) (hs : s.size ≤ maxLen) (h : i + 2 ≤ s.size) :
    Calls Tryz.prog 258 #[.string s, .int .i64 i] w (fun e w' => e = .returned (.tuple #[.int .u16 (get16 (L s) i), .bool true]) ∧ w' = w) := by
  have h2 : i + 2 ≤ (L s).length := by rw [L_length]; exact h
  rw [get16_nat h2, ← ben2]
  obtain ⟨b1, b2⟩ := be16_bd (L s) i
  rw [← ben2] at b1 b2
  go_enter Tryz.func258, Tryz.ntmps258
  go_wp2_with fail
  refine (r_Get_in s i 2 _ hs (by omega) (by omega)).mono ?_
  rintro e w1 ⟨rfl, rfl⟩
  go_wp2_with fail
  go_ret2
  exact ⟨rfl, rfl⟩
theorem q_Get32 (s : ByteArray) (i : Nat) (w : World) (hs : s.size ≤ maxLen) (h : i + 4 ≤ s.size) :
    Calls Tryz.prog 281 #[.string s, .int .i64 i] w (fun e w' => e = .returned (.tuple #[.int .u32 (get32 (L s) i), .bool true]) ∧ w' = w) := by
  have h2 : i + 4 ≤ (L s).length := by rw [L_length]; exact h
  rw [get32_nat h2, ← ben4]
  go_enter Tryz.func281, Tryz.ntmps281
  go_wp2_with fail
  refine (r_Get_in s i 4 _ hs (by omega) (by omega)).mono ?_
  rintro e w1 ⟨rfl, rfl⟩
  go_wp2_with fail
  go_ret2
  exact ⟨rfl, rfl⟩
theorem r6_two (s : ByteArray) (i : Nat) (w : World) (hs : s.size ≤ maxLen) (h : i + 2 ≤ s.size) :
    Calls Tryz.prog 255 #[.string s, .int .i64 i] w (fun e w' => e = .returned (.int .u16 (get16 (L s) i)) ∧ w' = w) := by
  have c := fun w => q_Get16 s i w hs h
  obtain ⟨x, hx⟩ : ∃ x, x = get16 (L s) i := ⟨_, rfl⟩
  rw [← hx] at c ⊢
  have C := hide c
  clear c hx
  go_enter Tryz.func255, Tryz.ntmps255
  go_wp2_with fail
  (with_reducible refine (C.out _).mono ?_)
  rintro e w1 ⟨rfl, rfl⟩
  go_wp2_with fail
  go_ret
  exact ⟨rfl, rfl⟩
theorem r6_four (s : ByteArray) (i : Nat) (w : World) (hs : s.size ≤ maxLen) (h : i + 4 ≤ s.size) :
    Calls Tryz.prog 256 #[.string s, .int .i64 i] w (fun e w' => e = .returned (.int .u32 (get32 (L s) i)) ∧ w' = w) := by
  have c := fun w => q_Get32 s i w hs h
  obtain ⟨x, hx⟩ : ∃ x, x = get32 (L s) i := ⟨_, rfl⟩
  rw [← hx] at c ⊢
  have C := hide c
  clear c hx
  go_enter Tryz.func256, Tryz.ntmps256
  go_wp2_with fail
  (with_reducible refine (C.out _).mono ?_)
  rintro e w1 ⟨rfl, rfl⟩
  go_wp2_with fail
  go_ret
  exact ⟨rfl, rfl⟩

set_option maxHeartbeats 1000000 in
theorem r6_Parse_no (s : ByteArray) (w : World) (hs : s.size ≤ 140737488351232) (h : tcpIs s = false) :
    Calls Tryz.prog 194 #[.string s] w (Ret (.tuple #[.agg #[.int .u16 0, .int .u16 0, .int .u32 0, .int .u32 0, .int .u8 0, .int .u8 0, .int .u16 0, .int .u16 0, .int .u16 0, .string { data := #[] }], .string { data := #[] }, .bool false]) w) := by
  by_cases h8 : s.size < 20
  · have q2 : (s.size : Int) < 20 := by omega
    clear h
    go_enter Tryz.func194, Tryz.ntmps194
    go_wp2_with fail
    (try simp only [Exit.inBlock, Exit.then]); refine bodyPost_ret (by simp [results, Tryz.results194, go_sem]; try rfl) rfl ?_
    exact ⟨rfl, (by (repeat' (first | with_reducible exact Below.refl _ _ | with_reducible refine Below.setCell ?_ (by first | exact Nat.le_refl _ | (dsimp only; omega)) _ | with_reducible refine bstep ?_ (fresh_below _ _) | with_reducible refine Below.drew ?_)))⟩
  · have q2 : ¬ (s.size : Int) < 20 := by omega
    have e0 : (((s[12]'(by omega)).toNat : Nat) : Int) = at_ (L s) 12 := by rw [getElem_L s 12 (by omega)]; rfl
    have hb := at_bd (L s) 12
    have ho : tcpOwn (L s) < 20 ∨ (s.size : Int) < tcpOwn (L s) := by unfold tcpIs at h; simp at h; omega
    unfold tcpOwn at ho
    have i4 : (12 : Int) < (s.size : Int) := by omega
    have i5 : 12 < s.size := by omega
    obtain ⟨x, hx⟩ : ∃ x, x = at_ (L s) 12 := ⟨_, rfl⟩
    rw [← hx] at e0 hb ho
    clear hx h
    have hcase : x / 16 * 4 < 20 ∨ (¬ x / 16 * 4 < 20 ∧ (s.size : Int) < x / 16 * 4) := by omega
    clear ho
    rcases hcase with ho | ⟨ho1, ho2⟩
    all_goals
      go_enter Tryz.func194, Tryz.ntmps194
      go_wp2_with fail
      (try simp only [Exit.inBlock, Exit.then]); refine bodyPost_ret (by simp [results, Tryz.results194, go_sem]; try rfl) rfl ?_
      exact ⟨rfl, (by (repeat' (first | with_reducible exact Below.refl _ _ | with_reducible refine Below.setCell ?_ (by first | exact Nat.le_refl _ | (dsimp only; omega)) _ | with_reducible refine bstep ?_ (fresh_below _ _) | with_reducible refine Below.drew ?_)))⟩
set_option maxRecDepth 100000 in
set_option maxHeartbeats 2000000 in
theorem r6_Parse_yes (s : ByteArray) (w : World) (hs : s.size ≤ 140737488351232) (h : tcpIs s = true) :
    Calls Tryz.prog 194 #[.string s] w (Ret (.tuple #[.agg (segOf s).cells, .string (s.extract (tcpOwn (L s)).toNat s.size), .bool true]) w) := by
  have h1 : 20 ≤ s.size ∧ 20 ≤ tcpOwn (L s) ∧ tcpOwn (L s) ≤ s.size := by unfold tcpIs at h; simpa [and_assoc] using h
  obtain ⟨h20, o20, oN⟩ := h1
  have e0 : (((s[12]'(by omega)).toNat : Nat) : Int) = at_ (L s) 12 := by rw [getElem_L s 12 (by omega)]; rfl
  have e1 : (((s[13]'(by omega)).toNat : Nat) : Int) = at_ (L s) 13 := by rw [getElem_L s 13 (by omega)]; rfl
  have hb := at_bd (L s) 12
  have hb2 := at_bd (L s) 13
  have i4 : (12 : Int) < (s.size : Int) := by omega
  have i5 : 12 < s.size := by omega
  have i6 : (13 : Int) < (s.size : Int) := by omega
  have i7 : 13 < s.size := by omega
  have q2 : ¬ (s.size : Int) < 20 := by omega
  obtain ⟨v, hv⟩ : ∃ v, v = (segOf s).cells := ⟨_, rfl⟩
  rw [← hv]
  unfold tcpOwn at o20 oN ⊢
  obtain ⟨x, hx⟩ : ∃ x, x = at_ (L s) 12 := ⟨_, rfl⟩
  obtain ⟨y, hy⟩ : ∃ y, y = at_ (L s) 13 := ⟨_, rfl⟩
  rw [← hx] at e0 hb o20 oN ⊢
  rw [← hy] at e1 hb2
  have o1 : ¬ x / 16 * 4 < 20 := by omega
  have o2 : ¬ (s.size : Int) < x / 16 * 4 := by omega
  have HV := hide hv; have HX := hide hx; have HY := hide hy
  clear hv hx hy h
  obtain ⟨p0, hp0⟩ : ∃ p, p = get16 (L s) 0 := ⟨_, rfl⟩
  obtain ⟨p1, hp1⟩ : ∃ p, p = get16 (L s) 2 := ⟨_, rfl⟩
  obtain ⟨p2, hp2⟩ : ∃ p, p = get32 (L s) 4 := ⟨_, rfl⟩
  obtain ⟨p3, hp3⟩ : ∃ p, p = get32 (L s) 8 := ⟨_, rfl⟩
  obtain ⟨p4, hp4⟩ : ∃ p, p = get16 (L s) 14 := ⟨_, rfl⟩
  obtain ⟨p5, hp5⟩ : ∃ p, p = get16 (L s) 16 := ⟨_, rfl⟩
  obtain ⟨p6, hp6⟩ : ∃ p, p = get16 (L s) 18 := ⟨_, rfl⟩
  have c0 := fun W => r6_two s 0 W (by unfold maxLen; omega) (by omega)
  rw [show ((0 : Nat) : Int) = 0 from rfl, ← hp0] at c0
  have c1 := fun W => r6_two s 2 W (by unfold maxLen; omega) (by omega)
  rw [show ((2 : Nat) : Int) = 2 from rfl, ← hp1] at c1
  have c2 := fun W => r6_four s 4 W (by unfold maxLen; omega) (by omega)
  rw [show ((4 : Nat) : Int) = 4 from rfl, ← hp2] at c2
  have c3 := fun W => r6_four s 8 W (by unfold maxLen; omega) (by omega)
  rw [show ((8 : Nat) : Int) = 8 from rfl, ← hp3] at c3
  have c4 := fun W => r6_two s 14 W (by unfold maxLen; omega) (by omega)
  rw [show ((14 : Nat) : Int) = 14 from rfl, ← hp4] at c4
  have c5 := fun W => r6_two s 16 W (by unfold maxLen; omega) (by omega)
  rw [show ((16 : Nat) : Int) = 16 from rfl, ← hp5] at c5
  have c6 := fun W => r6_two s 18 W (by unfold maxLen; omega) (by omega)
  rw [show ((18 : Nat) : Int) = 18 from rfl, ← hp6] at c6
  have hend : v = #[.int .u16 p0, .int .u16 p1, .int .u32 p2, .int .u32 p3, .int .u8 (x % 16), .int .u8 y, .int .u16 p4, .int .u16 p5, .int .u16 p6, .string (s.extract 20 (x / 16 * 4).toNat)] := by rw [HV.out, HX.out, HY.out, hp0, hp1, hp2, hp3, hp4, hp5, hp6]; rfl
  have C0 := hide c0
  have C1 := hide c1
  have C2 := hide c2
  have C3 := hide c3
  have C4 := hide c4
  have C5 := hide c5
  have C6 := hide c6
  have HE := hide hend
  clear c0 c1 c2 c3 c4 c5 c6 hp0 hp1 hp2 hp3 hp4 hp5 hp6 hend HV HX HY
  go_enter Tryz.func194, Tryz.ntmps194
  have d0 := Cells.new w #[.int .u16 0, .int .u16 0, .int .u32 0, .int .u32 0, .int .u8 0, .int .u8 0, .int .u16 0, .int .u16 0, .int .u16 0, .string { data := #[] }] 269
  go_wp2_with fail
  refine' share (P := _) (fun key => ?main) ?rest
  case main =>
    refine wp_region_held_drew (S := fun _ => True) (by kernel_rfl) trivial (fun _ => ?_)
    refine wpAnyH_take (i := 0) (v := ?v0_1) rfl (by kernel_rfl) (by kernel_rfl) (by kernel_rfl) (fun _ _ _ h => h) (Or.inl (And.intro rfl ?q0_1)) trivial ?r0_1; (case q0_1 => (intro w _; (try dsimp only); (try go_simp); (try with_reducible rfl)))
    try simp only [Act.put, List.setIfInBounds_toArray, List.set_cons_zero, List.set_cons_succ]
    refine wpAnyH_take (i := 2) (v := ?v2_2) rfl (by kernel_rfl) (by kernel_rfl) (by kernel_rfl) (fun _ _ _ h => h) (Or.inl (And.intro rfl ?q2_2)) trivial ?r2_2; (case q2_2 => (intro w _; (try dsimp only); (try go_simp); (try with_reducible rfl)))
    try simp only [Act.put, List.setIfInBounds_toArray, List.set_cons_zero, List.set_cons_succ]
    refine wpAnyH_take (i := 4) (v := ?v4_3) rfl (by kernel_rfl) (by kernel_rfl) (by kernel_rfl) (fun _ _ _ h => h) (Or.inl (And.intro rfl ?q4_3)) trivial ?r4_3; (case q4_3 => (intro w _; (try dsimp only); (try go_simp); (try with_reducible rfl)))
    try simp only [Act.put, List.setIfInBounds_toArray, List.set_cons_zero, List.set_cons_succ]
    refine wpAnyH_take (i := 6) (v := ?v6_4) rfl (by kernel_rfl) (by kernel_rfl) (by kernel_rfl) (fun _ _ _ h => h) (Or.inl (And.intro rfl ?q6_4)) trivial ?r6_4; (case q6_4 => (intro w _; (try dsimp only); (try go_simp); (try with_reducible rfl)))
    try simp only [Act.put, List.setIfInBounds_toArray, List.set_cons_zero, List.set_cons_succ]
    refine wpAnyH_take (i := 8) (v := ?v8_5) rfl (by kernel_rfl) (by kernel_rfl) (by kernel_rfl) (fun _ _ _ h => h) (Or.inl (And.intro rfl ?q8_5)) trivial ?r8_5; (case q8_5 => (intro w _; (try dsimp only); (try go_simp); (try with_reducible rfl)))
    try simp only [Act.put, List.setIfInBounds_toArray, List.set_cons_zero, List.set_cons_succ]
    refine wpAnyH_take (i := 9) (v := ?v9_6) rfl (by kernel_rfl) (by kernel_rfl) (by kernel_rfl) (fun _ _ _ h => h) (Or.inl (And.intro rfl ?q9_6)) trivial ?r9_6; (case q9_6 => (intro w _; (try dsimp only); (try go_simp); (try with_reducible rfl)))
    try simp only [Act.put, List.setIfInBounds_toArray, List.set_cons_zero, List.set_cons_succ]
    refine wpAnyH_take (i := 10) (v := ?v10_7) rfl (by kernel_rfl) (by kernel_rfl) (by kernel_rfl) (fun _ _ _ h => h) (Or.inl (And.intro rfl ?q10_7)) trivial ?r10_7; (case q10_7 => (intro w _; (try dsimp only); (try go_simp); (try with_reducible rfl)))
    try simp only [Act.put, List.setIfInBounds_toArray, List.set_cons_zero, List.set_cons_succ]
    refine wpAnyH_take (i := 11) (v := ?v11_8) rfl (by kernel_rfl) (by kernel_rfl) (by kernel_rfl) (fun _ _ _ h => h) (Or.inl (And.intro rfl ?q11_8)) trivial ?r11_8; (case q11_8 => (intro w _; (try dsimp only); (try go_simp); (try with_reducible rfl)))
    try simp only [Act.put, List.setIfInBounds_toArray, List.set_cons_zero, List.set_cons_succ]
    refine wpAnyH_take (i := 12) (v := ?v12_9) rfl (by kernel_rfl) (by kernel_rfl) (by kernel_rfl) (fun _ _ _ h => h) (Or.inl (And.intro rfl ?q12_9)) trivial ?r12_9; (case q12_9 => (intro w _; (try dsimp only); (try go_simp); (try with_reducible rfl)))
    try simp only [Act.put, List.setIfInBounds_toArray, List.set_cons_zero, List.set_cons_succ]
    refine wpAnyH_take (i := 13) (v := ?v13_10) rfl (by kernel_rfl) (by kernel_rfl) (by kernel_rfl) (fun _ _ _ h => h) (Or.inl (And.intro rfl ?q13_10)) trivial ?r13_10; (case q13_10 => (intro w _; (try dsimp only); (try go_simp); (try with_reducible rfl)))
    try simp only [Act.put, List.setIfInBounds_toArray, List.set_cons_zero, List.set_cons_succ]
    refine wpAnyH_take (i := 15) (v := ?v15_11) rfl (by kernel_rfl) (by kernel_rfl) (by kernel_rfl) (fun _ _ _ h => h) (Or.inl (And.intro rfl ?q15_11)) trivial ?r15_11; (case q15_11 => (intro w _; (try dsimp only); (try go_simp); (try with_reducible rfl)))
    try simp only [Act.put, List.setIfInBounds_toArray, List.set_cons_zero, List.set_cons_succ]
    refine wpAnyH_take (i := 17) (v := ?v17_12) rfl (by kernel_rfl) (by kernel_rfl) (by kernel_rfl) (fun _ _ _ h => h) (Or.inl (And.intro rfl ?q17_12)) trivial ?r17_12; (case q17_12 => (intro w _; (try dsimp only); (try go_simp); (try with_reducible rfl)))
    try simp only [Act.put, List.setIfInBounds_toArray, List.set_cons_zero, List.set_cons_succ]
    refine wpAnyH_take (i := 19) (v := ?v19_13) rfl (by kernel_rfl) (by kernel_rfl) (by kernel_rfl) (fun _ _ _ h => h) (Or.inl (And.intro rfl ?q19_13)) trivial ?r19_13; (case q19_13 => (intro w _; (try dsimp only); (try go_simp); (try with_reducible rfl)))
    try simp only [Act.put, List.setIfInBounds_toArray, List.set_cons_zero, List.set_cons_succ]
    refine wpAnyH_take (i := 20) (v := ?v20_14) rfl (by kernel_rfl) (by kernel_rfl) (by kernel_rfl) (fun _ _ _ h => h) (Or.inl (And.intro rfl ?q20_14)) trivial ?r20_14; (case q20_14 => (intro w _; (try dsimp only); (try go_simp); (try with_reducible rfl)))
    try simp only [Act.put, List.setIfInBounds_toArray, List.set_cons_zero, List.set_cons_succ]
    refine wpAnyH_take (i := 21) (v := ?v21_15) rfl (by kernel_rfl) (by kernel_rfl) (by kernel_rfl) (fun _ _ _ h => h) (Or.inl (And.intro rfl ?q21_15)) trivial ?r21_15; (case q21_15 => (intro w _; (try dsimp only); (try go_simp); (try with_reducible rfl)))
    try simp only [Act.put, List.setIfInBounds_toArray, List.set_cons_zero, List.set_cons_succ]
    refine wpAnyH_ready (rs := [1, 23]) (by kernel_rfl) (by simp) ?_
    refine AllReadyH.cons rfl (fun K hK => ?_) (AllReadyH.cons rfl (fun K hK => ?_) AllReadyH.nil)
    · skip
      rw [if_pos (by rfl)]
      (try simp only [List.getElem_toArray, List.getElem_cons_succ, List.getElem_cons_zero])
      go_simp
      (with_reducible refine (C0.out _).mono ?_)
      rintro e wq ⟨rfl, rfl⟩
      (try rw [alloc_drewN])
      try go_wp2_with fail
      refine hK.out _ _ trivial (fun _ => ?_)
      clear hK K
      try simp only [Act.put, List.setIfInBounds_toArray, List.set_cons_zero, List.set_cons_succ]
      refine wpAnyH_ready (rs := [3, 23]) (by kernel_rfl) (by simp) ?_
      refine AllReadyH.cons rfl (fun K hK => ?_) (AllReadyH.cons rfl (fun K hK => ?_) AllReadyH.nil)
      · skip
        rw [if_pos (by rfl)]
        (try simp only [List.getElem_toArray, List.getElem_cons_succ, List.getElem_cons_zero])
        go_simp
        (with_reducible refine (C1.out _).mono ?_)
        rintro e wq ⟨rfl, rfl⟩
        (try rw [alloc_drewN])
        try go_wp2_with fail
        refine hK.out _ _ trivial (fun _ => ?_)
        clear hK K
        try simp only [Act.put, List.setIfInBounds_toArray, List.set_cons_zero, List.set_cons_succ]
        refine wpAnyH_ready (rs := [5, 23]) (by kernel_rfl) (by simp) ?_
        refine AllReadyH.cons rfl (fun K hK => ?_) (AllReadyH.cons rfl (fun K hK => ?_) AllReadyH.nil)
        · skip
          rw [if_pos (by rfl)]
          (try simp only [List.getElem_toArray, List.getElem_cons_succ, List.getElem_cons_zero])
          go_simp
          (with_reducible refine (C2.out _).mono ?_)
          rintro e wq ⟨rfl, rfl⟩
          (try rw [alloc_drewN])
          try go_wp2_with fail
          refine hK.out _ _ trivial (fun _ => ?_)
          clear hK K
          try simp only [Act.put, List.setIfInBounds_toArray, List.set_cons_zero, List.set_cons_succ]
          refine wpAnyH_ready (rs := [7, 23]) (by kernel_rfl) (by simp) ?_
          refine AllReadyH.cons rfl (fun K hK => ?_) (AllReadyH.cons rfl (fun K hK => ?_) AllReadyH.nil)
          · skip
            rw [if_pos (by rfl)]
            (try simp only [List.getElem_toArray, List.getElem_cons_succ, List.getElem_cons_zero])
            go_simp
            (with_reducible refine (C3.out _).mono ?_)
            rintro e wq ⟨rfl, rfl⟩
            (try rw [alloc_drewN])
            try go_wp2_with fail
            refine hK.out _ _ trivial (fun _ => ?_)
            clear hK K
            try simp only [Act.put, List.setIfInBounds_toArray, List.set_cons_zero, List.set_cons_succ]
            refine wpAnyH_ready (rs := [14, 23]) (by kernel_rfl) (by simp) ?_
            refine AllReadyH.cons rfl (fun K hK => ?_) (AllReadyH.cons rfl (fun K hK => ?_) AllReadyH.nil)
            · skip
              rw [if_pos (by rfl)]
              (try simp only [List.getElem_toArray, List.getElem_cons_succ, List.getElem_cons_zero])
              go_simp
              (with_reducible refine (C4.out _).mono ?_)
              rintro e wq ⟨rfl, rfl⟩
              (try rw [alloc_drewN])
              try go_wp2_with fail
              refine hK.out _ _ trivial (fun _ => ?_)
              clear hK K
              try simp only [Act.put, List.setIfInBounds_toArray, List.set_cons_zero, List.set_cons_succ]
              refine wpAnyH_ready (rs := [16, 23]) (by kernel_rfl) (by simp) ?_
              refine AllReadyH.cons rfl (fun K hK => ?_) (AllReadyH.cons rfl (fun K hK => ?_) AllReadyH.nil)
              · skip
                rw [if_pos (by rfl)]
                (try simp only [List.getElem_toArray, List.getElem_cons_succ, List.getElem_cons_zero])
                go_simp
                (with_reducible refine (C5.out _).mono ?_)
                rintro e wq ⟨rfl, rfl⟩
                (try rw [alloc_drewN])
                try go_wp2_with fail
                refine hK.out _ _ trivial (fun _ => ?_)
                clear hK K
                try simp only [Act.put, List.setIfInBounds_toArray, List.set_cons_zero, List.set_cons_succ]
                refine wpAnyH_ready (rs := [18, 23]) (by kernel_rfl) (by simp) ?_
                refine AllReadyH.cons rfl (fun K hK => ?_) (AllReadyH.cons rfl (fun K hK => ?_) AllReadyH.nil)
                · skip
                  rw [if_pos (by rfl)]
                  (try simp only [List.getElem_toArray, List.getElem_cons_succ, List.getElem_cons_zero])
                  go_simp
                  (with_reducible refine (C6.out _).mono ?_)
                  rintro e wq ⟨rfl, rfl⟩
                  (try rw [alloc_drewN])
                  try go_wp2_with fail
                  refine hK.out _ _ trivial (fun _ => ?_)
                  clear hK K
                  try simp only [Act.put, List.setIfInBounds_toArray, List.set_cons_zero, List.set_cons_succ]
                  refine wpAnyH_take (i := 22) (v := ?v22_16) rfl (by kernel_rfl) (by kernel_rfl) (by kernel_rfl) (fun _ _ _ h => h) (Or.inl (And.intro rfl ?q22_16)) trivial ?r22_16; (case q22_16 => (intro w _; (try dsimp only); (try go_simp); (try with_reducible rfl)))
                  try simp only [Act.put, List.setIfInBounds_toArray, List.set_cons_zero, List.set_cons_succ]
                  refine wpAnyH_ready (rs := [23]) (by kernel_rfl) (by simp) ?_
                  refine AllReadyH.cons rfl (fun K hK => ?_) AllReadyH.nil
                  rw [if_pos (by rfl)]
                  (try simp only [List.getElem_toArray, List.getElem_cons_succ, List.getElem_cons_zero])
                  go_simp
                  refine hK.out _ _ trivial (fun _ => ?_)
                  clear hK K
                  try simp only [Act.put, List.setIfInBounds_toArray, List.set_cons_zero, List.set_cons_succ]
                  refine wpAnyH_ready (rs := [24]) (by kernel_rfl) (by simp) ?_
                  refine AllReadyH.cons rfl (fun K hK => ?_) AllReadyH.nil
                  rw [if_pos (by rfl)]
                  (try simp only [List.getElem_toArray, List.getElem_cons_succ, List.getElem_cons_zero])
                  go_simp
                  refine hK.out _ _ trivial (fun _ => ?_)
                  clear hK K
                  try simp only [Act.put, List.setIfInBounds_toArray, List.set_cons_zero, List.set_cons_succ]
                  refine wpAnyH_done (by kernel_rfl) ?_ _
                  exact key
                · skip
                  rw [if_pos (by rfl)]
                  (try simp only [List.getElem_toArray, List.getElem_cons_succ, List.getElem_cons_zero])
                  go_simp
                  refine hK.out _ _ trivial (fun _ => ?_)
                  clear hK K
                  try simp only [Act.put, List.setIfInBounds_toArray, List.set_cons_zero, List.set_cons_succ]
                  refine wpAnyH_ready (rs := [18]) (by kernel_rfl) (by simp) ?_
                  refine AllReadyH.cons rfl (fun K hK => ?_) AllReadyH.nil
                  rw [if_pos (by rfl)]
                  (try simp only [List.getElem_toArray, List.getElem_cons_succ, List.getElem_cons_zero])
                  go_simp
                  (with_reducible refine (C6.out _).mono ?_)
                  rintro e wq ⟨rfl, rfl⟩
                  (try rw [alloc_drewN])
                  try go_wp2_with fail
                  refine hK.out _ _ trivial (fun _ => ?_)
                  clear hK K
                  try simp only [Act.put, List.setIfInBounds_toArray, List.set_cons_zero, List.set_cons_succ]
                  refine wpAnyH_take (i := 22) (v := ?v22_17) rfl (by kernel_rfl) (by kernel_rfl) (by kernel_rfl) (fun _ _ _ h => h) (Or.inl (And.intro rfl ?q22_17)) trivial ?r22_17; (case q22_17 => (intro w _; (try dsimp only); (try go_simp); (try with_reducible rfl)))
                  try simp only [Act.put, List.setIfInBounds_toArray, List.set_cons_zero, List.set_cons_succ]
                  refine wpAnyH_ready (rs := [24]) (by kernel_rfl) (by simp) ?_
                  refine AllReadyH.cons rfl (fun K hK => ?_) AllReadyH.nil
                  rw [if_pos (by rfl)]
                  (try simp only [List.getElem_toArray, List.getElem_cons_succ, List.getElem_cons_zero])
                  go_simp
                  refine hK.out _ _ trivial (fun _ => ?_)
                  clear hK K
                  try simp only [Act.put, List.setIfInBounds_toArray, List.set_cons_zero, List.set_cons_succ]
                  refine wpAnyH_done (by kernel_rfl) ?_ _
                  exact key
              · skip
                rw [if_pos (by rfl)]
                (try simp only [List.getElem_toArray, List.getElem_cons_succ, List.getElem_cons_zero])
                go_simp
                refine hK.out _ _ trivial (fun _ => ?_)
                clear hK K
                try simp only [Act.put, List.setIfInBounds_toArray, List.set_cons_zero, List.set_cons_succ]
                refine wpAnyH_ready (rs := [16]) (by kernel_rfl) (by simp) ?_
                refine AllReadyH.cons rfl (fun K hK => ?_) AllReadyH.nil
                rw [if_pos (by rfl)]
                (try simp only [List.getElem_toArray, List.getElem_cons_succ, List.getElem_cons_zero])
                go_simp
                (with_reducible refine (C5.out _).mono ?_)
                rintro e wq ⟨rfl, rfl⟩
                (try rw [alloc_drewN])
                try go_wp2_with fail
                refine hK.out _ _ trivial (fun _ => ?_)
                clear hK K
                try simp only [Act.put, List.setIfInBounds_toArray, List.set_cons_zero, List.set_cons_succ]
                refine wpAnyH_ready (rs := [18]) (by kernel_rfl) (by simp) ?_
                refine AllReadyH.cons rfl (fun K hK => ?_) AllReadyH.nil
                rw [if_pos (by rfl)]
                (try simp only [List.getElem_toArray, List.getElem_cons_succ, List.getElem_cons_zero])
                go_simp
                (with_reducible refine (C6.out _).mono ?_)
                rintro e wq ⟨rfl, rfl⟩
                (try rw [alloc_drewN])
                try go_wp2_with fail
                refine hK.out _ _ trivial (fun _ => ?_)
                clear hK K
                try simp only [Act.put, List.setIfInBounds_toArray, List.set_cons_zero, List.set_cons_succ]
                refine wpAnyH_take (i := 22) (v := ?v22_18) rfl (by kernel_rfl) (by kernel_rfl) (by kernel_rfl) (fun _ _ _ h => h) (Or.inl (And.intro rfl ?q22_18)) trivial ?r22_18; (case q22_18 => (intro w _; (try dsimp only); (try go_simp); (try with_reducible rfl)))
                try simp only [Act.put, List.setIfInBounds_toArray, List.set_cons_zero, List.set_cons_succ]
                refine wpAnyH_ready (rs := [24]) (by kernel_rfl) (by simp) ?_
                refine AllReadyH.cons rfl (fun K hK => ?_) AllReadyH.nil
                rw [if_pos (by rfl)]
                (try simp only [List.getElem_toArray, List.getElem_cons_succ, List.getElem_cons_zero])
                go_simp
                refine hK.out _ _ trivial (fun _ => ?_)
                clear hK K
                try simp only [Act.put, List.setIfInBounds_toArray, List.set_cons_zero, List.set_cons_succ]
                refine wpAnyH_done (by kernel_rfl) ?_ _
                exact key
            · skip
              rw [if_pos (by rfl)]
              (try simp only [List.getElem_toArray, List.getElem_cons_succ, List.getElem_cons_zero])
              go_simp
              refine hK.out _ _ trivial (fun _ => ?_)
              clear hK K
              try simp only [Act.put, List.setIfInBounds_toArray, List.set_cons_zero, List.set_cons_succ]
              refine wpAnyH_ready (rs := [14]) (by kernel_rfl) (by simp) ?_
              refine AllReadyH.cons rfl (fun K hK => ?_) AllReadyH.nil
              rw [if_pos (by rfl)]
              (try simp only [List.getElem_toArray, List.getElem_cons_succ, List.getElem_cons_zero])
              go_simp
              (with_reducible refine (C4.out _).mono ?_)
              rintro e wq ⟨rfl, rfl⟩
              (try rw [alloc_drewN])
              try go_wp2_with fail
              refine hK.out _ _ trivial (fun _ => ?_)
              clear hK K
              try simp only [Act.put, List.setIfInBounds_toArray, List.set_cons_zero, List.set_cons_succ]
              refine wpAnyH_ready (rs := [16]) (by kernel_rfl) (by simp) ?_
              refine AllReadyH.cons rfl (fun K hK => ?_) AllReadyH.nil
              rw [if_pos (by rfl)]
              (try simp only [List.getElem_toArray, List.getElem_cons_succ, List.getElem_cons_zero])
              go_simp
              (with_reducible refine (C5.out _).mono ?_)
              rintro e wq ⟨rfl, rfl⟩
              (try rw [alloc_drewN])
              try go_wp2_with fail
              refine hK.out _ _ trivial (fun _ => ?_)
              clear hK K
              try simp only [Act.put, List.setIfInBounds_toArray, List.set_cons_zero, List.set_cons_succ]
              refine wpAnyH_ready (rs := [18]) (by kernel_rfl) (by simp) ?_
              refine AllReadyH.cons rfl (fun K hK => ?_) AllReadyH.nil
              rw [if_pos (by rfl)]
              (try simp only [List.getElem_toArray, List.getElem_cons_succ, List.getElem_cons_zero])
              go_simp
              (with_reducible refine (C6.out _).mono ?_)
              rintro e wq ⟨rfl, rfl⟩
              (try rw [alloc_drewN])
              try go_wp2_with fail
              refine hK.out _ _ trivial (fun _ => ?_)
              clear hK K
              try simp only [Act.put, List.setIfInBounds_toArray, List.set_cons_zero, List.set_cons_succ]
              refine wpAnyH_take (i := 22) (v := ?v22_19) rfl (by kernel_rfl) (by kernel_rfl) (by kernel_rfl) (fun _ _ _ h => h) (Or.inl (And.intro rfl ?q22_19)) trivial ?r22_19; (case q22_19 => (intro w _; (try dsimp only); (try go_simp); (try with_reducible rfl)))
              try simp only [Act.put, List.setIfInBounds_toArray, List.set_cons_zero, List.set_cons_succ]
              refine wpAnyH_ready (rs := [24]) (by kernel_rfl) (by simp) ?_
              refine AllReadyH.cons rfl (fun K hK => ?_) AllReadyH.nil
              rw [if_pos (by rfl)]
              (try simp only [List.getElem_toArray, List.getElem_cons_succ, List.getElem_cons_zero])
              go_simp
              refine hK.out _ _ trivial (fun _ => ?_)
              clear hK K
              try simp only [Act.put, List.setIfInBounds_toArray, List.set_cons_zero, List.set_cons_succ]
              refine wpAnyH_done (by kernel_rfl) ?_ _
              exact key
          · skip
            rw [if_pos (by rfl)]
            (try simp only [List.getElem_toArray, List.getElem_cons_succ, List.getElem_cons_zero])
            go_simp
            refine hK.out _ _ trivial (fun _ => ?_)
            clear hK K
            try simp only [Act.put, List.setIfInBounds_toArray, List.set_cons_zero, List.set_cons_succ]
            refine wpAnyH_ready (rs := [7]) (by kernel_rfl) (by simp) ?_
            refine AllReadyH.cons rfl (fun K hK => ?_) AllReadyH.nil
            rw [if_pos (by rfl)]
            (try simp only [List.getElem_toArray, List.getElem_cons_succ, List.getElem_cons_zero])
            go_simp
            (with_reducible refine (C3.out _).mono ?_)
            rintro e wq ⟨rfl, rfl⟩
            (try rw [alloc_drewN])
            try go_wp2_with fail
            refine hK.out _ _ trivial (fun _ => ?_)
            clear hK K
            try simp only [Act.put, List.setIfInBounds_toArray, List.set_cons_zero, List.set_cons_succ]
            refine wpAnyH_ready (rs := [14]) (by kernel_rfl) (by simp) ?_
            refine AllReadyH.cons rfl (fun K hK => ?_) AllReadyH.nil
            rw [if_pos (by rfl)]
            (try simp only [List.getElem_toArray, List.getElem_cons_succ, List.getElem_cons_zero])
            go_simp
            (with_reducible refine (C4.out _).mono ?_)
            rintro e wq ⟨rfl, rfl⟩
            (try rw [alloc_drewN])
            try go_wp2_with fail
            refine hK.out _ _ trivial (fun _ => ?_)
            clear hK K
            try simp only [Act.put, List.setIfInBounds_toArray, List.set_cons_zero, List.set_cons_succ]
            refine wpAnyH_ready (rs := [16]) (by kernel_rfl) (by simp) ?_
            refine AllReadyH.cons rfl (fun K hK => ?_) AllReadyH.nil
            rw [if_pos (by rfl)]
            (try simp only [List.getElem_toArray, List.getElem_cons_succ, List.getElem_cons_zero])
            go_simp
            (with_reducible refine (C5.out _).mono ?_)
            rintro e wq ⟨rfl, rfl⟩
            (try rw [alloc_drewN])
            try go_wp2_with fail
            refine hK.out _ _ trivial (fun _ => ?_)
            clear hK K
            try simp only [Act.put, List.setIfInBounds_toArray, List.set_cons_zero, List.set_cons_succ]
            refine wpAnyH_ready (rs := [18]) (by kernel_rfl) (by simp) ?_
            refine AllReadyH.cons rfl (fun K hK => ?_) AllReadyH.nil
            rw [if_pos (by rfl)]
            (try simp only [List.getElem_toArray, List.getElem_cons_succ, List.getElem_cons_zero])
            go_simp
            (with_reducible refine (C6.out _).mono ?_)
            rintro e wq ⟨rfl, rfl⟩
            (try rw [alloc_drewN])
            try go_wp2_with fail
            refine hK.out _ _ trivial (fun _ => ?_)
            clear hK K
            try simp only [Act.put, List.setIfInBounds_toArray, List.set_cons_zero, List.set_cons_succ]
            refine wpAnyH_take (i := 22) (v := ?v22_20) rfl (by kernel_rfl) (by kernel_rfl) (by kernel_rfl) (fun _ _ _ h => h) (Or.inl (And.intro rfl ?q22_20)) trivial ?r22_20; (case q22_20 => (intro w _; (try dsimp only); (try go_simp); (try with_reducible rfl)))
            try simp only [Act.put, List.setIfInBounds_toArray, List.set_cons_zero, List.set_cons_succ]
            refine wpAnyH_ready (rs := [24]) (by kernel_rfl) (by simp) ?_
            refine AllReadyH.cons rfl (fun K hK => ?_) AllReadyH.nil
            rw [if_pos (by rfl)]
            (try simp only [List.getElem_toArray, List.getElem_cons_succ, List.getElem_cons_zero])
            go_simp
            refine hK.out _ _ trivial (fun _ => ?_)
            clear hK K
            try simp only [Act.put, List.setIfInBounds_toArray, List.set_cons_zero, List.set_cons_succ]
            refine wpAnyH_done (by kernel_rfl) ?_ _
            exact key
        · skip
          rw [if_pos (by rfl)]
          (try simp only [List.getElem_toArray, List.getElem_cons_succ, List.getElem_cons_zero])
          go_simp
          refine hK.out _ _ trivial (fun _ => ?_)
          clear hK K
          try simp only [Act.put, List.setIfInBounds_toArray, List.set_cons_zero, List.set_cons_succ]
          refine wpAnyH_ready (rs := [5]) (by kernel_rfl) (by simp) ?_
          refine AllReadyH.cons rfl (fun K hK => ?_) AllReadyH.nil
          rw [if_pos (by rfl)]
          (try simp only [List.getElem_toArray, List.getElem_cons_succ, List.getElem_cons_zero])
          go_simp
          (with_reducible refine (C2.out _).mono ?_)
          rintro e wq ⟨rfl, rfl⟩
          (try rw [alloc_drewN])
          try go_wp2_with fail
          refine hK.out _ _ trivial (fun _ => ?_)
          clear hK K
          try simp only [Act.put, List.setIfInBounds_toArray, List.set_cons_zero, List.set_cons_succ]
          refine wpAnyH_ready (rs := [7]) (by kernel_rfl) (by simp) ?_
          refine AllReadyH.cons rfl (fun K hK => ?_) AllReadyH.nil
          rw [if_pos (by rfl)]
          (try simp only [List.getElem_toArray, List.getElem_cons_succ, List.getElem_cons_zero])
          go_simp
          (with_reducible refine (C3.out _).mono ?_)
          rintro e wq ⟨rfl, rfl⟩
          (try rw [alloc_drewN])
          try go_wp2_with fail
          refine hK.out _ _ trivial (fun _ => ?_)
          clear hK K
          try simp only [Act.put, List.setIfInBounds_toArray, List.set_cons_zero, List.set_cons_succ]
          refine wpAnyH_ready (rs := [14]) (by kernel_rfl) (by simp) ?_
          refine AllReadyH.cons rfl (fun K hK => ?_) AllReadyH.nil
          rw [if_pos (by rfl)]
          (try simp only [List.getElem_toArray, List.getElem_cons_succ, List.getElem_cons_zero])
          go_simp
          (with_reducible refine (C4.out _).mono ?_)
          rintro e wq ⟨rfl, rfl⟩
          (try rw [alloc_drewN])
          try go_wp2_with fail
          refine hK.out _ _ trivial (fun _ => ?_)
          clear hK K
          try simp only [Act.put, List.setIfInBounds_toArray, List.set_cons_zero, List.set_cons_succ]
          refine wpAnyH_ready (rs := [16]) (by kernel_rfl) (by simp) ?_
          refine AllReadyH.cons rfl (fun K hK => ?_) AllReadyH.nil
          rw [if_pos (by rfl)]
          (try simp only [List.getElem_toArray, List.getElem_cons_succ, List.getElem_cons_zero])
          go_simp
          (with_reducible refine (C5.out _).mono ?_)
          rintro e wq ⟨rfl, rfl⟩
          (try rw [alloc_drewN])
          try go_wp2_with fail
          refine hK.out _ _ trivial (fun _ => ?_)
          clear hK K
          try simp only [Act.put, List.setIfInBounds_toArray, List.set_cons_zero, List.set_cons_succ]
          refine wpAnyH_ready (rs := [18]) (by kernel_rfl) (by simp) ?_
          refine AllReadyH.cons rfl (fun K hK => ?_) AllReadyH.nil
          rw [if_pos (by rfl)]
          (try simp only [List.getElem_toArray, List.getElem_cons_succ, List.getElem_cons_zero])
          go_simp
          (with_reducible refine (C6.out _).mono ?_)
          rintro e wq ⟨rfl, rfl⟩
          (try rw [alloc_drewN])
          try go_wp2_with fail
          refine hK.out _ _ trivial (fun _ => ?_)
          clear hK K
          try simp only [Act.put, List.setIfInBounds_toArray, List.set_cons_zero, List.set_cons_succ]
          refine wpAnyH_take (i := 22) (v := ?v22_21) rfl (by kernel_rfl) (by kernel_rfl) (by kernel_rfl) (fun _ _ _ h => h) (Or.inl (And.intro rfl ?q22_21)) trivial ?r22_21; (case q22_21 => (intro w _; (try dsimp only); (try go_simp); (try with_reducible rfl)))
          try simp only [Act.put, List.setIfInBounds_toArray, List.set_cons_zero, List.set_cons_succ]
          refine wpAnyH_ready (rs := [24]) (by kernel_rfl) (by simp) ?_
          refine AllReadyH.cons rfl (fun K hK => ?_) AllReadyH.nil
          rw [if_pos (by rfl)]
          (try simp only [List.getElem_toArray, List.getElem_cons_succ, List.getElem_cons_zero])
          go_simp
          refine hK.out _ _ trivial (fun _ => ?_)
          clear hK K
          try simp only [Act.put, List.setIfInBounds_toArray, List.set_cons_zero, List.set_cons_succ]
          refine wpAnyH_done (by kernel_rfl) ?_ _
          exact key
      · skip
        rw [if_pos (by rfl)]
        (try simp only [List.getElem_toArray, List.getElem_cons_succ, List.getElem_cons_zero])
        go_simp
        refine hK.out _ _ trivial (fun _ => ?_)
        clear hK K
        try simp only [Act.put, List.setIfInBounds_toArray, List.set_cons_zero, List.set_cons_succ]
        refine wpAnyH_ready (rs := [3]) (by kernel_rfl) (by simp) ?_
        refine AllReadyH.cons rfl (fun K hK => ?_) AllReadyH.nil
        rw [if_pos (by rfl)]
        (try simp only [List.getElem_toArray, List.getElem_cons_succ, List.getElem_cons_zero])
        go_simp
        (with_reducible refine (C1.out _).mono ?_)
        rintro e wq ⟨rfl, rfl⟩
        (try rw [alloc_drewN])
        try go_wp2_with fail
        refine hK.out _ _ trivial (fun _ => ?_)
        clear hK K
        try simp only [Act.put, List.setIfInBounds_toArray, List.set_cons_zero, List.set_cons_succ]
        refine wpAnyH_ready (rs := [5]) (by kernel_rfl) (by simp) ?_
        refine AllReadyH.cons rfl (fun K hK => ?_) AllReadyH.nil
        rw [if_pos (by rfl)]
        (try simp only [List.getElem_toArray, List.getElem_cons_succ, List.getElem_cons_zero])
        go_simp
        (with_reducible refine (C2.out _).mono ?_)
        rintro e wq ⟨rfl, rfl⟩
        (try rw [alloc_drewN])
        try go_wp2_with fail
        refine hK.out _ _ trivial (fun _ => ?_)
        clear hK K
        try simp only [Act.put, List.setIfInBounds_toArray, List.set_cons_zero, List.set_cons_succ]
        refine wpAnyH_ready (rs := [7]) (by kernel_rfl) (by simp) ?_
        refine AllReadyH.cons rfl (fun K hK => ?_) AllReadyH.nil
        rw [if_pos (by rfl)]
        (try simp only [List.getElem_toArray, List.getElem_cons_succ, List.getElem_cons_zero])
        go_simp
        (with_reducible refine (C3.out _).mono ?_)
        rintro e wq ⟨rfl, rfl⟩
        (try rw [alloc_drewN])
        try go_wp2_with fail
        refine hK.out _ _ trivial (fun _ => ?_)
        clear hK K
        try simp only [Act.put, List.setIfInBounds_toArray, List.set_cons_zero, List.set_cons_succ]
        refine wpAnyH_ready (rs := [14]) (by kernel_rfl) (by simp) ?_
        refine AllReadyH.cons rfl (fun K hK => ?_) AllReadyH.nil
        rw [if_pos (by rfl)]
        (try simp only [List.getElem_toArray, List.getElem_cons_succ, List.getElem_cons_zero])
        go_simp
        (with_reducible refine (C4.out _).mono ?_)
        rintro e wq ⟨rfl, rfl⟩
        (try rw [alloc_drewN])
        try go_wp2_with fail
        refine hK.out _ _ trivial (fun _ => ?_)
        clear hK K
        try simp only [Act.put, List.setIfInBounds_toArray, List.set_cons_zero, List.set_cons_succ]
        refine wpAnyH_ready (rs := [16]) (by kernel_rfl) (by simp) ?_
        refine AllReadyH.cons rfl (fun K hK => ?_) AllReadyH.nil
        rw [if_pos (by rfl)]
        (try simp only [List.getElem_toArray, List.getElem_cons_succ, List.getElem_cons_zero])
        go_simp
        (with_reducible refine (C5.out _).mono ?_)
        rintro e wq ⟨rfl, rfl⟩
        (try rw [alloc_drewN])
        try go_wp2_with fail
        refine hK.out _ _ trivial (fun _ => ?_)
        clear hK K
        try simp only [Act.put, List.setIfInBounds_toArray, List.set_cons_zero, List.set_cons_succ]
        refine wpAnyH_ready (rs := [18]) (by kernel_rfl) (by simp) ?_
        refine AllReadyH.cons rfl (fun K hK => ?_) AllReadyH.nil
        rw [if_pos (by rfl)]
        (try simp only [List.getElem_toArray, List.getElem_cons_succ, List.getElem_cons_zero])
        go_simp
        (with_reducible refine (C6.out _).mono ?_)
        rintro e wq ⟨rfl, rfl⟩
        (try rw [alloc_drewN])
        try go_wp2_with fail
        refine hK.out _ _ trivial (fun _ => ?_)
        clear hK K
        try simp only [Act.put, List.setIfInBounds_toArray, List.set_cons_zero, List.set_cons_succ]
        refine wpAnyH_take (i := 22) (v := ?v22_22) rfl (by kernel_rfl) (by kernel_rfl) (by kernel_rfl) (fun _ _ _ h => h) (Or.inl (And.intro rfl ?q22_22)) trivial ?r22_22; (case q22_22 => (intro w _; (try dsimp only); (try go_simp); (try with_reducible rfl)))
        try simp only [Act.put, List.setIfInBounds_toArray, List.set_cons_zero, List.set_cons_succ]
        refine wpAnyH_ready (rs := [24]) (by kernel_rfl) (by simp) ?_
        refine AllReadyH.cons rfl (fun K hK => ?_) AllReadyH.nil
        rw [if_pos (by rfl)]
        (try simp only [List.getElem_toArray, List.getElem_cons_succ, List.getElem_cons_zero])
        go_simp
        refine hK.out _ _ trivial (fun _ => ?_)
        clear hK K
        try simp only [Act.put, List.setIfInBounds_toArray, List.set_cons_zero, List.set_cons_succ]
        refine wpAnyH_done (by kernel_rfl) ?_ _
        exact key
    · skip
      rw [if_pos (by rfl)]
      (try simp only [List.getElem_toArray, List.getElem_cons_succ, List.getElem_cons_zero])
      go_simp
      refine hK.out _ _ trivial (fun _ => ?_)
      clear hK K
      try simp only [Act.put, List.setIfInBounds_toArray, List.set_cons_zero, List.set_cons_succ]
      refine wpAnyH_ready (rs := [1]) (by kernel_rfl) (by simp) ?_
      refine AllReadyH.cons rfl (fun K hK => ?_) AllReadyH.nil
      rw [if_pos (by rfl)]
      (try simp only [List.getElem_toArray, List.getElem_cons_succ, List.getElem_cons_zero])
      go_simp
      (with_reducible refine (C0.out _).mono ?_)
      rintro e wq ⟨rfl, rfl⟩
      (try rw [alloc_drewN])
      try go_wp2_with fail
      refine hK.out _ _ trivial (fun _ => ?_)
      clear hK K
      try simp only [Act.put, List.setIfInBounds_toArray, List.set_cons_zero, List.set_cons_succ]
      refine wpAnyH_ready (rs := [3]) (by kernel_rfl) (by simp) ?_
      refine AllReadyH.cons rfl (fun K hK => ?_) AllReadyH.nil
      rw [if_pos (by rfl)]
      (try simp only [List.getElem_toArray, List.getElem_cons_succ, List.getElem_cons_zero])
      go_simp
      (with_reducible refine (C1.out _).mono ?_)
      rintro e wq ⟨rfl, rfl⟩
      (try rw [alloc_drewN])
      try go_wp2_with fail
      refine hK.out _ _ trivial (fun _ => ?_)
      clear hK K
      try simp only [Act.put, List.setIfInBounds_toArray, List.set_cons_zero, List.set_cons_succ]
      refine wpAnyH_ready (rs := [5]) (by kernel_rfl) (by simp) ?_
      refine AllReadyH.cons rfl (fun K hK => ?_) AllReadyH.nil
      rw [if_pos (by rfl)]
      (try simp only [List.getElem_toArray, List.getElem_cons_succ, List.getElem_cons_zero])
      go_simp
      (with_reducible refine (C2.out _).mono ?_)
      rintro e wq ⟨rfl, rfl⟩
      (try rw [alloc_drewN])
      try go_wp2_with fail
      refine hK.out _ _ trivial (fun _ => ?_)
      clear hK K
      try simp only [Act.put, List.setIfInBounds_toArray, List.set_cons_zero, List.set_cons_succ]
      refine wpAnyH_ready (rs := [7]) (by kernel_rfl) (by simp) ?_
      refine AllReadyH.cons rfl (fun K hK => ?_) AllReadyH.nil
      rw [if_pos (by rfl)]
      (try simp only [List.getElem_toArray, List.getElem_cons_succ, List.getElem_cons_zero])
      go_simp
      (with_reducible refine (C3.out _).mono ?_)
      rintro e wq ⟨rfl, rfl⟩
      (try rw [alloc_drewN])
      try go_wp2_with fail
      refine hK.out _ _ trivial (fun _ => ?_)
      clear hK K
      try simp only [Act.put, List.setIfInBounds_toArray, List.set_cons_zero, List.set_cons_succ]
      refine wpAnyH_ready (rs := [14]) (by kernel_rfl) (by simp) ?_
      refine AllReadyH.cons rfl (fun K hK => ?_) AllReadyH.nil
      rw [if_pos (by rfl)]
      (try simp only [List.getElem_toArray, List.getElem_cons_succ, List.getElem_cons_zero])
      go_simp
      (with_reducible refine (C4.out _).mono ?_)
      rintro e wq ⟨rfl, rfl⟩
      (try rw [alloc_drewN])
      try go_wp2_with fail
      refine hK.out _ _ trivial (fun _ => ?_)
      clear hK K
      try simp only [Act.put, List.setIfInBounds_toArray, List.set_cons_zero, List.set_cons_succ]
      refine wpAnyH_ready (rs := [16]) (by kernel_rfl) (by simp) ?_
      refine AllReadyH.cons rfl (fun K hK => ?_) AllReadyH.nil
      rw [if_pos (by rfl)]
      (try simp only [List.getElem_toArray, List.getElem_cons_succ, List.getElem_cons_zero])
      go_simp
      (with_reducible refine (C5.out _).mono ?_)
      rintro e wq ⟨rfl, rfl⟩
      (try rw [alloc_drewN])
      try go_wp2_with fail
      refine hK.out _ _ trivial (fun _ => ?_)
      clear hK K
      try simp only [Act.put, List.setIfInBounds_toArray, List.set_cons_zero, List.set_cons_succ]
      refine wpAnyH_ready (rs := [18]) (by kernel_rfl) (by simp) ?_
      refine AllReadyH.cons rfl (fun K hK => ?_) AllReadyH.nil
      rw [if_pos (by rfl)]
      (try simp only [List.getElem_toArray, List.getElem_cons_succ, List.getElem_cons_zero])
      go_simp
      (with_reducible refine (C6.out _).mono ?_)
      rintro e wq ⟨rfl, rfl⟩
      (try rw [alloc_drewN])
      try go_wp2_with fail
      refine hK.out _ _ trivial (fun _ => ?_)
      clear hK K
      try simp only [Act.put, List.setIfInBounds_toArray, List.set_cons_zero, List.set_cons_succ]
      refine wpAnyH_take (i := 22) (v := ?v22_23) rfl (by kernel_rfl) (by kernel_rfl) (by kernel_rfl) (fun _ _ _ h => h) (Or.inl (And.intro rfl ?q22_23)) trivial ?r22_23; (case q22_23 => (intro w _; (try dsimp only); (try go_simp); (try with_reducible rfl)))
      try simp only [Act.put, List.setIfInBounds_toArray, List.set_cons_zero, List.set_cons_succ]
      refine wpAnyH_ready (rs := [24]) (by kernel_rfl) (by simp) ?_
      refine AllReadyH.cons rfl (fun K hK => ?_) AllReadyH.nil
      rw [if_pos (by rfl)]
      (try simp only [List.getElem_toArray, List.getElem_cons_succ, List.getElem_cons_zero])
      go_simp
      refine hK.out _ _ trivial (fun _ => ?_)
      clear hK K
      try simp only [Act.put, List.setIfInBounds_toArray, List.set_cons_zero, List.set_cons_succ]
      refine wpAnyH_done (by kernel_rfl) ?_ _
      exact key
  case rest =>
    have hmod : x.tmod 16 = x % 16 := Int.tmod_eq_emod_of_nonneg (by omega)
    simp only [hmod]
    have h4 : Cells ((w.alloc (.cells #[.int .u16 0, .int .u16 0, .int .u32 0, .int .u32 0, .int .u8 0, .int .u8 0, .int .u16 0, .int .u16 0, .int .u16 0, .string { data := #[] }] 269)).alloc (.cells #[.int .u16 p0, .int .u16 p1, .int .u32 p2, .int .u32 p3, .int .u8 (x % 16), .int .u8 y, .int .u16 p4, .int .u16 p5, .int .u16 p6, .string (s.extract 20 (x / 16 * 4).toNat)] 269)).drew (w.heap.size + 1) #[.int .u16 p0, .int .u16 p1, .int .u32 p2, .int .u32 p3, .int .u8 (x % 16), .int .u8 y, .int .u16 p4, .int .u16 p5, .int .u16 p6, .string (s.extract 20 (x / 16 * 4).toNat)] 269 := by
      have := Cells.new (w.alloc (.cells #[.int .u16 0, .int .u16 0, .int .u32 0, .int .u32 0, .int .u8 0, .int .u8 0, .int .u16 0, .int .u16 0, .int .u16 0, .string { data := #[] }] 269)) #[.int .u16 p0, .int .u16 p1, .int .u32 p2, .int .u32 p3, .int .u8 (x % 16), .int .u8 y, .int .u16 p4, .int .u16 p5, .int .u16 p6, .string (s.extract 20 (x / 16 * 4).toNat)] 269
      rw [show (w.alloc (.cells #[.int .u16 0, .int .u16 0, .int .u32 0, .int .u32 0, .int .u8 0, .int .u8 0, .int .u16 0, .int .u16 0, .int .u16 0, .string { data := #[] }] 269)).heap.size = w.heap.size + 1 from by simp] at this
      exact this
    have r4 : Cells ((w.alloc (.cells #[.int .u16 0, .int .u16 0, .int .u32 0, .int .u32 0, .int .u8 0, .int .u8 0, .int .u16 0, .int .u16 0, .int .u16 0, .string { data := #[] }] 269)).alloc (.cells #[.int .u16 p0, .int .u16 p1, .int .u32 p2, .int .u32 p3, .int .u8 (x % 16), .int .u8 y, .int .u16 p4, .int .u16 p5, .int .u16 p6, .string (s.extract 20 (x / 16 * 4).toNat)] 269)).drew w.heap.size #[.int .u16 0, .int .u16 0, .int .u32 0, .int .u32 0, .int .u8 0, .int .u8 0, .int .u16 0, .int .u16 0, .int .u16 0, .string { data := #[] }] 269 := Cells.alloc d0 (.cells #[.int .u16 p0, .int .u16 p1, .int .u32 p2, .int .u32 p3, .int .u8 (x % 16), .int .u8 y, .int .u16 p4, .int .u16 p5, .int .u16 p6, .string (s.extract 20 (x / 16 * 4).toNat)] 269)
    have b4 : Below w.heap.size w ((w.alloc (.cells #[.int .u16 0, .int .u16 0, .int .u32 0, .int .u32 0, .int .u8 0, .int .u8 0, .int .u16 0, .int .u16 0, .int .u16 0, .string { data := #[] }] 269)).alloc (.cells #[.int .u16 p0, .int .u16 p1, .int .u32 p2, .int .u32 p3, .int .u8 (x % 16), .int .u8 y, .int .u16 p4, .int .u16 p5, .int .u16 p6, .string (s.extract 20 (x / 16 * 4).toNat)] 269)).drew := (by (repeat' (first | with_reducible exact Below.refl _ _ | with_reducible refine Below.setCell ?_ (by first | exact Nat.le_refl _ | (dsimp only; omega)) _ | with_reducible refine bstep ?_ (fresh_below _ _) | with_reducible refine Below.drew ?_)))
    clear d0 C0 C1 C2 C3 C4 C5 C6
    generalize ((w.alloc (.cells #[.int .u16 0, .int .u16 0, .int .u32 0, .int .u32 0, .int .u8 0, .int .u8 0, .int .u16 0, .int .u16 0, .int .u16 0, .string { data := #[] }] 269)).alloc (.cells #[.int .u16 p0, .int .u16 p1, .int .u32 p2, .int .u32 p3, .int .u8 (x % 16), .int .u8 y, .int .u16 p4, .int .u16 p5, .int .u16 p6, .string (s.extract 20 (x / 16 * 4).toNat)] 269)).drew = w4 at *
    have xh4_0 : w4.cell? ⟨w.heap.size + 1, 0, none⟩ = some (.int .u16 p0) := h4.at_ 0
    have xh4_1 : w4.cell? ⟨w.heap.size + 1, 1, none⟩ = some (.int .u16 p1) := h4.at_ 1
    have xh4_2 : w4.cell? ⟨w.heap.size + 1, 2, none⟩ = some (.int .u32 p2) := h4.at_ 2
    have xh4_3 : w4.cell? ⟨w.heap.size + 1, 3, none⟩ = some (.int .u32 p3) := h4.at_ 3
    have xh4_4 : w4.cell? ⟨w.heap.size + 1, 4, none⟩ = some (.int .u8 (x % 16)) := h4.at_ 4
    have xh4_5 : w4.cell? ⟨w.heap.size + 1, 5, none⟩ = some (.int .u8 y) := h4.at_ 5
    have xh4_6 : w4.cell? ⟨w.heap.size + 1, 6, none⟩ = some (.int .u16 p4) := h4.at_ 6
    have xh4_7 : w4.cell? ⟨w.heap.size + 1, 7, none⟩ = some (.int .u16 p5) := h4.at_ 7
    have xh4_8 : w4.cell? ⟨w.heap.size + 1, 8, none⟩ = some (.int .u16 p6) := h4.at_ 8
    have xh4_9 : w4.cell? ⟨w.heap.size + 1, 9, none⟩ = some (.string (s.extract 20 (x / 16 * 4).toNat)) := h4.at_ 9
    have hx : w4.cell? ⟨w.heap.size, 0, none⟩ = some (.int .u16 0) := r4.at_ 0
    have xr4_0 : w4.cell? ⟨w.heap.size, 0, none⟩ = some (.int .u16 0) := r4.at_ 0
    have xr4_1 : w4.cell? ⟨w.heap.size, 1, none⟩ = some (.int .u16 0) := r4.at_ 1
    have xr4_2 : w4.cell? ⟨w.heap.size, 2, none⟩ = some (.int .u32 0) := r4.at_ 2
    have xr4_3 : w4.cell? ⟨w.heap.size, 3, none⟩ = some (.int .u32 0) := r4.at_ 3
    have xr4_4 : w4.cell? ⟨w.heap.size, 4, none⟩ = some (.int .u8 0) := r4.at_ 4
    have xr4_5 : w4.cell? ⟨w.heap.size, 5, none⟩ = some (.int .u8 0) := r4.at_ 5
    have xr4_6 : w4.cell? ⟨w.heap.size, 6, none⟩ = some (.int .u16 0) := r4.at_ 6
    have xr4_7 : w4.cell? ⟨w.heap.size, 7, none⟩ = some (.int .u16 0) := r4.at_ 7
    have xr4_8 : w4.cell? ⟨w.heap.size, 8, none⟩ = some (.int .u16 0) := r4.at_ 8
    have xr4_9 : w4.cell? ⟨w.heap.size, 9, none⟩ = some (.string { data := #[] }) := r4.at_ 9
    have yr4_0 : w4.frozen? ⟨w.heap.size, 0, none⟩ = false := r4.free 0
    have yr4_1 : w4.frozen? ⟨w.heap.size, 1, none⟩ = false := r4.free 1
    have yr4_2 : w4.frozen? ⟨w.heap.size, 2, none⟩ = false := r4.free 2
    have yr4_3 : w4.frozen? ⟨w.heap.size, 3, none⟩ = false := r4.free 3
    have yr4_4 : w4.frozen? ⟨w.heap.size, 4, none⟩ = false := r4.free 4
    have yr4_5 : w4.frozen? ⟨w.heap.size, 5, none⟩ = false := r4.free 5
    have yr4_6 : w4.frozen? ⟨w.heap.size, 6, none⟩ = false := r4.free 6
    have yr4_7 : w4.frozen? ⟨w.heap.size, 7, none⟩ = false := r4.free 7
    have yr4_8 : w4.frozen? ⟨w.heap.size, 8, none⟩ = false := r4.free 8
    have yr4_9 : w4.frozen? ⟨w.heap.size, 9, none⟩ = false := r4.free 9
    go_wp2_with fail
    have fS := hide (fun (X : World) (hX : Cells X (w.heap.size + 1) #[.int .u16 p0, .int .u16 p1, .int .u32 p2, .int .u32 p3, .int .u8 (x % 16), .int .u8 y, .int .u16 p4, .int .u16 p5, .int .u16 p6, .string (s.extract 20 (x / 16 * 4).toNat)] 269) => (show World.cell? X ⟨w.heap.size + 1, 0, none⟩ = some (.int .u16 p0) ∧ World.cell? X ⟨w.heap.size + 1, 1, none⟩ = some (.int .u16 p1) ∧ World.cell? X ⟨w.heap.size + 1, 2, none⟩ = some (.int .u32 p2) ∧ World.cell? X ⟨w.heap.size + 1, 3, none⟩ = some (.int .u32 p3) ∧ World.cell? X ⟨w.heap.size + 1, 4, none⟩ = some (.int .u8 (x % 16)) ∧ World.cell? X ⟨w.heap.size + 1, 5, none⟩ = some (.int .u8 y) ∧ World.cell? X ⟨w.heap.size + 1, 6, none⟩ = some (.int .u16 p4) ∧ World.cell? X ⟨w.heap.size + 1, 7, none⟩ = some (.int .u16 p5) ∧ World.cell? X ⟨w.heap.size + 1, 8, none⟩ = some (.int .u16 p6) ∧ World.cell? X ⟨w.heap.size + 1, 9, none⟩ = some (.string (s.extract 20 (x / 16 * 4).toNat)) from ⟨hX.at_ 0, hX.at_ 1, hX.at_ 2, hX.at_ 3, hX.at_ 4, hX.at_ 5, hX.at_ 6, hX.at_ 7, hX.at_ 8, hX.at_ 9⟩))
    have H4 := hide h4
    have oZ : (0 : Int) ≤ x / 16 * 4 := by omega
    go_region_held3 (fun zW => World.cell? zW ⟨w.heap.size + 1, 0, none⟩ = some (.int .u16 p0) ∧ World.cell? zW ⟨w.heap.size + 1, 1, none⟩ = some (.int .u16 p1) ∧ World.cell? zW ⟨w.heap.size + 1, 2, none⟩ = some (.int .u32 p2) ∧ World.cell? zW ⟨w.heap.size + 1, 3, none⟩ = some (.int .u32 p3) ∧ World.cell? zW ⟨w.heap.size + 1, 4, none⟩ = some (.int .u8 (x % 16)) ∧ World.cell? zW ⟨w.heap.size + 1, 5, none⟩ = some (.int .u8 y) ∧ World.cell? zW ⟨w.heap.size + 1, 6, none⟩ = some (.int .u16 p4) ∧ World.cell? zW ⟨w.heap.size + 1, 7, none⟩ = some (.int .u16 p5) ∧ World.cell? zW ⟨w.heap.size + 1, 8, none⟩ = some (.int .u16 p6) ∧ World.cell? zW ⟨w.heap.size + 1, 9, none⟩ = some (.string (s.extract 20 (x / 16 * 4).toNat))) (((try dsimp only); with_reducible refine fS.out _ ?_; (repeat' (first | with_reducible exact H4.out | with_reducible refine Cells.drew ?_ | with_reducible refine Cells.other ?_ (Nat.succ_ne_self _) _ _))))
      (fail)
    go_wp2
    have r5 := (Cells.put10 r4 (.int .u16 p0) (.int .u16 p1) (.int .u32 p2) (.int .u32 p3) (.int .u8 (x % 16)) (.int .u8 y) (.int .u16 p4) (.int .u16 p5) (.int .u16 p6) (.string (s.extract 20 (x / 16 * 4).toNat))).drew
    have b5 := (Below.put10 b4 (Nat.le_refl w.heap.size) (.int .u16 p0) (.int .u16 p1) (.int .u32 p2) (.int .u32 p3) (.int .u8 (x % 16)) (.int .u8 y) (.int .u16 p4) (.int .u16 p5) (.int .u16 p6) (.string (s.extract 20 (x / 16 * 4).toNat))).drew
    have HE1 := hide r5; have HB5 := hide b5
    generalize ((((((((((w4.setCell ⟨w.heap.size, 0, none⟩ (.int .u16 p0)).setCell ⟨w.heap.size, 1, none⟩ (.int .u16 p1)).setCell ⟨w.heap.size, 2, none⟩ (.int .u32 p2)).setCell ⟨w.heap.size, 3, none⟩ (.int .u32 p3)).setCell ⟨w.heap.size, 4, none⟩ (.int .u8 (x % 16))).setCell ⟨w.heap.size, 5, none⟩ (.int .u8 y)).setCell ⟨w.heap.size, 6, none⟩ (.int .u16 p4)).setCell ⟨w.heap.size, 7, none⟩ (.int .u16 p5)).setCell ⟨w.heap.size, 8, none⟩ (.int .u16 p6)).setCell ⟨w.heap.size, 9, none⟩ (.string (s.extract 20 (x / 16 * 4).toNat))).drew = W5 at *
    have r6 := HE1.out
    clear r5 b5 r4 h4 H4 HE1 hx fS
    have xr6_0 : W5.cell? ⟨w.heap.size, 0, none⟩ = some (.int .u16 p0) := r6.at_ 0
    have xr6_1 : W5.cell? ⟨w.heap.size, 1, none⟩ = some (.int .u16 p1) := r6.at_ 1
    have xr6_2 : W5.cell? ⟨w.heap.size, 2, none⟩ = some (.int .u32 p2) := r6.at_ 2
    have xr6_3 : W5.cell? ⟨w.heap.size, 3, none⟩ = some (.int .u32 p3) := r6.at_ 3
    have xr6_4 : W5.cell? ⟨w.heap.size, 4, none⟩ = some (.int .u8 (x % 16)) := r6.at_ 4
    have xr6_5 : W5.cell? ⟨w.heap.size, 5, none⟩ = some (.int .u8 y) := r6.at_ 5
    have xr6_6 : W5.cell? ⟨w.heap.size, 6, none⟩ = some (.int .u16 p4) := r6.at_ 6
    have xr6_7 : W5.cell? ⟨w.heap.size, 7, none⟩ = some (.int .u16 p5) := r6.at_ 7
    have xr6_8 : W5.cell? ⟨w.heap.size, 8, none⟩ = some (.int .u16 p6) := r6.at_ 8
    have xr6_9 : W5.cell? ⟨w.heap.size, 9, none⟩ = some (.string (s.extract 20 (x / 16 * 4).toNat)) := r6.at_ 9
    (try simp only [Exit.inBlock, Exit.then]); refine bodyPost_ret (by simp [results, Tryz.results194, go_sem, *]; try rfl) rfl ?_
    exact ⟨by rw [HE.out], HB5.out⟩
end Go.Proofs.YtedfdphapcanoaaGreatDoor
end
