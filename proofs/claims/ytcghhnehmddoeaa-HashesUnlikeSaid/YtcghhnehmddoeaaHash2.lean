/- The number of a tuple, and its chain, over this program. -/
import Derived.Test.YtcghhnehmddoeaaHash
set_option linter.unusedVariables false
namespace Go.Proofs.Ytcghhnehmddoeaa
open Go.RowKit Go.Shelf
attribute [local go_sem] Oper.semAt_some

def xor_ (a b : Int) : Int := ((a.toNat ^^^ b.toNat : Nat) : Int)
theorem xor_bd {a b : Int} (h1 : 0 ≤ a ∧ a < 4294967296) (h2 : 0 ≤ b ∧ b < 4294967296) : 0 ≤ xor_ a b ∧ xor_ a b < 4294967296 := by
  have : a.toNat ^^^ b.toNat < 2 ^ 32 := Nat.xor_lt_two_pow (by omega) (by omega)
  unfold xor_; omega
def add32 (a b : Int) : Int := (a + b) % 4294967296
theorem add32_bd (a b : Int) : 0 ≤ add32 a b ∧ add32 a b < 4294967296 := by unfold add32; omega
/-- n + n << m -/
def mulUp (n m : Int) : Int := add32 n (n * m)
/-- n ^ n >> .. -/
def xorDn (n m : Int) : Int := xor_ n (n / m)
theorem mulUp_bd (n m : Int) : 0 ≤ mulUp n m ∧ mulUp n m < 4294967296 := add32_bd _ _
theorem xorDn_bd {n m : Int} (h : 0 ≤ n ∧ n < 4294967296) (hm : 0 < m) : 0 ≤ xorDn n m ∧ xorDn n m < 4294967296 := by
  refine xor_bd h ⟨Int.ediv_nonneg h.1 (by omega), Int.lt_of_le_of_lt (Int.ediv_le_self _ h.1) h.2⟩
def mix (n c : Int) : Int := xorDn (mulUp (add32 n c) 1024) 64
theorem mix_bd (n c : Int) : 0 ≤ mix n c ∧ mix n c < 4294967296 := xorDn_bd (mulUp_bd _ _) (by omega)
def fin_ (n : Int) : Int := mulUp (xorDn (mulUp n 8) 2048) 32768
def Tup.num (t : Tup) : Int := fin_ (t.all.foldl mix 0)
theorem foldl_mix_bd (l : List Int) : ∀ n, 0 ≤ n ∧ n < 4294967296 → 0 ≤ l.foldl mix n ∧ l.foldl mix n < 4294967296 := by
  induction l with
  | nil => exact fun n h => h
  | cons x l ih => exact fun n h => ih _ (mix_bd _ _)
theorem Tup.num_bd (t : Tup) : 0 ≤ t.num ∧ t.num < 4294967296 := mulUp_bd _ _

theorem wrap_add32 (a b : Int) : IntKind.u32.wrap (a + b) = add32 a b := by rw [IntKind.wrap_u32']; rfl
theorem wrap_mul (a m : Int) : IntKind.u32.wrap (a + IntKind.u32.wrap (a * m)) = mulUp a m := by
  rw [IntKind.wrap_u32', IntKind.wrap_u32']; unfold mulUp add32; omega
theorem xor_dn {n m : Int} (h : 0 ≤ n ∧ n < 4294967296) (hm : 0 < m) : bits .xor .u32 n (n / m) = xorDn n m := by
  rw [u32_xor _ _ h.1 h.2 (Int.ediv_nonneg h.1 (by omega)) (Int.lt_of_le_of_lt (Int.ediv_le_self _ h.1) h.2)]; rfl

set_option maxHeartbeats 2000000 in
theorem number (t : Tup) (ht : t.Ok) (w : World) : Calls Try.prog 53 #[.agg t.cells] w (Ret (.int .u32 t.num) w) := by
  have HT := hide ht
  clear ht
  obtain ⟨cs, hcs⟩ : ∃ cs, cs = t.cells := ⟨_, rfl⟩
  refine (callsIn_wide (n := 3)).1 ?_
  refine callsIn_of_wp_marks Try.func53 rfl trivial ?_ rfl
  simp only [Try.ntmps53, List.size_toArray, List.length_cons, List.length_nil, Nat.reduceAdd, Nat.reduceSub, Array.replicate_succ, Array.replicate_zero, List.push_toArray, List.append_toArray, List.nil_append, List.cons_append]
  unfold Tup.cells
  have cb := bytes_any t
  unfold Tup.cells at cb
  have CB := hide cb
  clear cb
  gi_wp2_with (refine ⟨trivial, ?_⟩; gi_at_call 57; refine (callsIn_wide.2 (CB.out _)).mono ?_; rintro e w1 ⟨rfl, rfl⟩)
  have hN : Boxed (((w.alloc (.cells t.cells 56)).alloc (.cells #[.int .u32 0] 37)).alloc (.cells t.cells 56)) (w.heap.size + 1) 37 (.int .u32 0) := by
    have := Boxed.new (w.alloc (.cells t.cells 56)) 37 (.int .u32 0)
    rw [World.size_alloc] at this
    exact this.alloc _
  have hB0 : (((w.alloc (.cells t.cells 56)).alloc (.cells #[.int .u32 0] 37)).alloc (.cells t.cells 56)).heap[w.heap.size + 1 + 1]? = some (.cells t.cells 56 (0, 0)) := by
    have := heap_alloc_new ((w.alloc (.cells t.cells 56)).alloc (.cells #[.int .u32 0] 37)) (.cells t.cells 56)
    rw [World.size_alloc, World.size_alloc] at this
    exact this
  have hz0 : (((w.alloc (.cells t.cells 56)).alloc (.cells #[.int .u32 0] 37)).alloc (.cells t.cells 56)).heap.size = w.heap.size + 1 + 1 + 1 := by simp
  have hb0 : Below w.heap.size w (((w.alloc (.cells t.cells 56)).alloc (.cells #[.int .u32 0] 37)).alloc (.cells t.cells 56)) :=
    (((Below.refl _ _).alloc (Nat.le_refl _) _).alloc (by simp) _).alloc (by simp; omega) _
  change Code.wpIn _ _ _ _ _ _ (((w.alloc (.cells t.cells 56)).alloc (.cells #[.int .u32 0] 37)).alloc (.cells t.cells 56))
  generalize (((w.alloc (.cells t.cells 56)).alloc (.cells #[.int .u32 0] 37)).alloc (.cells t.cells 56)) = W0 at *
  generalize hC : w.heap.size = C at *
  obtain ⟨tv, htv⟩ : ∃ tv, tv = Value.agg #[.int .u8 t.p, .int .u32 t.si, .int .u16 t.sp, .int .u32 t.di, .int .u16 t.dp] := ⟨_, rfl⟩
  rw [← htv]
  clear htv CB hcs
  refine wpIn_rangeFunc_all (F := Fence.wide) (n := 3) (xs := t.all) (B := C + 1 + 1) (w0 := W0) (encs := fun x : Int => #[.int .u8 x]) rfl (by omega) (gf := 60) (lb := #[.pointer (some ⟨C + 1 + 1, 0, none⟩)]) rfl trivial (enters_of Try.func60 (by kernel_rfl) rfl)
    (bytes1_stops t HT.out W0 _ hB0) (by omega) (Below.refl _ _) (fun _ => rfl)
    (fun pre W => Boxed W (C + 1) 37 (.int .u32 (pre.foldl mix 0)) ∧ Only (fun j => j = C + 1 ∨ j = C + 1 + 1) W0 W) ?hI ?hIB ⟨hN, Only.refl _ _⟩
    (fun x => { tmps := #[tv, .pointer (some ⟨C, 0, none⟩), .int .u32 0, .pointer (some ⟨C + 1, 0, none⟩), .int .u8 x, tv, .func (.func 60) #[] #[.pointer (some ⟨C + 1 + 1, 0, none⟩)], .int .u8 x, undef, undef, undef, undef, undef, undef, undef, undef, undef, undef, undef, undef, undef, undef, undef, undef, undef, undef, undef, undef, undef, undef, undef, undef], defers := [] }) ?assign ?body ?done
  case hI =>
    rintro pre A' C' row ⟨h1, h3⟩ hg hrow
    exact ⟨h1.kept hg (fun e => by have := (hrow _ e.symm).1; omega), h3.grown hg (fun r e => .inr (hrow r e).1)⟩
  case hIB =>
    rintro pre A' v ⟨h1, h3⟩
    exact ⟨(setCell_other A' v (by omega)).trans h1, h3.set_ v (.inl (.inr rfl))⟩
  case assign =>
    intro l x W K hK
    gi_wp2
    exact hK
  case body =>
    rintro l pre x rest W hx ⟨h1, h3⟩
    have hxb := Tup.all_bd HT.out x (by rw [hx]; simp)
    have hfb := foldl_mix_bd pre 0 (by omega)
    obtain ⟨f, hf⟩ : ∃ f, f = pre.foldl mix 0 := ⟨_, rfl⟩
    rw [← hf] at h1 hfb
    have hend : (pre ++ [x]).foldl mix 0 = mix f x := by rw [List.foldl_append, ← hf]; rfl
    have HE := hide hend
    clear hend hf hx
    obtain ⟨x0, x1⟩ := hxb
    obtain ⟨f0, f1⟩ := hfb
    have w1 := wrap_add32 f x
    obtain ⟨a0, a1⟩ := add32_bd f x
    have hm := mulUp_bd (add32 f x) 1024
    have w3 := xor_dn hm (show (0 : Int) < 64 by omega)
    have hv : bits .xor .u32 ((add32 f x + add32 f x * 1024) % 4294967296) ((add32 f x + add32 f x * 1024) % 4294967296 / 64) = mix f x := w3
    have HV := hide hv
    clear w3 hv hm
    have hc1 := h1.cell
    have hf1 := h1.frozen
    gi_wp2
    rw [HV.out]
    refine ⟨((KeepsOthers.setCell _ _ _).trans (KeepsOthers.setCell _ _ _)).trans (KeepsOthers.setCell _ _ _), ?_, by rw [HE.out]; exact ((h1.set _).set _).set _, ((h3.set_ _ (.inl (.inl rfl))).set_ _ (.inl (.inl rfl))).set_ _ (.inl (.inl rfl))⟩
    exact ((setCell_other _ _ (by omega)).trans (setCell_other _ _ (by omega))).trans (setCell_other _ _ (by omega))
  case done =>
    rintro D W hD ⟨h1, h3⟩ hDW
    have hfb := foldl_mix_bd t.all 0 (by omega)
    obtain ⟨f, hf⟩ : ∃ f, f = t.all.foldl mix 0 := ⟨_, rfl⟩
    rw [← hf] at h1 hfb
    have hend : t.num = fin_ f := by unfold Tup.num; rw [hf]
    have HE := hide hend
    clear hend hf
    obtain ⟨f0, f1⟩ := hfb
    have hm := mulUp_bd f 8
    have w3 := xor_dn hm (show (0 : Int) < 2048 by omega)
    have hv : bits .xor .u32 ((f + f * 8) % 4294967296) ((f + f * 8) % 4294967296 / 2048) = xorDn (mulUp f 8) 2048 := w3
    have hq : ∀ q : Int, (q + q * 32768 % 4294967296) % 4294967296 = mulUp q 32768 := fun q => by unfold mulUp add32; omega
    have hfin : ((bits .xor .u32 ((f + f * 8) % 4294967296) ((f + f * 8) % 4294967296 / 2048)) + (bits .xor .u32 ((f + f * 8) % 4294967296) ((f + f * 8) % 4294967296 / 2048)) * 32768 % 4294967296) % 4294967296 = t.num := by rw [hv, hq, HE.out]; rfl
    have HF := hide hfin
    clear w3 hv hq hm hfin
    have hc1 := h1.cell
    have hf1 := h1.frozen
    have hb1 := hb0.trans (h3.below (B := C) (fun j hj => by omega) (by omega))
    have hbx : ∃ tt u, Boxed W (C + 1) tt u := ⟨_, _, h1⟩
    have hmk : Marked (C + 1 + 1) [{ target := .collected D, args := #[] }] W := ⟨⟨D, by omega, rfl, hDW, fun d' hd' => by cases hd'⟩, trivial⟩
    dsimp only
    gi_wp2
    rw [HF.out]
    refine leaves_marks ((hmk.setCell _ hbx).setCell _ ⟨_, _, h1.set _⟩) (fun W' hW' => ?_)
    refine ⟨_, results_tmp rfl _ _ _, rfl, ?_⟩
    have hb2 := ((hb1.setCell (p := ⟨C + 1, 0, none⟩) (Nat.le_succ _) _).setCell (p := ⟨C + 1, 0, none⟩) (Nat.le_succ _) _).trans (hW'.mono (by omega))
    rw [hC]; exact hb2

/-- its chain -/
def Tup.of (t : Tup) (n : Int) : Int := if n < 1 then 0 else t.num % n
theorem Of (t : Tup) (ht : t.Ok) (n : Int) (w : World) (hn : -9223372036854775808 ≤ n ∧ n ≤ 9223372036854775807) :
    Calls Try.prog 40 #[.agg t.cells, .int .i64 n] w (Ret (.int .i64 (t.of n)) w) := by
  obtain ⟨n0, n1⟩ := hn
  have cn := fun w => number t ht w
  have hb := t.num_bd
  unfold Tup.cells at cn ⊢
  obtain ⟨q, hq⟩ : ∃ q, q = t.num := ⟨_, rfl⟩
  unfold Tup.of
  rw [← hq] at cn hb ⊢
  obtain ⟨q0, q1⟩ := hb
  have CN := hide cn
  clear cn hq
  by_cases h : n < 1
  · have hv : (if n < 1 then (0 : Int) else q % n) = 0 := by rw [if_pos h]
    rw [hv]
    clear hv
    go_enter Try.func40, Try.ntmps40
    go_wp2_with fail
    go_ret
    exact ⟨rfl, fresh_below _ _⟩
  · have hv : (if n < 1 then (0 : Int) else q % n) = q % n := by rw [if_neg h]
    rw [hv]
    clear hv
    have h1 : 1 ≤ n := by omega
    have m0 : 0 ≤ q % n := Int.emod_nonneg _ (by omega)
    have m1 : q % n ≤ q := by
      have h1 := Int.emod_add_mul_ediv q n
      have h2 : 0 ≤ n * (q / n) := Int.mul_nonneg (by omega) (Int.ediv_nonneg q0 (by omega))
      omega
    go_enter Try.func40, Try.ntmps40
    go_wp2_with fail
    refine (CN.out _).mono ?_
    rintro e w1 ⟨rfl, b1⟩
    replace b1 := bstep (fresh_below _ _) b1
    go_wp2_with fail
    go_ret
    exact ⟨rfl, b1⟩

theorem alloc_block (w : World) (o o' : Obj) {k : Nat} (h : w.heap[k]? = some o') : (w.alloc o).heap[k]? = some o' := (Below.heap_alloc w o k (Array.getElem?_eq_some_iff.1 h).1).trans h

set_option maxHeartbeats 2000000 in
theorem Both (s t : Tup) (hs : s.Ok) (ht : t.Ok) (n : Int) (w : World) (hn : -9223372036854775808 ≤ n ∧ n ≤ 9223372036854775807) :
    Calls Try.prog 42 #[.agg s.cells, .agg t.cells, .int .i64 n] w (Ret (.tuple #[.int .i64 (s.of n), .int .i64 (t.of n)]) w) := by
  have c1 := fun w => Of s hs n w hn
  have c2 := fun w => Of t ht n w hn
  obtain ⟨a, ha⟩ : ∃ a, a = s.of n := ⟨_, rfl⟩
  obtain ⟨b, hb⟩ : ∃ b, b = t.of n := ⟨_, rfl⟩
  rw [← ha] at c1 ⊢
  rw [← hb] at c2 ⊢
  unfold Tup.cells at c1 c2 ⊢
  have C1 := hide c1; have C2 := hide c2
  clear c1 c2 ha hb
  go_enter Try.func42, Try.ntmps42
  go_wp2_with fail
  have d1 := alloc_block (w.alloc (.cells s.cells 56)) (.cells t.cells 56) (.cells s.cells 56) (heap_alloc_new w _)
  have d2 := heap_alloc_new (w.alloc (.cells s.cells 56)) (.cells t.cells 56)
  rw [World.size_alloc] at d2
  have b0 := bstep (fresh_below w (.cells s.cells 56)) (fresh_below _ (.cells t.cells 56))
  unfold Tup.cells at d1 d2 b0
  generalize (w.alloc (.cells #[.int .u8 s.p, .int .u32 s.si, .int .u16 s.sp, .int .u32 s.di, .int .u16 s.dp] 56)).alloc (.cells #[.int .u8 t.p, .int .u32 t.si, .int .u16 t.sp, .int .u32 t.di, .int .u16 t.dp] 56) = W0 at *
  have e0 := fun i => Lib.cell_of_heap d1 i
  have e1 := fun i => Lib.cell_of_heap d2 i
  have x0 : W0.cell? ⟨w.heap.size, 0, none⟩ = some (.int .u8 s.p) := e0 0
  have x1 : W0.cell? ⟨w.heap.size, 1, none⟩ = some (.int .u32 s.si) := e0 1
  have x2 : W0.cell? ⟨w.heap.size, 2, none⟩ = some (.int .u16 s.sp) := e0 2
  have x3 : W0.cell? ⟨w.heap.size, 3, none⟩ = some (.int .u32 s.di) := e0 3
  have x4 : W0.cell? ⟨w.heap.size, 4, none⟩ = some (.int .u16 s.dp) := e0 4
  have y0 : W0.cell? ⟨w.heap.size + 1, 0, none⟩ = some (.int .u8 t.p) := e1 0
  have y1 : W0.cell? ⟨w.heap.size + 1, 1, none⟩ = some (.int .u32 t.si) := e1 1
  have y2 : W0.cell? ⟨w.heap.size + 1, 2, none⟩ = some (.int .u16 t.sp) := e1 2
  have y3 : W0.cell? ⟨w.heap.size + 1, 3, none⟩ = some (.int .u32 t.di) := e1 3
  have y4 : W0.cell? ⟨w.heap.size + 1, 4, none⟩ = some (.int .u16 t.dp) := e1 4
  clear e0 e1 d1 d2
  go_region_held3 (fun w' => w'.cell? ⟨w.heap.size, 0, none⟩ = some (.int .u8 s.p) ∧ w'.cell? ⟨w.heap.size, 1, none⟩ = some (.int .u32 s.si) ∧ w'.cell? ⟨w.heap.size, 2, none⟩ = some (.int .u16 s.sp) ∧ w'.cell? ⟨w.heap.size, 3, none⟩ = some (.int .u32 s.di) ∧ w'.cell? ⟨w.heap.size, 4, none⟩ = some (.int .u16 s.dp) ∧ w'.cell? ⟨w.heap.size + 1, 0, none⟩ = some (.int .u8 t.p) ∧ w'.cell? ⟨w.heap.size + 1, 1, none⟩ = some (.int .u32 t.si) ∧ w'.cell? ⟨w.heap.size + 1, 2, none⟩ = some (.int .u16 t.sp) ∧ w'.cell? ⟨w.heap.size + 1, 3, none⟩ = some (.int .u32 t.di) ∧ w'.cell? ⟨w.heap.size + 1, 4, none⟩ = some (.int .u16 t.dp)) (simp [*])
    (first | (go_at_call 40; (with_reducible refine (C1.out _).mono ?_); clear C1; rintro e w1 ⟨rfl, b1⟩; have px0 := cellAt b1 x0; have px1 := cellAt b1 x1; have px2 := cellAt b1 x2; have px3 := cellAt b1 x3; have px4 := cellAt b1 x4; have py0 := cellAt b1 y0; have py1 := cellAt b1 y1; have py2 := cellAt b1 y2; have py3 := cellAt b1 y3; have py4 := cellAt b1 y4) | (go_at_call 40; (with_reducible refine (C2.out _).mono ?_); clear C2; rintro e w2 ⟨rfl, b2⟩; have qx0 := cellAt b2 px0; have qx1 := cellAt b2 px1; have qx2 := cellAt b2 px2; have qx3 := cellAt b2 px3; have qx4 := cellAt b2 px4; have qy0 := cellAt b2 py0; have qy1 := cellAt b2 py1; have qy2 := cellAt b2 py2; have qy3 := cellAt b2 py3; have qy4 := cellAt b2 py4))
  go_wp2
  go_ret2
  exact ⟨rfl, bstep (bstep b0.drew b1) b2⟩
end Go.Proofs.Ytcghhnehmddoeaa
