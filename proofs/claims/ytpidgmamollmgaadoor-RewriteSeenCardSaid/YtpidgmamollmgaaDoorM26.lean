/- Several texts of this claim, one behind the other. -/
import Derived.Shelf.Strings.OnBuilder
import Derived.Shelf.LaysM
import Derived.Shelf.Strconv.Itoa3
import Derived.Test.YtpidgmamollmgaaDoorProg
import Derived.Test.YtpidgmamollmgaaDoorM25
import Derived.Test.YtpidgmamollmgaaDoorM4
import Derived.Test.YtpidgmamollmgaaDoorM6
import Derived.Lib.AppendIntMem
import Derived.Deep.RegionHeldLaw
import Derived.Deep.RegionHeld3

section
/- Contracts of Go's library at this program's numbers: laid by a tool of the kit. -/
namespace Go.Proofs
open Go.Shelf
def Tryd.lays156_ren : Go.Shelf.Ren := ⟨fun | 156 => 21 | 165 => 46 | 166 => 47 | 169 => 48 | 240 => 72 | 241 => 73 | 276 => 83 | 277 => 84 | n => n, fun | 31 => 65 | 9 => 9 | 3 => 3 | 4 => 4 | 0 => 0 | 20 => 20 | 72 => 94 | 76 => 98 | 70 => 92 | 37 => 40 | 75 => 97 | 127 => 131 | 164 => 141 | 5 => 5 | 80 => 74 | n => n, fun | n => n⟩
theorem Tryd.lays156 : Go.Proofs.Lays.n156 Tryd.prog Tryd.lays156_ren := {
  mixed := by kernel_rfl
  f156 := Tryd.func21.trans (congrArg some (by kernel_rfl))
  f165 := Tryd.func46.trans (congrArg some (by kernel_rfl))
  f166 := Tryd.func47.trans (congrArg some (by kernel_rfl))
  f169 := Tryd.func48.trans (congrArg some (by kernel_rfl))
  f240 := Tryd.func72.trans (congrArg some (by kernel_rfl))
  f241 := Tryd.func73.trans (congrArg some (by kernel_rfl))
  f276 := Tryd.func83.trans (congrArg some (by kernel_rfl))
  f277 := Tryd.func84.trans (congrArg some (by kernel_rfl))
  t0 := Tryd.underlying0
  a0 := Tryd.isAgg0
  z0 := Tryd.sizeOf0
  v0 := Tryd.zeroValue0
  t3 := Tryd.underlying3
  a3 := Tryd.isAgg3
  z3 := Tryd.sizeOf3
  v3 := Tryd.zeroValue3
  t4 := Tryd.underlying4
  a4 := Tryd.isAgg4
  z4 := Tryd.sizeOf4
  v4 := Tryd.zeroValue4
  t9 := Tryd.underlying9
  a9 := Tryd.isAgg9
  z9 := Tryd.sizeOf9
  v9 := Tryd.zeroValue9
  t20 := Tryd.underlying20
  a20 := Tryd.isAgg20
  z20 := Tryd.sizeOf20
  v20 := Tryd.zeroValue20
  t31 := Tryd.underlying65
  a31 := Tryd.isAgg65
  z31 := Tryd.sizeOf65
  v31 := Tryd.zeroValue65
  t37 := Tryd.underlying40
  a37 := Tryd.isAgg40
  z37 := Tryd.sizeOf40
  v37 := Tryd.zeroValue40
  t70 := Tryd.underlying92
  a70 := Tryd.isAgg92
  z70 := Tryd.sizeOf92
  v70 := Tryd.zeroValue92
  t72 := Tryd.underlying94
  a72 := Tryd.isAgg94
  z72 := Tryd.sizeOf94
  v72 := Tryd.zeroValue94
  t75 := Tryd.underlying97
  a75 := Tryd.isAgg97
  z75 := Tryd.sizeOf97
  v75 := Tryd.zeroValue97
  t76 := Tryd.underlying98
  a76 := Tryd.isAgg98
  z76 := Tryd.sizeOf98
  v76 := Tryd.zeroValue98
  t127 := Tryd.underlying131
  a127 := Tryd.isAgg131
  z127 := Tryd.sizeOf131
  v127 := Tryd.zeroValue131
  t164 := Tryd.underlying141
  a164 := Tryd.isAgg141
  z164 := Tryd.sizeOf141
  v164 := Tryd.zeroValue141 }
theorem Tryd.Builder_Extra_156 : Builder.Extra Tryd.prog Tryd.lays156_ren := {
  sizeBuilder := by kernel_rfl
  liesBuilder := by kernel_rfl
  t5 := Tryd.underlying5
  a5 := Tryd.isAgg5
  z5 := Tryd.sizeOf5
  v5 := Tryd.zeroValue5
  infoByte := by kernel_rfl
  cellsByte := by kernel_rfl
  sizeByte := by kernel_rfl
  neB5 := by decide }
open Go.RowKit in
/-- strings.Join: "Join concatenates the elements of its first argument to create a single string. The separator string sep is placed between elements in the resulting string.": HOWEVER MANY ELEMENTS. Below the heap's end the world is as it was. (LAID: no walk: one application.) -/
theorem Tryd.strings_Join (bk o c : Nat) (xs : List ByteArray) (sep : ByteArray) (w : World) (hcells : ∀ (j : Nat) x, xs[j]? = some x → w.cell? ⟨bk, o + j, none⟩ = some (.string x)) (hbk : bk < w.heap.size) (hN : xs.length ≤ 140737488355328) (hcap : xs.length ≤ c) (hlen : (Lib.join (xs.map (·.data.toList)) sep.data.toList).length ≤ 140737488355328) :
    Calls Tryd.prog 21 #[.slice (some ⟨bk, o, none⟩) xs.length c, .string sep] w fun e w' => e = .returned (.string ⟨(Lib.join (xs.map (·.data.toList)) sep.data.toList).toArray⟩) ∧ Below w.heap.size w w' := Any.strings_Join Tryd.lays156 Tryd.Builder_Extra_156 bk o c xs sep w hcells hbk hN hcap hlen
def Tryd.laysM171_ren : Go.Shelf.Ren := ⟨fun | 171 => 50 | 243 => 74 | 246 => 85 | 283 => 87 | 284 => 88 | 285 => 89 | 286 => 90 | 129 => 93 | 317 => 92 | 318 => 94 | 319 => 95 | 320 => 96 | 337 => 97 | 338 => 98 | n => n, fun | 3 => 3 | 9 => 9 | 2 => 2 | 4 => 4 | 171 => 147 | 0 => 0 | 53 => 148 | 37 => 40 | 5 => 5 | 173 => 151 | 212 => 155 | 51 => 22 | 20 => 20 | 213 => 156 | 46 => 66 | 232 => 160 | 233 => 161 | n => n, fun | 17 => 3 | 18 => 4 | 19 => 5 | n => n⟩
theorem Tryd.laysM171 : Go.Proofs.LaysM.n171 Tryd.prog Tryd.laysM171_ren := {
  mixed := by kernel_rfl
  f129 := Tryd.func93.trans (congrArg some (by kernel_rfl))
  f171 := Tryd.func50.trans (congrArg some (by kernel_rfl))
  f243 := Tryd.func74.trans (congrArg some (by kernel_rfl))
  f246 := Tryd.func85.trans (congrArg some (by kernel_rfl))
  f283 := Tryd.func87.trans (congrArg some (by kernel_rfl))
  f284 := Tryd.func88.trans (congrArg some (by kernel_rfl))
  f285 := Tryd.func89.trans (congrArg some (by kernel_rfl))
  f286 := Tryd.func90.trans (congrArg some (by kernel_rfl))
  f317 := Tryd.func92.trans (congrArg some (by kernel_rfl))
  f318 := Tryd.func94.trans (congrArg some (by kernel_rfl))
  f319 := Tryd.func95.trans (congrArg some (by kernel_rfl))
  f320 := Tryd.func96.trans (congrArg some (by kernel_rfl))
  f337 := Tryd.func97.trans (congrArg some (by kernel_rfl))
  f338 := Tryd.func98.trans (congrArg some (by kernel_rfl))
  t0 := Tryd.underlying0
  a0 := Tryd.isAgg0
  z0 := Tryd.sizeOf0
  v0 := Tryd.zeroValue0
  t2 := Tryd.underlying2
  a2 := Tryd.isAgg2
  z2 := Tryd.sizeOf2
  v2 := Tryd.zeroValue2
  t3 := Tryd.underlying3
  a3 := Tryd.isAgg3
  z3 := Tryd.sizeOf3
  v3 := Tryd.zeroValue3
  t4 := Tryd.underlying4
  a4 := Tryd.isAgg4
  z4 := Tryd.sizeOf4
  v4 := Tryd.zeroValue4
  t5 := Tryd.underlying5
  a5 := Tryd.isAgg5
  z5 := Tryd.sizeOf5
  v5 := Tryd.zeroValue5
  t9 := Tryd.underlying9
  a9 := Tryd.isAgg9
  z9 := Tryd.sizeOf9
  v9 := Tryd.zeroValue9
  t20 := Tryd.underlying20
  a20 := Tryd.isAgg20
  z20 := Tryd.sizeOf20
  v20 := Tryd.zeroValue20
  t37 := Tryd.underlying40
  a37 := Tryd.isAgg40
  z37 := Tryd.sizeOf40
  v37 := Tryd.zeroValue40
  t46 := Tryd.underlying66
  a46 := Tryd.isAgg66
  z46 := Tryd.sizeOf66
  v46 := Tryd.zeroValue66
  t51 := Tryd.underlying22
  a51 := Tryd.isAgg22
  z51 := Tryd.sizeOf22
  v51 := Tryd.zeroValue22
  t53 := Tryd.underlying148
  a53 := Tryd.isAgg148
  z53 := Tryd.sizeOf148
  v53 := Tryd.zeroValue148
  t171 := Tryd.underlying147
  a171 := Tryd.isAgg147
  z171 := Tryd.sizeOf147
  v171 := Tryd.zeroValue147
  t173 := Tryd.underlying151
  a173 := Tryd.isAgg151
  z173 := Tryd.sizeOf151
  v173 := Tryd.zeroValue151
  t212 := Tryd.underlying155
  a212 := Tryd.isAgg155
  z212 := Tryd.sizeOf155
  v212 := Tryd.zeroValue155
  t213 := Tryd.underlying156
  a213 := Tryd.isAgg156
  z213 := Tryd.sizeOf156
  t232 := Tryd.underlying160
  a232 := Tryd.isAgg160
  z232 := Tryd.sizeOf160
  v232 := Tryd.zeroValue160
  t233 := Tryd.underlying161
  a233 := Tryd.isAgg161
  z233 := Tryd.sizeOf161
  v233 := Tryd.zeroValue161
  g17 := by kernel_rfl
  g18 := by kernel_rfl
  g19 := by kernel_rfl
  i0 := by kernel_rfl
  i2 := by kernel_rfl
  i3 := by kernel_rfl
  i4 := by kernel_rfl
  i5 := by kernel_rfl
  i9 := by kernel_rfl
  i20 := by kernel_rfl
  i37 := by kernel_rfl
  i46 := by kernel_rfl
  i51 := by kernel_rfl
  i53 := by kernel_rfl
  i171 := by kernel_rfl
  i173 := by kernel_rfl
  i212 := by kernel_rfl
  i232 := by kernel_rfl
  i233 := by kernel_rfl
  m17 := by kernel_rfl
  m18 := by kernel_rfl
  m19 := by kernel_rfl }
open Go.RowKit Go.Sort Go.Lib in
/-- strconv.Itoa: "Itoa is equivalent to FormatInt(int64(i), 10).": i's DECIMAL NUMERAL ('Lib.itoa': a '-' where i is negative, then the digits), FOR EVERY int. The world behind the call: the world before it, new blocks behind the heap (the library's 'var a [24]byte'), draws. (LAID: no walk: one application.) -/
theorem Tryd.strconv_Itoa (n : Int) (h0 : -9223372036854775808 ≤ n) (h1 : n ≤ 9223372036854775807) (w : World) (htab : Lib.TabIs Tryd.prog w "internal/strconv.uint64pow10" .u64 Lib.pow10Tab) :
    Calls Tryd.prog 50 #[.int .i64 n] w fun e w' => e = .returned (.string ⟨(Lib.itoa n).toArray⟩) ∧ ∃ k os, w' = grow (w.drewN k) os := Any.strconv_Itoa Tryd.laysM171 n h0 h1 w htab
end Go.Proofs
end

section
/- Addresses, endpoints and a tuple as texts: at the chapter's example. -/
set_option linter.unusedVariables false
set_option linter.unusedSimpArgs false
namespace Go.Proofs.YtpidgmamollmgaaDoor
open Go.RowKit
attribute [local go_sem] Oper.semAt_some

theorem Itoa_ret (n : Int) (t : ByteArray) (w : World) (h0 : 0 ≤ n) (h1 : n ≤ 9223372036854775807) (hP : Pow w) (ht : (⟨(Lib.itoa n).toArray⟩ : ByteArray) = t) :
    Calls Tryd.prog 50 #[.int .i64 n] w (Ret (.string t) w) := by
  subst ht
  exact (Tryd.strconv_Itoa n (by omega) h1 w hP).mono fun e w' h => ⟨h.1, by obtain ⟨k, os, rfl⟩ := h.2; exact Lib.below_grow _ w (Nat.le_refl _) k os⟩
theorem owns_at {w : World} {base e : Nat} {v : Value} {n : Nat} {xs : List Value} (h : w.ownsRow base e 1 v n xs) (hn : 0 < n) : ∃ g c, v = .slice (some ⟨g, 0, none⟩) n c := by
  rcases h.2 with ⟨_, h0⟩ | ⟨g, cap, cur, hv, _⟩
  · omega
  · exact ⟨_, _, hv⟩

theorem grown_of {w w' : World} (h : Below w.heap.size w w') : w.grownBy w' none := ⟨h.os, h.tape, h.output, h.size, fun k hk _ => h.block k hk⟩
theorem owns_block {w : World} {base e : Nat} {v : Value} {n : Nat} {xs : List Value} (h : w.ownsRow base e 1 v n xs) : ∀ k, v.ownBlock = some k → base ≤ k := by
  intro k hk
  rcases h.2 with ⟨rfl, _⟩ | ⟨g, cap, cur, rfl, hb, _⟩
  · simp [Value.ownBlock] at hk
  · simp [Value.ownBlock] at hk; omega
theorem owns_cap {w : World} {base e g c : Nat} {n : Nat} {xs : List Value} (h : w.ownsRow base e 1 (.slice (some ⟨g, 0, none⟩) n c) n xs) : n ≤ c ∧ g < w.heap.size := by
  rcases h.2 with ⟨hv, _⟩ | ⟨g', cap, cur, hv, hb, hc, hn, _⟩
  · cases hv
  · injection hv with q1 q2 q3
    injection q1 with q1
    injection q1 with q1
    subst q1; subst q3
    exact ⟨hn, (Array.getElem?_eq_some_iff.1 hc).1⟩

/-- the texts of an address's bytes -/
def text_a_parts : List Value := [.string { data := #[53] }, .string { data := #[54] }, .string { data := #[55] }, .string { data := #[56] }]
set_option maxRecDepth 100000 in
set_option maxHeartbeats 4000000 in
theorem text_a (w : World) (hP : Pow w) : Calls Tryd.prog 49 #[.int .u32 84281096] w (Ret (.string { data := #[53, 46, 54, 46, 55, 46, 56] }) w) := by
  have hj : (⟨(Lib.join (([{ data := #[53] }, { data := #[54] }, { data := #[55] }, { data := #[56] }] : List ByteArray).map (·.data.toList)) ({ data := #[46] } : ByteArray).data.toList).toArray⟩ : ByteArray) = { data := #[53, 46, 54, 46, 55, 46, 56] } := by decide +kernel
  have y0 : wrap64 (bits .and .u32 5 255) = 5 := by decide +kernel
  have c0 := fun W (h : Pow W) => Itoa_ret 5 ({ data := #[53] }) W (by decide) (by decide) h (by decide +kernel)
  have y1 : wrap64 (bits .and .u32 1286 255) = 6 := by decide +kernel
  have c1 := fun W (h : Pow W) => Itoa_ret 6 ({ data := #[54] }) W (by decide) (by decide) h (by decide +kernel)
  have y2 : wrap64 (bits .and .u32 329223 255) = 7 := by decide +kernel
  have c2 := fun W (h : Pow W) => Itoa_ret 7 ({ data := #[55] }) W (by decide) (by decide) h (by decide +kernel)
  have y3 : wrap64 (bits .and .u32 84281096 255) = 8 := by decide +kernel
  have c3 := fun W (h : Pow W) => Itoa_ret 8 ({ data := #[56] }) W (by decide) (by decide) h (by decide +kernel)
  have c4 : ∀ (W : World) (g cap : Nat), (∀ (j : Nat) x, ([{ data := #[53] }, { data := #[54] }, { data := #[55] }, { data := #[56] }] : List ByteArray)[j]? = some x → W.cell? ⟨g, 0 + j, none⟩ = some (.string x)) → g < W.heap.size → 4 ≤ cap → Calls Tryd.prog 21 #[.slice (some ⟨g, 0, none⟩) 4 cap, .string { data := #[46] }] W (Ret (.string { data := #[53, 46, 54, 46, 55, 46, 56] }) W) := fun W g cap h1 h2 h3 => by
    have := Tryd.strings_Join g 0 cap ([{ data := #[53] }, { data := #[54] }, { data := #[55] }, { data := #[56] }]) ({ data := #[46] }) W h1 h2 (by decide) h3 (by decide +kernel)
    rw [hj] at this
    exact this
  have HP := hide hP; have C4 := hide c4
  have C0 := hide c0; have C1 := hide c1; have C2 := hide c2; have C3 := hide c3
  clear hP hj c0 c1 c2 c3 c4
  have infoStr : (Tryd.prog.info? 9).map (fun i => (i.zero, i.size, i.bytes)) = some (some (.string { data := #[] }), 1, 16) := by kernel_rfl
  obtain ⟨i0, hi, hz0, hz1, hz2⟩ := info_parts infoStr
  go_enter Tryd.func49, Tryd.ntmps49
  go_wp2
  go_loopw [3, 4] (fun v i wr => ∃ k : Nat, k ≤ 4 ∧ i = .int .i64 (24 - 8 * (k : Int)) ∧ wr.ownsRow w.heap.size 9 1 v k (text_a_parts.take k) ∧ Below w.heap.size w wr) (fun _ i _ => (intOf i + 8).toNat)
  case atStart => exact ⟨0, by omega, rfl, ⟨rfl, .inl ⟨rfl, rfl⟩⟩, Below.refl _ _⟩
  case round =>
    obtain ⟨k, hk, rfl, hown, hbel⟩ := hrel
    have hcase : k = 0 ∨ k = 1 ∨ k = 2 ∨ k = 3 ∨ k = 4 := by omega
    rcases hcase with rfl | rfl | rfl | rfl | rfl
    · have HO := hide hown
      clear hown
      go_wp2_with fail
      (with_reducible refine (C0.out _ (HP.out.below hbel)).mono ?_)
      rintro e w1 ⟨rfl, b1⟩
      have hown1 := HO.out.kept (grown_of b1) (Classical.em _)
      have hb1 : Below w.heap.size w w1 := bstep hbel b1
      clear b1 HO
      have hown2 := hown1.alloc (.cells #[.string ({ data := #[53] })] 9)
      have hbase : w.heap.size ≤ w1.heap.size := hb1.size
      go_wp2_with (at_builtin; refine wpList_append_own _ rfl _ _ 65 rfl w.heap.size 9 i0 (.string { data := #[] }) 1 16 Tryd.underlying65 hi hz0 hz1 hz2 rfl (by decide) _ 0 (text_a_parts.take 0) rfl hown2 ⟨w1.heap.size, 0, none⟩ 1 1 [.string ({ data := #[53] })] rfl rfl ?q1 ?q2 ?q3 ?q4 ?q5 ?_)
      case q1 =>
        intro j u hj
        match j, hj with
        | 0, hj => simp at hj; subst hj; simp [Addr.add]
      case q2 => intro u hu; simp at hu; subst hu; rfl
      case q3 => unfold maxLen; omega
      case q4 => omega
      case q5 => simp; omega
      intro v' w2 hown hgrow _
      have hb2 : Below w.heap.size w w2 := (bstep hb1 (fresh_below w1 (.cells #[.string ({ data := #[53] })] 9))).grown hgrow (by simp; omega) (owns_block hown2)
      go_wp2_with fail
      go_roundw
      case rel => exact ⟨1, by omega, by go_num, hown, hb2⟩
      case measure => simp [intOf]
    · have HO := hide hown
      clear hown
      go_wp2_with fail
      (with_reducible refine (C1.out _ (HP.out.below hbel)).mono ?_)
      rintro e w1 ⟨rfl, b1⟩
      have hown1 := HO.out.kept (grown_of b1) (Classical.em _)
      have hb1 : Below w.heap.size w w1 := bstep hbel b1
      clear b1 HO
      have hown2 := hown1.alloc (.cells #[.string ({ data := #[54] })] 9)
      have hbase : w.heap.size ≤ w1.heap.size := hb1.size
      go_wp2_with (at_builtin; refine wpList_append_own _ rfl _ _ 65 rfl w.heap.size 9 i0 (.string { data := #[] }) 1 16 Tryd.underlying65 hi hz0 hz1 hz2 rfl (by decide) _ 1 (text_a_parts.take 1) rfl hown2 ⟨w1.heap.size, 0, none⟩ 1 1 [.string ({ data := #[54] })] rfl rfl ?q1 ?q2 ?q3 ?q4 ?q5 ?_)
      case q1 =>
        intro j u hj
        match j, hj with
        | 0, hj => simp at hj; subst hj; simp [Addr.add]
      case q2 => intro u hu; simp at hu; subst hu; rfl
      case q3 => unfold maxLen; omega
      case q4 => omega
      case q5 => simp; omega
      intro v' w2 hown hgrow _
      have hb2 : Below w.heap.size w w2 := (bstep hb1 (fresh_below w1 (.cells #[.string ({ data := #[54] })] 9))).grown hgrow (by simp; omega) (owns_block hown2)
      go_wp2_with fail
      go_roundw
      case rel => exact ⟨2, by omega, by go_num, hown, hb2⟩
      case measure => simp [intOf]
    · have HO := hide hown
      clear hown
      go_wp2_with fail
      (with_reducible refine (C2.out _ (HP.out.below hbel)).mono ?_)
      rintro e w1 ⟨rfl, b1⟩
      have hown1 := HO.out.kept (grown_of b1) (Classical.em _)
      have hb1 : Below w.heap.size w w1 := bstep hbel b1
      clear b1 HO
      have hown2 := hown1.alloc (.cells #[.string ({ data := #[55] })] 9)
      have hbase : w.heap.size ≤ w1.heap.size := hb1.size
      go_wp2_with (at_builtin; refine wpList_append_own _ rfl _ _ 65 rfl w.heap.size 9 i0 (.string { data := #[] }) 1 16 Tryd.underlying65 hi hz0 hz1 hz2 rfl (by decide) _ 2 (text_a_parts.take 2) rfl hown2 ⟨w1.heap.size, 0, none⟩ 1 1 [.string ({ data := #[55] })] rfl rfl ?q1 ?q2 ?q3 ?q4 ?q5 ?_)
      case q1 =>
        intro j u hj
        match j, hj with
        | 0, hj => simp at hj; subst hj; simp [Addr.add]
      case q2 => intro u hu; simp at hu; subst hu; rfl
      case q3 => unfold maxLen; omega
      case q4 => omega
      case q5 => simp; omega
      intro v' w2 hown hgrow _
      have hb2 : Below w.heap.size w w2 := (bstep hb1 (fresh_below w1 (.cells #[.string ({ data := #[55] })] 9))).grown hgrow (by simp; omega) (owns_block hown2)
      go_wp2_with fail
      go_roundw
      case rel => exact ⟨3, by omega, by go_num, hown, hb2⟩
      case measure => simp [intOf]
    · have HO := hide hown
      clear hown
      go_wp2_with fail
      (with_reducible refine (C3.out _ (HP.out.below hbel)).mono ?_)
      rintro e w1 ⟨rfl, b1⟩
      have hown1 := HO.out.kept (grown_of b1) (Classical.em _)
      have hb1 : Below w.heap.size w w1 := bstep hbel b1
      clear b1 HO
      have hown2 := hown1.alloc (.cells #[.string ({ data := #[56] })] 9)
      have hbase : w.heap.size ≤ w1.heap.size := hb1.size
      go_wp2_with (at_builtin; refine wpList_append_own _ rfl _ _ 65 rfl w.heap.size 9 i0 (.string { data := #[] }) 1 16 Tryd.underlying65 hi hz0 hz1 hz2 rfl (by decide) _ 3 (text_a_parts.take 3) rfl hown2 ⟨w1.heap.size, 0, none⟩ 1 1 [.string ({ data := #[56] })] rfl rfl ?q1 ?q2 ?q3 ?q4 ?q5 ?_)
      case q1 =>
        intro j u hj
        match j, hj with
        | 0, hj => simp at hj; subst hj; simp [Addr.add]
      case q2 => intro u hu; simp at hu; subst hu; rfl
      case q3 => unfold maxLen; omega
      case q4 => omega
      case q5 => simp; omega
      intro v' w2 hown hgrow _
      have hb2 : Below w.heap.size w w2 := (bstep hb1 (fresh_below w1 (.cells #[.string ({ data := #[56] })] 9))).grown hgrow (by simp; omega) (owns_block hown2)
      go_wp2_with fail
      go_roundw
      case rel => exact ⟨4, by omega, by go_num, hown, hb2⟩
      case measure => simp [intOf]
    · obtain ⟨g, cap, rfl⟩ := owns_at hown (by omega)
      obtain ⟨hcap, hg⟩ := owns_cap hown
      have hrow := row_of_owns hown
      have hcs : ∀ (j : Nat) x, ([{ data := #[53] }, { data := #[54] }, { data := #[55] }, { data := #[56] }] : List ByteArray)[j]? = some x → wr.cell? ⟨g, 0 + j, none⟩ = some (.string x) := by
        intro j x hx
        obtain ⟨b', o', he, hb, hc⟩ := hrow.2 (by omega)
        injection he with he
        injection he with e1 e2 e3
        subst e1; subst e2
        refine hc j _ ?_
        have := congrArg (Option.map Value.string) hx
        rw [← List.getElem?_map] at this
        exact this
      have c5 := C4.out wr g cap hcs hg hcap
      have C5 := hide c5
      clear hcs hrow hown c5 hcap hg
      go_wp2_with fail
      (with_reducible refine (C5.out).mono ?_)
      rintro e w1 ⟨rfl, b1⟩
      replace b1 : Below w.heap.size w w1 := bstep hbel b1
      go_wp2_with fail
      go_ret
      exact ⟨rfl, b1⟩

/-- the texts of an address's bytes -/
def text_b_parts : List Value := [.string { data := #[49] }, .string { data := #[50] }, .string { data := #[51] }, .string { data := #[52] }]
set_option maxRecDepth 100000 in
set_option maxHeartbeats 4000000 in
theorem text_b (w : World) (hP : Pow w) : Calls Tryd.prog 49 #[.int .u32 16909060] w (Ret (.string { data := #[49, 46, 50, 46, 51, 46, 52] }) w) := by
  have hj : (⟨(Lib.join (([{ data := #[49] }, { data := #[50] }, { data := #[51] }, { data := #[52] }] : List ByteArray).map (·.data.toList)) ({ data := #[46] } : ByteArray).data.toList).toArray⟩ : ByteArray) = { data := #[49, 46, 50, 46, 51, 46, 52] } := by decide +kernel
  have y0 : wrap64 (bits .and .u32 1 255) = 1 := by decide +kernel
  have c0 := fun W (h : Pow W) => Itoa_ret 1 ({ data := #[49] }) W (by decide) (by decide) h (by decide +kernel)
  have y1 : wrap64 (bits .and .u32 258 255) = 2 := by decide +kernel
  have c1 := fun W (h : Pow W) => Itoa_ret 2 ({ data := #[50] }) W (by decide) (by decide) h (by decide +kernel)
  have y2 : wrap64 (bits .and .u32 66051 255) = 3 := by decide +kernel
  have c2 := fun W (h : Pow W) => Itoa_ret 3 ({ data := #[51] }) W (by decide) (by decide) h (by decide +kernel)
  have y3 : wrap64 (bits .and .u32 16909060 255) = 4 := by decide +kernel
  have c3 := fun W (h : Pow W) => Itoa_ret 4 ({ data := #[52] }) W (by decide) (by decide) h (by decide +kernel)
  have c4 : ∀ (W : World) (g cap : Nat), (∀ (j : Nat) x, ([{ data := #[49] }, { data := #[50] }, { data := #[51] }, { data := #[52] }] : List ByteArray)[j]? = some x → W.cell? ⟨g, 0 + j, none⟩ = some (.string x)) → g < W.heap.size → 4 ≤ cap → Calls Tryd.prog 21 #[.slice (some ⟨g, 0, none⟩) 4 cap, .string { data := #[46] }] W (Ret (.string { data := #[49, 46, 50, 46, 51, 46, 52] }) W) := fun W g cap h1 h2 h3 => by
    have := Tryd.strings_Join g 0 cap ([{ data := #[49] }, { data := #[50] }, { data := #[51] }, { data := #[52] }]) ({ data := #[46] }) W h1 h2 (by decide) h3 (by decide +kernel)
    rw [hj] at this
    exact this
  have HP := hide hP; have C4 := hide c4
  have C0 := hide c0; have C1 := hide c1; have C2 := hide c2; have C3 := hide c3
  clear hP hj c0 c1 c2 c3 c4
  have infoStr : (Tryd.prog.info? 9).map (fun i => (i.zero, i.size, i.bytes)) = some (some (.string { data := #[] }), 1, 16) := by kernel_rfl
  obtain ⟨i0, hi, hz0, hz1, hz2⟩ := info_parts infoStr
  go_enter Tryd.func49, Tryd.ntmps49
  go_wp2
  go_loopw [3, 4] (fun v i wr => ∃ k : Nat, k ≤ 4 ∧ i = .int .i64 (24 - 8 * (k : Int)) ∧ wr.ownsRow w.heap.size 9 1 v k (text_b_parts.take k) ∧ Below w.heap.size w wr) (fun _ i _ => (intOf i + 8).toNat)
  case atStart => exact ⟨0, by omega, rfl, ⟨rfl, .inl ⟨rfl, rfl⟩⟩, Below.refl _ _⟩
  case round =>
    obtain ⟨k, hk, rfl, hown, hbel⟩ := hrel
    have hcase : k = 0 ∨ k = 1 ∨ k = 2 ∨ k = 3 ∨ k = 4 := by omega
    rcases hcase with rfl | rfl | rfl | rfl | rfl
    · have HO := hide hown
      clear hown
      go_wp2_with fail
      (with_reducible refine (C0.out _ (HP.out.below hbel)).mono ?_)
      rintro e w1 ⟨rfl, b1⟩
      have hown1 := HO.out.kept (grown_of b1) (Classical.em _)
      have hb1 : Below w.heap.size w w1 := bstep hbel b1
      clear b1 HO
      have hown2 := hown1.alloc (.cells #[.string ({ data := #[49] })] 9)
      have hbase : w.heap.size ≤ w1.heap.size := hb1.size
      go_wp2_with (at_builtin; refine wpList_append_own _ rfl _ _ 65 rfl w.heap.size 9 i0 (.string { data := #[] }) 1 16 Tryd.underlying65 hi hz0 hz1 hz2 rfl (by decide) _ 0 (text_b_parts.take 0) rfl hown2 ⟨w1.heap.size, 0, none⟩ 1 1 [.string ({ data := #[49] })] rfl rfl ?q1 ?q2 ?q3 ?q4 ?q5 ?_)
      case q1 =>
        intro j u hj
        match j, hj with
        | 0, hj => simp at hj; subst hj; simp [Addr.add]
      case q2 => intro u hu; simp at hu; subst hu; rfl
      case q3 => unfold maxLen; omega
      case q4 => omega
      case q5 => simp; omega
      intro v' w2 hown hgrow _
      have hb2 : Below w.heap.size w w2 := (bstep hb1 (fresh_below w1 (.cells #[.string ({ data := #[49] })] 9))).grown hgrow (by simp; omega) (owns_block hown2)
      go_wp2_with fail
      go_roundw
      case rel => exact ⟨1, by omega, by go_num, hown, hb2⟩
      case measure => simp [intOf]
    · have HO := hide hown
      clear hown
      go_wp2_with fail
      (with_reducible refine (C1.out _ (HP.out.below hbel)).mono ?_)
      rintro e w1 ⟨rfl, b1⟩
      have hown1 := HO.out.kept (grown_of b1) (Classical.em _)
      have hb1 : Below w.heap.size w w1 := bstep hbel b1
      clear b1 HO
      have hown2 := hown1.alloc (.cells #[.string ({ data := #[50] })] 9)
      have hbase : w.heap.size ≤ w1.heap.size := hb1.size
      go_wp2_with (at_builtin; refine wpList_append_own _ rfl _ _ 65 rfl w.heap.size 9 i0 (.string { data := #[] }) 1 16 Tryd.underlying65 hi hz0 hz1 hz2 rfl (by decide) _ 1 (text_b_parts.take 1) rfl hown2 ⟨w1.heap.size, 0, none⟩ 1 1 [.string ({ data := #[50] })] rfl rfl ?q1 ?q2 ?q3 ?q4 ?q5 ?_)
      case q1 =>
        intro j u hj
        match j, hj with
        | 0, hj => simp at hj; subst hj; simp [Addr.add]
      case q2 => intro u hu; simp at hu; subst hu; rfl
      case q3 => unfold maxLen; omega
      case q4 => omega
      case q5 => simp; omega
      intro v' w2 hown hgrow _
      have hb2 : Below w.heap.size w w2 := (bstep hb1 (fresh_below w1 (.cells #[.string ({ data := #[50] })] 9))).grown hgrow (by simp; omega) (owns_block hown2)
      go_wp2_with fail
      go_roundw
      case rel => exact ⟨2, by omega, by go_num, hown, hb2⟩
      case measure => simp [intOf]
    · have HO := hide hown
      clear hown
      go_wp2_with fail
      (with_reducible refine (C2.out _ (HP.out.below hbel)).mono ?_)
      rintro e w1 ⟨rfl, b1⟩
      have hown1 := HO.out.kept (grown_of b1) (Classical.em _)
      have hb1 : Below w.heap.size w w1 := bstep hbel b1
      clear b1 HO
      have hown2 := hown1.alloc (.cells #[.string ({ data := #[51] })] 9)
      have hbase : w.heap.size ≤ w1.heap.size := hb1.size
      go_wp2_with (at_builtin; refine wpList_append_own _ rfl _ _ 65 rfl w.heap.size 9 i0 (.string { data := #[] }) 1 16 Tryd.underlying65 hi hz0 hz1 hz2 rfl (by decide) _ 2 (text_b_parts.take 2) rfl hown2 ⟨w1.heap.size, 0, none⟩ 1 1 [.string ({ data := #[51] })] rfl rfl ?q1 ?q2 ?q3 ?q4 ?q5 ?_)
      case q1 =>
        intro j u hj
        match j, hj with
        | 0, hj => simp at hj; subst hj; simp [Addr.add]
      case q2 => intro u hu; simp at hu; subst hu; rfl
      case q3 => unfold maxLen; omega
      case q4 => omega
      case q5 => simp; omega
      intro v' w2 hown hgrow _
      have hb2 : Below w.heap.size w w2 := (bstep hb1 (fresh_below w1 (.cells #[.string ({ data := #[51] })] 9))).grown hgrow (by simp; omega) (owns_block hown2)
      go_wp2_with fail
      go_roundw
      case rel => exact ⟨3, by omega, by go_num, hown, hb2⟩
      case measure => simp [intOf]
    · have HO := hide hown
      clear hown
      go_wp2_with fail
      (with_reducible refine (C3.out _ (HP.out.below hbel)).mono ?_)
      rintro e w1 ⟨rfl, b1⟩
      have hown1 := HO.out.kept (grown_of b1) (Classical.em _)
      have hb1 : Below w.heap.size w w1 := bstep hbel b1
      clear b1 HO
      have hown2 := hown1.alloc (.cells #[.string ({ data := #[52] })] 9)
      have hbase : w.heap.size ≤ w1.heap.size := hb1.size
      go_wp2_with (at_builtin; refine wpList_append_own _ rfl _ _ 65 rfl w.heap.size 9 i0 (.string { data := #[] }) 1 16 Tryd.underlying65 hi hz0 hz1 hz2 rfl (by decide) _ 3 (text_b_parts.take 3) rfl hown2 ⟨w1.heap.size, 0, none⟩ 1 1 [.string ({ data := #[52] })] rfl rfl ?q1 ?q2 ?q3 ?q4 ?q5 ?_)
      case q1 =>
        intro j u hj
        match j, hj with
        | 0, hj => simp at hj; subst hj; simp [Addr.add]
      case q2 => intro u hu; simp at hu; subst hu; rfl
      case q3 => unfold maxLen; omega
      case q4 => omega
      case q5 => simp; omega
      intro v' w2 hown hgrow _
      have hb2 : Below w.heap.size w w2 := (bstep hb1 (fresh_below w1 (.cells #[.string ({ data := #[52] })] 9))).grown hgrow (by simp; omega) (owns_block hown2)
      go_wp2_with fail
      go_roundw
      case rel => exact ⟨4, by omega, by go_num, hown, hb2⟩
      case measure => simp [intOf]
    · obtain ⟨g, cap, rfl⟩ := owns_at hown (by omega)
      obtain ⟨hcap, hg⟩ := owns_cap hown
      have hrow := row_of_owns hown
      have hcs : ∀ (j : Nat) x, ([{ data := #[49] }, { data := #[50] }, { data := #[51] }, { data := #[52] }] : List ByteArray)[j]? = some x → wr.cell? ⟨g, 0 + j, none⟩ = some (.string x) := by
        intro j x hx
        obtain ⟨b', o', he, hb, hc⟩ := hrow.2 (by omega)
        injection he with he
        injection he with e1 e2 e3
        subst e1; subst e2
        refine hc j _ ?_
        have := congrArg (Option.map Value.string) hx
        rw [← List.getElem?_map] at this
        exact this
      have c5 := C4.out wr g cap hcs hg hcap
      have C5 := hide c5
      clear hcs hrow hown c5 hcap hg
      go_wp2_with fail
      (with_reducible refine (C5.out).mono ?_)
      rintro e w1 ⟨rfl, b1⟩
      replace b1 : Below w.heap.size w w1 := bstep hbel b1
      go_wp2_with fail
      go_ret
      exact ⟨rfl, b1⟩

end Go.Proofs.YtpidgmamollmgaaDoor
end
