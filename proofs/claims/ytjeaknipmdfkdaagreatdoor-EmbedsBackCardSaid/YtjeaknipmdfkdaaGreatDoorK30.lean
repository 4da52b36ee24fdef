/- Several texts of this claim, one behind the other. -/
import Derived.Shelf.Strings.OnBuilder
import Derived.Shelf.LaysM
import Derived.Shelf.Strconv.Itoa3
import Derived.Test.YtjeaknipmdfkdaaGreatDoorProg
import Derived.Test.YtjeaknipmdfkdaaGreatDoorK29
import Derived.Test.YtjeaknipmdfkdaaGreatDoorK0
import Derived.Test.YtjeaknipmdfkdaaGreatDoorK5
import Derived.Lib.AppendIntMem
import Derived.Deep.RegionHeldLaw
import Derived.Deep.RegionHeld3
import Derived.Test.YtjeaknipmdfkdaaGreatDoorK2

section
/- Contracts of Go's library at this program's numbers: laid by a tool of the kit. -/
namespace Go.Proofs
open Go.Shelf
def Tryz.lays156_ren : Go.Shelf.Ren := ⟨fun | 156 => 54 | 165 => 100 | 166 => 101 | 169 => 72 | 240 => 118 | 241 => 127 | 276 => 133 | 277 => 136 | n => n, fun | 31 => 97 | 9 => 9 | 3 => 3 | 4 => 4 | 0 => 0 | 20 => 20 | 72 => 142 | 76 => 167 | 70 => 140 | 37 => 45 | 75 => 144 | 127 => 183 | 164 => 196 | 5 => 5 | 80 => 146 | n => n, fun | n => n⟩
theorem Tryz.lays156 : Go.Proofs.Lays.n156 Tryz.prog Tryz.lays156_ren := {
  mixed := by kernel_rfl
  f156 := Tryz.func54.trans (congrArg some (by kernel_rfl))
  f165 := Tryz.func100.trans (congrArg some (by kernel_rfl))
  f166 := Tryz.func101.trans (congrArg some (by kernel_rfl))
  f169 := Tryz.func72.trans (congrArg some (by kernel_rfl))
  f240 := Tryz.func118.trans (congrArg some (by kernel_rfl))
  f241 := Tryz.func127.trans (congrArg some (by kernel_rfl))
  f276 := Tryz.func133.trans (congrArg some (by kernel_rfl))
  f277 := Tryz.func136.trans (congrArg some (by kernel_rfl))
  t0 := Tryz.underlying0
  a0 := Tryz.isAgg0
  z0 := Tryz.sizeOf0
  v0 := Tryz.zeroValue0
  t3 := Tryz.underlying3
  a3 := Tryz.isAgg3
  z3 := Tryz.sizeOf3
  v3 := Tryz.zeroValue3
  t4 := Tryz.underlying4
  a4 := Tryz.isAgg4
  z4 := Tryz.sizeOf4
  v4 := Tryz.zeroValue4
  t9 := Tryz.underlying9
  a9 := Tryz.isAgg9
  z9 := Tryz.sizeOf9
  v9 := Tryz.zeroValue9
  t20 := Tryz.underlying20
  a20 := Tryz.isAgg20
  z20 := Tryz.sizeOf20
  v20 := Tryz.zeroValue20
  t31 := Tryz.underlying97
  a31 := Tryz.isAgg97
  z31 := Tryz.sizeOf97
  v31 := Tryz.zeroValue97
  t37 := Tryz.underlying45
  a37 := Tryz.isAgg45
  z37 := Tryz.sizeOf45
  v37 := Tryz.zeroValue45
  t70 := Tryz.underlying140
  a70 := Tryz.isAgg140
  z70 := Tryz.sizeOf140
  v70 := Tryz.zeroValue140
  t72 := Tryz.underlying142
  a72 := Tryz.isAgg142
  z72 := Tryz.sizeOf142
  v72 := Tryz.zeroValue142
  t75 := Tryz.underlying144
  a75 := Tryz.isAgg144
  z75 := Tryz.sizeOf144
  v75 := Tryz.zeroValue144
  t76 := Tryz.underlying167
  a76 := Tryz.isAgg167
  z76 := Tryz.sizeOf167
  v76 := Tryz.zeroValue167
  t127 := Tryz.underlying183
  a127 := Tryz.isAgg183
  z127 := Tryz.sizeOf183
  v127 := Tryz.zeroValue183
  t164 := Tryz.underlying196
  a164 := Tryz.isAgg196
  z164 := Tryz.sizeOf196
  v164 := Tryz.zeroValue196 }
theorem Tryz.Builder_Extra_156 : Builder.Extra Tryz.prog Tryz.lays156_ren := {
  sizeBuilder := by kernel_rfl
  liesBuilder := by kernel_rfl
  t5 := Tryz.underlying5
  a5 := Tryz.isAgg5
  z5 := Tryz.sizeOf5
  v5 := Tryz.zeroValue5
  infoByte := by kernel_rfl
  cellsByte := by kernel_rfl
  sizeByte := by kernel_rfl
  neB5 := by decide }
open Go.RowKit in
/-- strings.Join: "Join concatenates the elements of its first argument to create a single string. The separator string sep is placed between elements in the resulting string.": HOWEVER MANY ELEMENTS. Below the heap's end the world is as it was. (LAID: no walk: one application.) -/
theorem Tryz.strings_Join (bk o c : Nat) (xs : List ByteArray) (sep : ByteArray) (w : World) (hcells : ∀ (j : Nat) x, xs[j]? = some x → w.cell? ⟨bk, o + j, none⟩ = some (.string x)) (hbk : bk < w.heap.size) (hN : xs.length ≤ 140737488355328) (hcap : xs.length ≤ c) (hlen : (Lib.join (xs.map (·.data.toList)) sep.data.toList).length ≤ 140737488355328) :
    Calls Tryz.prog 54 #[.slice (some ⟨bk, o, none⟩) xs.length c, .string sep] w fun e w' => e = .returned (.string ⟨(Lib.join (xs.map (·.data.toList)) sep.data.toList).toArray⟩) ∧ Below w.heap.size w w' := Any.strings_Join Tryz.lays156 Tryz.Builder_Extra_156 bk o c xs sep w hcells hbk hN hcap hlen
def Tryz.laysM171_ren : Go.Shelf.Ren := ⟨fun | 171 => 103 | 243 => 128 | 246 => 137 | 283 => 138 | 284 => 139 | 285 => 140 | 286 => 141 | 129 => 143 | 317 => 142 | 318 => 144 | 319 => 145 | 320 => 146 | 337 => 147 | 338 => 148 | n => n, fun | 3 => 3 | 9 => 9 | 2 => 2 | 4 => 4 | 171 => 205 | 0 => 0 | 53 => 206 | 37 => 45 | 5 => 5 | 173 => 209 | 212 => 213 | 51 => 22 | 20 => 20 | 213 => 214 | 46 => 44 | 232 => 218 | 233 => 219 | n => n, fun | 17 => 3 | 18 => 4 | 19 => 5 | n => n⟩
theorem Tryz.laysM171 : Go.Proofs.LaysM.n171 Tryz.prog Tryz.laysM171_ren := {
  mixed := by kernel_rfl
  f129 := Tryz.func143.trans (congrArg some (by kernel_rfl))
  f171 := Tryz.func103.trans (congrArg some (by kernel_rfl))
  f243 := Tryz.func128.trans (congrArg some (by kernel_rfl))
  f246 := Tryz.func137.trans (congrArg some (by kernel_rfl))
  f283 := Tryz.func138.trans (congrArg some (by kernel_rfl))
  f284 := Tryz.func139.trans (congrArg some (by kernel_rfl))
  f285 := Tryz.func140.trans (congrArg some (by kernel_rfl))
  f286 := Tryz.func141.trans (congrArg some (by kernel_rfl))
  f317 := Tryz.func142.trans (congrArg some (by kernel_rfl))
  f318 := Tryz.func144.trans (congrArg some (by kernel_rfl))
  f319 := Tryz.func145.trans (congrArg some (by kernel_rfl))
  f320 := Tryz.func146.trans (congrArg some (by kernel_rfl))
  f337 := Tryz.func147.trans (congrArg some (by kernel_rfl))
  f338 := Tryz.func148.trans (congrArg some (by kernel_rfl))
  t0 := Tryz.underlying0
  a0 := Tryz.isAgg0
  z0 := Tryz.sizeOf0
  v0 := Tryz.zeroValue0
  t2 := Tryz.underlying2
  a2 := Tryz.isAgg2
  z2 := Tryz.sizeOf2
  v2 := Tryz.zeroValue2
  t3 := Tryz.underlying3
  a3 := Tryz.isAgg3
  z3 := Tryz.sizeOf3
  v3 := Tryz.zeroValue3
  t4 := Tryz.underlying4
  a4 := Tryz.isAgg4
  z4 := Tryz.sizeOf4
  v4 := Tryz.zeroValue4
  t5 := Tryz.underlying5
  a5 := Tryz.isAgg5
  z5 := Tryz.sizeOf5
  v5 := Tryz.zeroValue5
  t9 := Tryz.underlying9
  a9 := Tryz.isAgg9
  z9 := Tryz.sizeOf9
  v9 := Tryz.zeroValue9
  t20 := Tryz.underlying20
  a20 := Tryz.isAgg20
  z20 := Tryz.sizeOf20
  v20 := Tryz.zeroValue20
  t37 := Tryz.underlying45
  a37 := Tryz.isAgg45
  z37 := Tryz.sizeOf45
  v37 := Tryz.zeroValue45
  t46 := Tryz.underlying44
  a46 := Tryz.isAgg44
  z46 := Tryz.sizeOf44
  v46 := Tryz.zeroValue44
  t51 := Tryz.underlying22
  a51 := Tryz.isAgg22
  z51 := Tryz.sizeOf22
  v51 := Tryz.zeroValue22
  t53 := Tryz.underlying206
  a53 := Tryz.isAgg206
  z53 := Tryz.sizeOf206
  v53 := Tryz.zeroValue206
  t171 := Tryz.underlying205
  a171 := Tryz.isAgg205
  z171 := Tryz.sizeOf205
  v171 := Tryz.zeroValue205
  t173 := Tryz.underlying209
  a173 := Tryz.isAgg209
  z173 := Tryz.sizeOf209
  v173 := Tryz.zeroValue209
  t212 := Tryz.underlying213
  a212 := Tryz.isAgg213
  z212 := Tryz.sizeOf213
  v212 := Tryz.zeroValue213
  t213 := Tryz.underlying214
  a213 := Tryz.isAgg214
  z213 := Tryz.sizeOf214
  t232 := Tryz.underlying218
  a232 := Tryz.isAgg218
  z232 := Tryz.sizeOf218
  v232 := Tryz.zeroValue218
  t233 := Tryz.underlying219
  a233 := Tryz.isAgg219
  z233 := Tryz.sizeOf219
  v233 := Tryz.zeroValue219
  g17 := by kernel_rfl
  g18 := by kernel_rfl
  g19 := by kernel_rfl
  i0 := by kernel_rfl
  i2 := by kernel_rfl
  i3 := by kernel_rfl
  i4 := by kernel_rfl
  i5 := by kernel_rfl
  i9 := by kernel_rfl
  i20 := by kernel_rfl
  i37 := by kernel_rfl
  i46 := by kernel_rfl
  i51 := by kernel_rfl
  i53 := by kernel_rfl
  i171 := by kernel_rfl
  i173 := by kernel_rfl
  i212 := by kernel_rfl
  i232 := by kernel_rfl
  i233 := by kernel_rfl
  m17 := by kernel_rfl
  m18 := by kernel_rfl
  m19 := by kernel_rfl }
open Go.RowKit Go.Sort Go.Lib in
/-- strconv.Itoa: "Itoa is equivalent to FormatInt(int64(i), 10).": i's DECIMAL NUMERAL ('Lib.itoa': a '-' where i is negative, then the digits), FOR EVERY int. The world behind the call: the world before it, new blocks behind the heap (the library's 'var a [24]byte'), draws. (LAID: no walk: one application.) -/
theorem Tryz.strconv_Itoa (n : Int) (h0 : -9223372036854775808 ≤ n) (h1 : n ≤ 9223372036854775807) (w : World) (htab : Lib.TabIs Tryz.prog w "internal/strconv.uint64pow10" .u64 Lib.pow10Tab) :
    Calls Tryz.prog 103 #[.int .i64 n] w fun e w' => e = .returned (.string ⟨(Lib.itoa n).toArray⟩) ∧ ∃ k os, w' = grow (w.drewN k) os := Any.strconv_Itoa Tryz.laysM171 n h0 h1 w htab
end Go.Proofs
end

section
/- Addresses, endpoints and a tuple as texts: at the chapter's example. -/
set_option linter.unusedVariables false
set_option linter.unusedSimpArgs false
namespace Go.Proofs.YtjeaknipmdfkdaaGreatDoor
open Go.RowKit
attribute [local go_sem] Oper.semAt_some

theorem Itoa_ret (n : Int) (t : ByteArray) (w : World) (h0 : 0 ≤ n) (h1 : n ≤ 9223372036854775807) (hP : Pow w) (ht : (⟨(Lib.itoa n).toArray⟩ : ByteArray) = t) :
    Calls Tryz.prog 103 #[.int .i64 n] w (Ret (.string t) w) := by
  subst ht
  exact (Tryz.strconv_Itoa n (by omega) h1 w hP).mono fun e w' h => ⟨h.1, by obtain ⟨k, os, rfl⟩ := h.2; exact Lib.below_grow _ w (Nat.le_refl _) k os⟩
theorem owns_at {w : World} {base e : Nat} {v : Value} {n : Nat} {xs : List Value} (h : w.ownsRow base e 1 v n xs) (hn : 0 < n) : ∃ g c, v = .slice (some ⟨g, 0, none⟩) n c := by
  rcases h.2 with ⟨_, h0⟩ | ⟨g, cap, cur, hv, _⟩
  · omega
  · exact ⟨_, _, hv⟩

theorem grown_of {w w' : World} (h : Below w.heap.size w w') : w.grownBy w' none := ⟨h.os, h.tape, h.output, h.size, fun k hk _ => h.block k hk⟩
theorem owns_block {w : World} {base e : Nat} {v : Value} {n : Nat} {xs : List Value} (h : w.ownsRow base e 1 v n xs) : ∀ k, v.ownBlock = some k → base ≤ k := by
  intro k hk
  rcases h.2 with ⟨rfl, _⟩ | ⟨g, cap, cur, rfl, hb, _⟩
  · simp [Value.ownBlock] at hk
  · simp [Value.ownBlock] at hk; omega
theorem owns_cap {w : World} {base e g c : Nat} {n : Nat} {xs : List Value} (h : w.ownsRow base e 1 (.slice (some ⟨g, 0, none⟩) n c) n xs) : n ≤ c ∧ g < w.heap.size := by
  rcases h.2 with ⟨hv, _⟩ | ⟨g', cap, cur, hv, hb, hc, hn, _⟩
  · cases hv
  · injection hv with q1 q2 q3
    injection q1 with q1
    injection q1 with q1
    subst q1; subst q3
    exact ⟨hn, (Array.getElem?_eq_some_iff.1 hc).1⟩

/-- the texts of an address's bytes -/
def text_a_parts : List Value := [.string { data := #[53] }, .string { data := #[54] }, .string { data := #[55] }, .string { data := #[56] }]
set_option maxRecDepth 100000 in
set_option maxHeartbeats 4000000 in
theorem text_a (w : World) (hP : Pow w) : Calls Tryz.prog 102 #[.int .u32 84281096] w (Ret (.string { data := #[53, 46, 54, 46, 55, 46, 56] }) w) := by
  have hj : (⟨(Lib.join (([{ data := #[53] }, { data := #[54] }, { data := #[55] }, { data := #[56] }] : List ByteArray).map (·.data.toList)) ({ data := #[46] } : ByteArray).data.toList).toArray⟩ : ByteArray) = { data := #[53, 46, 54, 46, 55, 46, 56] } := by decide +kernel
  have y0 : wrap64 (bits .and .u32 5 255) = 5 := by decide +kernel
  have c0 := fun W (h : Pow W) => Itoa_ret 5 ({ data := #[53] }) W (by decide) (by decide) h (by decide +kernel)
  have y1 : wrap64 (bits .and .u32 1286 255) = 6 := by decide +kernel
  have c1 := fun W (h : Pow W) => Itoa_ret 6 ({ data := #[54] }) W (by decide) (by decide) h (by decide +kernel)
  have y2 : wrap64 (bits .and .u32 329223 255) = 7 := by decide +kernel
  have c2 := fun W (h : Pow W) => Itoa_ret 7 ({ data := #[55] }) W (by decide) (by decide) h (by decide +kernel)
  have y3 : wrap64 (bits .and .u32 84281096 255) = 8 := by decide +kernel
  have c3 := fun W (h : Pow W) => Itoa_ret 8 ({ data := #[56] }) W (by decide) (by decide) h (by decide +kernel)
  have c4 : ∀ (W : World) (g cap : Nat), (∀ (j : Nat) x, ([{ data := #[53] }, { data := #[54] }, { data := #[55] }, { data := #[56] }] : List ByteArray)[j]? = some x → W.cell? ⟨g, 0 + j, none⟩ = some (.string x)) → g < W.heap.size → 4 ≤ cap → Calls Tryz.prog 54 #[.slice (some ⟨g, 0, none⟩) 4 cap, .string { data := #[46] }] W (Ret (.string { data := #[53, 46, 54, 46, 55, 46, 56] }) W) := fun W g cap h1 h2 h3 => by
    have := Tryz.strings_Join g 0 cap ([{ data := #[53] }, { data := #[54] }, { data := #[55] }, { data := #[56] }]) ({ data := #[46] }) W h1 h2 (by decide) h3 (by decide +kernel)
    rw [hj] at this
    exact this
  have HP := hide hP; have C4 := hide c4
  have C0 := hide c0; have C1 := hide c1; have C2 := hide c2; have C3 := hide c3
  clear hP hj c0 c1 c2 c3 c4
  have infoStr : (Tryz.prog.info? 9).map (fun i => (i.zero, i.size, i.bytes)) = some (some (.string { data := #[] }), 1, 16) := by kernel_rfl
  obtain ⟨i0, hi, hz0, hz1, hz2⟩ := info_parts infoStr
  go_enter Tryz.func102, Tryz.ntmps102
  go_wp2
  go_loopw [3, 4] (fun v i wr => ∃ k : Nat, k ≤ 4 ∧ i = .int .i64 (24 - 8 * (k : Int)) ∧ wr.ownsRow w.heap.size 9 1 v k (text_a_parts.take k) ∧ Below w.heap.size w wr) (fun _ i _ => (intOf i + 8).toNat)
  case atStart => exact ⟨0, by omega, rfl, ⟨rfl, .inl ⟨rfl, rfl⟩⟩, Below.refl _ _⟩
  case round =>
    obtain ⟨k, hk, rfl, hown, hbel⟩ := hrel
    have hcase : k = 0 ∨ k = 1 ∨ k = 2 ∨ k = 3 ∨ k = 4 := by omega
    rcases hcase with rfl | rfl | rfl | rfl | rfl
    · have HO := hide hown
      clear hown
      go_wp2_with fail
      (with_reducible refine (C0.out _ (HP.out.below hbel)).mono ?_)
      rintro e w1 ⟨rfl, b1⟩
      have hown1 := HO.out.kept (grown_of b1) (Classical.em _)
      have hb1 : Below w.heap.size w w1 := bstep hbel b1
      clear b1 HO
      have hown2 := hown1.alloc (.cells #[.string ({ data := #[53] })] 9)
      have hbase : w.heap.size ≤ w1.heap.size := hb1.size
      go_wp2_with (at_builtin; refine wpList_append_own _ rfl _ _ 97 rfl w.heap.size 9 i0 (.string { data := #[] }) 1 16 Tryz.underlying97 hi hz0 hz1 hz2 rfl (by decide) _ 0 (text_a_parts.take 0) rfl hown2 ⟨w1.heap.size, 0, none⟩ 1 1 [.string ({ data := #[53] })] rfl rfl ?q1 ?q2 ?q3 ?q4 ?q5 ?_)
      case q1 =>
        intro j u hj
        match j, hj with
        | 0, hj => simp at hj; subst hj; simp [Addr.add]
      case q2 => intro u hu; simp at hu; subst hu; rfl
      case q3 => unfold maxLen; omega
      case q4 => omega
      case q5 => simp; omega
      intro v' w2 hown hgrow _
      have hb2 : Below w.heap.size w w2 := (bstep hb1 (fresh_below w1 (.cells #[.string ({ data := #[53] })] 9))).grown hgrow (by simp; omega) (owns_block hown2)
      go_wp2_with fail
      go_roundw
      case rel => exact ⟨1, by omega, by go_num, hown, hb2⟩
      case measure => simp [intOf]
    · have HO := hide hown
      clear hown
      go_wp2_with fail
      (with_reducible refine (C1.out _ (HP.out.below hbel)).mono ?_)
      rintro e w1 ⟨rfl, b1⟩
      have hown1 := HO.out.kept (grown_of b1) (Classical.em _)
      have hb1 : Below w.heap.size w w1 := bstep hbel b1
      clear b1 HO
      have hown2 := hown1.alloc (.cells #[.string ({ data := #[54] })] 9)
      have hbase : w.heap.size ≤ w1.heap.size := hb1.size
      go_wp2_with (at_builtin; refine wpList_append_own _ rfl _ _ 97 rfl w.heap.size 9 i0 (.string { data := #[] }) 1 16 Tryz.underlying97 hi hz0 hz1 hz2 rfl (by decide) _ 1 (text_a_parts.take 1) rfl hown2 ⟨w1.heap.size, 0, none⟩ 1 1 [.string ({ data := #[54] })] rfl rfl ?q1 ?q2 ?q3 ?q4 ?q5 ?_)
      case q1 =>
        intro j u hj
        match j, hj with
        | 0, hj => simp at hj; subst hj; simp [Addr.add]
      case q2 => intro u hu; simp at hu; subst hu; rfl
      case q3 => unfold maxLen; omega
      case q4 => omega
      case q5 => simp; omega
      intro v' w2 hown hgrow _
      have hb2 : Below w.heap.size w w2 := (bstep hb1 (fresh_below w1 (.cells #[.string ({ data := #[54] })] 9))).grown hgrow (by simp; omega) (owns_block hown2)
      go_wp2_with fail
      go_roundw
      case rel => exact ⟨2, by omega, by go_num, hown, hb2⟩
      case measure => simp [intOf]
    · have HO := hide hown
      clear hown
      go_wp2_with fail
      (with_reducible refine (C2.out _ (HP.out.below hbel)).mono ?_)
      rintro e w1 ⟨rfl, b1⟩
      have hown1 := HO.out.kept (grown_of b1) (Classical.em _)
      have hb1 : Below w.heap.size w w1 := bstep hbel b1
      clear b1 HO
      have hown2 := hown1.alloc (.cells #[.string ({ data := #[55] })] 9)
      have hbase : w.heap.size ≤ w1.heap.size := hb1.size
      go_wp2_with (at_builtin; refine wpList_append_own _ rfl _ _ 97 rfl w.heap.size 9 i0 (.string { data := #[] }) 1 16 Tryz.underlying97 hi hz0 hz1 hz2 rfl (by decide) _ 2 (text_a_parts.take 2) rfl hown2 ⟨w1.heap.size, 0, none⟩ 1 1 [.string ({ data := #[55] })] rfl rfl ?q1 ?q2 ?q3 ?q4 ?q5 ?_)
      case q1 =>
        intro j u hj
        match j, hj with
        | 0, hj => simp at hj; subst hj; simp [Addr.add]
      case q2 => intro u hu; simp at hu; subst hu; rfl
      case q3 => unfold maxLen; omega
      case q4 => omega
      case q5 => simp; omega
      intro v' w2 hown hgrow _
      have hb2 : Below w.heap.size w w2 := (bstep hb1 (fresh_below w1 (.cells #[.string ({ data := #[55] })] 9))).grown hgrow (by simp; omega) (owns_block hown2)
      go_wp2_with fail
      go_roundw
      case rel => exact ⟨3, by omega, by go_num, hown, hb2⟩
      case measure => simp [intOf]
    · have HO := hide hown
      clear hown
      go_wp2_with fail
      (with_reducible refine (C3.out _ (HP.out.below hbel)).mono ?_)
      rintro e w1 ⟨rfl, b1⟩
      have hown1 := HO.out.kept (grown_of b1) (Classical.em _)
      have hb1 : Below w.heap.size w w1 := bstep hbel b1
      clear b1 HO
      have hown2 := hown1.alloc (.cells #[.string ({ data := #[56] })] 9)
      have hbase : w.heap.size ≤ w1.heap.size := hb1.size
      go_wp2_with (at_builtin; refine wpList_append_own _ rfl _ _ 97 rfl w.heap.size 9 i0 (.string { data := #[] }) 1 16 Tryz.underlying97 hi hz0 hz1 hz2 rfl (by decide) _ 3 (text_a_parts.take 3) rfl hown2 ⟨w1.heap.size, 0, none⟩ 1 1 [.string ({ data := #[56] })] rfl rfl ?q1 ?q2 ?q3 ?q4 ?q5 ?_)
      case q1 =>
        intro j u hj
        match j, hj with
        | 0, hj => simp at hj; subst hj; simp [Addr.add]
      case q2 => intro u hu; simp at hu; subst hu; rfl
      case q3 => unfold maxLen; omega
      case q4 => omega
      case q5 => simp; omega
      intro v' w2 hown hgrow _
      have hb2 : Below w.heap.size w w2 := (bstep hb1 (fresh_below w1 (.cells #[.string ({ data := #[56] })] 9))).grown hgrow (by simp; omega) (owns_block hown2)
      go_wp2_with fail
      go_roundw
      case rel => exact ⟨4, by omega, by go_num, hown, hb2⟩
      case measure => simp [intOf]
    · obtain ⟨g, cap, rfl⟩ := owns_at hown (by omega)
      obtain ⟨hcap, hg⟩ := owns_cap hown
      have hrow := row_of_owns hown
      have hcs : ∀ (j : Nat) x, ([{ data := #[53] }, { data := #[54] }, { data := #[55] }, { data := #[56] }] : List ByteArray)[j]? = some x → wr.cell? ⟨g, 0 + j, none⟩ = some (.string x) := by
        intro j x hx
        obtain ⟨b', o', he, hb, hc⟩ := hrow.2 (by omega)
        injection he with he
        injection he with e1 e2 e3
        subst e1; subst e2
        refine hc j _ ?_
        have := congrArg (Option.map Value.string) hx
        rw [← List.getElem?_map] at this
        exact this
      have c5 := C4.out wr g cap hcs hg hcap
      have C5 := hide c5
      clear hcs hrow hown c5 hcap hg
      go_wp2_with fail
      (with_reducible refine (C5.out).mono ?_)
      rintro e w1 ⟨rfl, b1⟩
      replace b1 : Below w.heap.size w w1 := bstep hbel b1
      go_wp2_with fail
      go_ret
      exact ⟨rfl, b1⟩

/-- the texts of an address's bytes -/
def text_b_parts : List Value := [.string { data := #[49] }, .string { data := #[50] }, .string { data := #[51] }, .string { data := #[52] }]
set_option maxRecDepth 100000 in
set_option maxHeartbeats 4000000 in
theorem text_b (w : World) (hP : Pow w) : Calls Tryz.prog 102 #[.int .u32 16909060] w (Ret (.string { data := #[49, 46, 50, 46, 51, 46, 52] }) w) := by
  have hj : (⟨(Lib.join (([{ data := #[49] }, { data := #[50] }, { data := #[51] }, { data := #[52] }] : List ByteArray).map (·.data.toList)) ({ data := #[46] } : ByteArray).data.toList).toArray⟩ : ByteArray) = { data := #[49, 46, 50, 46, 51, 46, 52] } := by decide +kernel
  have y0 : wrap64 (bits .and .u32 1 255) = 1 := by decide +kernel
  have c0 := fun W (h : Pow W) => Itoa_ret 1 ({ data := #[49] }) W (by decide) (by decide) h (by decide +kernel)
  have y1 : wrap64 (bits .and .u32 258 255) = 2 := by decide +kernel
  have c1 := fun W (h : Pow W) => Itoa_ret 2 ({ data := #[50] }) W (by decide) (by decide) h (by decide +kernel)
  have y2 : wrap64 (bits .and .u32 66051 255) = 3 := by decide +kernel
  have c2 := fun W (h : Pow W) => Itoa_ret 3 ({ data := #[51] }) W (by decide) (by decide) h (by decide +kernel)
  have y3 : wrap64 (bits .and .u32 16909060 255) = 4 := by decide +kernel
  have c3 := fun W (h : Pow W) => Itoa_ret 4 ({ data := #[52] }) W (by decide) (by decide) h (by decide +kernel)
  have c4 : ∀ (W : World) (g cap : Nat), (∀ (j : Nat) x, ([{ data := #[49] }, { data := #[50] }, { data := #[51] }, { data := #[52] }] : List ByteArray)[j]? = some x → W.cell? ⟨g, 0 + j, none⟩ = some (.string x)) → g < W.heap.size → 4 ≤ cap → Calls Tryz.prog 54 #[.slice (some ⟨g, 0, none⟩) 4 cap, .string { data := #[46] }] W (Ret (.string { data := #[49, 46, 50, 46, 51, 46, 52] }) W) := fun W g cap h1 h2 h3 => by
    have := Tryz.strings_Join g 0 cap ([{ data := #[49] }, { data := #[50] }, { data := #[51] }, { data := #[52] }]) ({ data := #[46] }) W h1 h2 (by decide) h3 (by decide +kernel)
    rw [hj] at this
    exact this
  have HP := hide hP; have C4 := hide c4
  have C0 := hide c0; have C1 := hide c1; have C2 := hide c2; have C3 := hide c3
  clear hP hj c0 c1 c2 c3 c4
  have infoStr : (Tryz.prog.info? 9).map (fun i => (i.zero, i.size, i.bytes)) = some (some (.string { data := #[] }), 1, 16) := by kernel_rfl
  obtain ⟨i0, hi, hz0, hz1, hz2⟩ := info_parts infoStr
  go_enter Tryz.func102, Tryz.ntmps102
  go_wp2
  go_loopw [3, 4] (fun v i wr => ∃ k : Nat, k ≤ 4 ∧ i = .int .i64 (24 - 8 * (k : Int)) ∧ wr.ownsRow w.heap.size 9 1 v k (text_b_parts.take k) ∧ Below w.heap.size w wr) (fun _ i _ => (intOf i + 8).toNat)
  case atStart => exact ⟨0, by omega, rfl, ⟨rfl, .inl ⟨rfl, rfl⟩⟩, Below.refl _ _⟩
  case round =>
    obtain ⟨k, hk, rfl, hown, hbel⟩ := hrel
    have hcase : k = 0 ∨ k = 1 ∨ k = 2 ∨ k = 3 ∨ k = 4 := by omega
    rcases hcase with rfl | rfl | rfl | rfl | rfl
    · have HO := hide hown
      clear hown
      go_wp2_with fail
      (with_reducible refine (C0.out _ (HP.out.below hbel)).mono ?_)
      rintro e w1 ⟨rfl, b1⟩
      have hown1 := HO.out.kept (grown_of b1) (Classical.em _)
      have hb1 : Below w.heap.size w w1 := bstep hbel b1
      clear b1 HO
      have hown2 := hown1.alloc (.cells #[.string ({ data := #[49] })] 9)
      have hbase : w.heap.size ≤ w1.heap.size := hb1.size
      go_wp2_with (at_builtin; refine wpList_append_own _ rfl _ _ 97 rfl w.heap.size 9 i0 (.string { data := #[] }) 1 16 Tryz.underlying97 hi hz0 hz1 hz2 rfl (by decide) _ 0 (text_b_parts.take 0) rfl hown2 ⟨w1.heap.size, 0, none⟩ 1 1 [.string ({ data := #[49] })] rfl rfl ?q1 ?q2 ?q3 ?q4 ?q5 ?_)
      case q1 =>
        intro j u hj
        match j, hj with
        | 0, hj => simp at hj; subst hj; simp [Addr.add]
      case q2 => intro u hu; simp at hu; subst hu; rfl
      case q3 => unfold maxLen; omega
      case q4 => omega
      case q5 => simp; omega
      intro v' w2 hown hgrow _
      have hb2 : Below w.heap.size w w2 := (bstep hb1 (fresh_below w1 (.cells #[.string ({ data := #[49] })] 9))).grown hgrow (by simp; omega) (owns_block hown2)
      go_wp2_with fail
      go_roundw
      case rel => exact ⟨1, by omega, by go_num, hown, hb2⟩
      case measure => simp [intOf]
    · have HO := hide hown
      clear hown
      go_wp2_with fail
      (with_reducible refine (C1.out _ (HP.out.below hbel)).mono ?_)
      rintro e w1 ⟨rfl, b1⟩
      have hown1 := HO.out.kept (grown_of b1) (Classical.em _)
      have hb1 : Below w.heap.size w w1 := bstep hbel b1
      clear b1 HO
      have hown2 := hown1.alloc (.cells #[.string ({ data := #[50] })] 9)
      have hbase : w.heap.size ≤ w1.heap.size := hb1.size
      go_wp2_with (at_builtin; refine wpList_append_own _ rfl _ _ 97 rfl w.heap.size 9 i0 (.string { data := #[] }) 1 16 Tryz.underlying97 hi hz0 hz1 hz2 rfl (by decide) _ 1 (text_b_parts.take 1) rfl hown2 ⟨w1.heap.size, 0, none⟩ 1 1 [.string ({ data := #[50] })] rfl rfl ?q1 ?q2 ?q3 ?q4 ?q5 ?_)
      case q1 =>
        intro j u hj
        match j, hj with
        | 0, hj => simp at hj; subst hj; simp [Addr.add]
      case q2 => intro u hu; simp at hu; subst hu; rfl
      case q3 => unfold maxLen; omega
      case q4 => omega
      case q5 => simp; omega
      intro v' w2 hown hgrow _
      have hb2 : Below w.heap.size w w2 := (bstep hb1 (fresh_below w1 (.cells #[.string ({ data := #[50] })] 9))).grown hgrow (by simp; omega) (owns_block hown2)
      go_wp2_with fail
      go_roundw
      case rel => exact ⟨2, by omega, by go_num, hown, hb2⟩
      case measure => simp [intOf]
    · have HO := hide hown
      clear hown
      go_wp2_with fail
      (with_reducible refine (C2.out _ (HP.out.below hbel)).mono ?_)
      rintro e w1 ⟨rfl, b1⟩
      have hown1 := HO.out.kept (grown_of b1) (Classical.em _)
      have hb1 : Below w.heap.size w w1 := bstep hbel b1
      clear b1 HO
      have hown2 := hown1.alloc (.cells #[.string ({ data := #[51] })] 9)
      have hbase : w.heap.size ≤ w1.heap.size := hb1.size
      go_wp2_with (at_builtin; refine wpList_append_own _ rfl _ _ 97 rfl w.heap.size 9 i0 (.string { data := #[] }) 1 16 Tryz.underlying97 hi hz0 hz1 hz2 rfl (by decide) _ 2 (text_b_parts.take 2) rfl hown2 ⟨w1.heap.size, 0, none⟩ 1 1 [.string ({ data := #[51] })] rfl rfl ?q1 ?q2 ?q3 ?q4 ?q5 ?_)
      case q1 =>
        intro j u hj
        match j, hj with
        | 0, hj => simp at hj; subst hj; simp [Addr.add]
      case q2 => intro u hu; simp at hu; subst hu; rfl
      case q3 => unfold maxLen; omega
      case q4 => omega
      case q5 => simp; omega
      intro v' w2 hown hgrow _
      have hb2 : Below w.heap.size w w2 := (bstep hb1 (fresh_below w1 (.cells #[.string ({ data := #[51] })] 9))).grown hgrow (by simp; omega) (owns_block hown2)
      go_wp2_with fail
      go_roundw
      case rel => exact ⟨3, by omega, by go_num, hown, hb2⟩
      case measure => simp [intOf]
    · have HO := hide hown
      clear hown
      go_wp2_with fail
      (with_reducible refine (C3.out _ (HP.out.below hbel)).mono ?_)
      rintro e w1 ⟨rfl, b1⟩
      have hown1 := HO.out.kept (grown_of b1) (Classical.em _)
      have hb1 : Below w.heap.size w w1 := bstep hbel b1
      clear b1 HO
      have hown2 := hown1.alloc (.cells #[.string ({ data := #[52] })] 9)
      have hbase : w.heap.size ≤ w1.heap.size := hb1.size
      go_wp2_with (at_builtin; refine wpList_append_own _ rfl _ _ 97 rfl w.heap.size 9 i0 (.string { data := #[] }) 1 16 Tryz.underlying97 hi hz0 hz1 hz2 rfl (by decide) _ 3 (text_b_parts.take 3) rfl hown2 ⟨w1.heap.size, 0, none⟩ 1 1 [.string ({ data := #[52] })] rfl rfl ?q1 ?q2 ?q3 ?q4 ?q5 ?_)
      case q1 =>
        intro j u hj
        match j, hj with
        | 0, hj => simp at hj; subst hj; simp [Addr.add]
      case q2 => intro u hu; simp at hu; subst hu; rfl
      case q3 => unfold maxLen; omega
      case q4 => omega
      case q5 => simp; omega
      intro v' w2 hown hgrow _
      have hb2 : Below w.heap.size w w2 := (bstep hb1 (fresh_below w1 (.cells #[.string ({ data := #[52] })] 9))).grown hgrow (by simp; omega) (owns_block hown2)
      go_wp2_with fail
      go_roundw
      case rel => exact ⟨4, by omega, by go_num, hown, hb2⟩
      case measure => simp [intOf]
    · obtain ⟨g, cap, rfl⟩ := owns_at hown (by omega)
      obtain ⟨hcap, hg⟩ := owns_cap hown
      have hrow := row_of_owns hown
      have hcs : ∀ (j : Nat) x, ([{ data := #[49] }, { data := #[50] }, { data := #[51] }, { data := #[52] }] : List ByteArray)[j]? = some x → wr.cell? ⟨g, 0 + j, none⟩ = some (.string x) := by
        intro j x hx
        obtain ⟨b', o', he, hb, hc⟩ := hrow.2 (by omega)
        injection he with he
        injection he with e1 e2 e3
        subst e1; subst e2
        refine hc j _ ?_
        have := congrArg (Option.map Value.string) hx
        rw [← List.getElem?_map] at this
        exact this
      have c5 := C4.out wr g cap hcs hg hcap
      have C5 := hide c5
      clear hcs hrow hown c5 hcap hg
      go_wp2_with fail
      (with_reducible refine (C5.out).mono ?_)
      rintro e w1 ⟨rfl, b1⟩
      replace b1 : Below w.heap.size w w1 := bstep hbel b1
      go_wp2_with fail
      go_ret
      exact ⟨rfl, b1⟩

end Go.Proofs.YtjeaknipmdfkdaaGreatDoor
end

section
/- Endpoints and a tuple as texts: at the chapter's example. -/
set_option linter.unusedVariables false
set_option linter.unusedSimpArgs false
namespace Go.Proofs.YtjeaknipmdfkdaaGreatDoor
open Go.RowKit Go.Maps
attribute [local go_sem] Oper.semAt_some

def WordsAt (b : Nat) (w : World) : Prop := w.cell? ⟨1, 0, none⟩ = some (.map (some b)) ∧ ∃ n, w.ownsMap (H := Unit) Tryz.prog 5 (plainElem Tryz.prog 9) b n Rows.laid_porter_tuples_words
theorem Words.at_ {w : World} (h : Words w) : ∃ b, WordsAt b w := by obtain ⟨b, n, h1, h2⟩ := h; exact ⟨b, h1, n, h2⟩
theorem WordsAt.below {b : Nat} {w w' : World} (h : WordsAt b w) (k : Below w.heap.size w w') : WordsAt b w' := by
  obtain ⟨hc, n, es, clock, hb, hF⟩ := h
  exact ⟨cellAt k hc, n, es, clock, (k.block b (Array.getElem?_eq_some_iff.1 hb).1).trans hb, hF⟩
theorem WordsAt.look {b : Nat} {w : World} (h : WordsAt b w) :
    (Instr.lookup 116 (.map (some b)) (.int .u8 17) false).run Tryz.prog w = .ok (.string { data := #[117, 100, 112] }) w ∧
    (Instr.lookup 116 (.map (some b)) (.int .u8 17) true).run Tryz.prog w = .ok (.tuple #[.string { data := #[117, 100, 112] }, .bool true]) w := by
  obtain ⟨hc, n, h2⟩ := h
  obtain ⟨b', h1, h3, h4⟩ := Words.look (w := w) ⟨b, n, hc, h2⟩
  rw [hc] at h1
  injection h1 with h1
  injection h1 with h1
  injection h1 with h1
  subst h1
  exact ⟨h3, h4⟩

set_option maxRecDepth 100000 in
set_option maxHeartbeats 2000000 in
theorem point_a (w : World) (hP : Pow w) : Calls Tryz.prog 55 #[.agg #[.int .u32 84281096, .int .u16 9000]] w (Ret (.string { data := #[53, 46, 54, 46, 55, 46, 56, 58, 57, 48, 48, 48] }) w) := by
  have c1 := fun W h => text_a W h
  have c2 := fun W h => Itoa_ret 9000 ({ data := #[57, 48, 48, 48] }) W (by decide) (by decide) h (by decide +kernel)
  have c3 : ∀ W, Pow W → Calls Tryz.prog 103 #[.int .i64 (IntKind.i64.wrap 9000)] W (Ret (.string ({ data := #[57, 48, 48, 48] })) W) := fun W h => by rw [show IntKind.i64.wrap 9000 = 9000 from by decide]; exact c2 W h
  have HP := hide hP; have C1 := hide c1; have C2 := hide c2; have C3 := hide c3
  clear hP c1 c2 c3
  have e1 : ({ data := #[53, 46, 54, 46, 55, 46, 56] } : ByteArray) ++ { data := #[58] } = { data := #[53, 46, 54, 46, 55, 46, 56, 58] } := by decide +kernel
  have e2 : ({ data := #[53, 46, 54, 46, 55, 46, 56, 58] } : ByteArray) ++ { data := #[57, 48, 48, 48] } = { data := #[53, 46, 54, 46, 55, 46, 56, 58, 57, 48, 48, 48] } := by decide +kernel
  have HE := hide e1; have HE2 := hide e2
  clear e1 e2
  go_enter Tryz.func55, Tryz.ntmps55
  have d0 := Cells.new w #[.int .u32 84281096, .int .u16 9000] 26
  go_wp2_with fail
  have SK := hide (fun (zX zY : World) (zh : (Below w.heap.size w zX ∧ zX.cell? ⟨w.heap.size, 0, none⟩ = some (.int .u32 84281096) ∧ zX.cell? ⟨w.heap.size, 1, none⟩ = some (.int .u16 9000) ∧ True)) (zb : Below zX.heap.size zX zY) => (show (Below w.heap.size w zY ∧ zY.cell? ⟨w.heap.size, 0, none⟩ = some (.int .u32 84281096) ∧ zY.cell? ⟨w.heap.size, 1, none⟩ = some (.int .u16 9000) ∧ True) from ⟨bstep zh.1 zb, cellAt zb zh.2.1, cellAt zb zh.2.2.1, trivial⟩))
  have FS := hide (fun (zX : World) (zh : (Below w.heap.size w zX ∧ zX.cell? ⟨w.heap.size, 0, none⟩ = some (.int .u32 84281096) ∧ zX.cell? ⟨w.heap.size, 1, none⟩ = some (.int .u16 9000) ∧ True)) => zh.1)
  have GS := hide (fun (zX : World) (zh : (Below w.heap.size w zX ∧ zX.cell? ⟨w.heap.size, 0, none⟩ = some (.int .u32 84281096) ∧ zX.cell? ⟨w.heap.size, 1, none⟩ = some (.int .u16 9000) ∧ True)) => zh)
  have hS0 : (Below w.heap.size w (w.alloc (.cells #[.int .u32 84281096, .int .u16 9000] 26)) ∧ (w.alloc (.cells #[.int .u32 84281096, .int .u16 9000] 26)).cell? ⟨w.heap.size, 0, none⟩ = some (.int .u32 84281096) ∧ (w.alloc (.cells #[.int .u32 84281096, .int .u16 9000] 26)).cell? ⟨w.heap.size, 1, none⟩ = some (.int .u16 9000) ∧ True) := ⟨(by (repeat' (first | with_reducible exact Below.refl _ _ | with_reducible refine Below.setCell ?_ (by first | exact Nat.le_refl _ | (dsimp only; omega)) _ | with_reducible refine bstep ?_ (fresh_below _ _) | with_reducible refine Below.drew ?_))), d0.at_ 0, d0.at_ 1, trivial⟩
  go_region_held_law (fun w' => (Below w.heap.size w w' ∧ w'.cell? ⟨w.heap.size, 0, none⟩ = some (.int .u32 84281096) ∧ w'.cell? ⟨w.heap.size, 1, none⟩ = some (.int .u16 9000) ∧ True)) (first | assumption | exact SK.out _ _ hS0 (Below.refl _ _).drew | exact SK.out _ _ hS0 (fresh_below _ _).drew | exact SK.out _ _ (by assumption) (fresh_below _ _) | (refine SK.out _ _ ?_ (by assumption); assumption))
    (first | (go_at_call 102; (with_reducible refine (C1.out _ (HP.out.below (by first | exact FS.out _ (by assumption) | exact bstep (FS.out _ (by assumption)) (fresh_below _ _) | exact bstep (bstep (FS.out _ (by assumption)) (fresh_below _ _)) (fresh_below _ _)))).mono ?_); rintro e wq ⟨rfl, bq⟩) | (go_at_call 103; (with_reducible refine (C2.out _ (HP.out.below (by first | exact FS.out _ (by assumption) | exact bstep (FS.out _ (by assumption)) (fresh_below _ _) | exact bstep (bstep (FS.out _ (by assumption)) (fresh_below _ _)) (fresh_below _ _)))).mono ?_); rintro e wq ⟨rfl, bq⟩) | (go_at_call 103; (with_reducible refine (C3.out _ (HP.out.below (by first | exact FS.out _ (by assumption) | exact bstep (FS.out _ (by assumption)) (fresh_below _ _) | exact bstep (bstep (FS.out _ (by assumption)) (fresh_below _ _)) (fresh_below _ _)))).mono ?_); rintro e wq ⟨rfl, bq⟩))
  all_goals
    go_wp2
    go_ret
    exact ⟨by first | rfl | (rw [HE.out, HE2.out]) | (simp [HE.out, HE2.out]), (by first | exact FS.out _ (by assumption) | exact bstep (FS.out _ (by assumption)) (fresh_below _ _) | exact bstep (bstep (FS.out _ (by assumption)) (fresh_below _ _)) (fresh_below _ _))⟩

set_option maxRecDepth 100000 in
set_option maxHeartbeats 2000000 in
theorem point_b (w : World) (hP : Pow w) : Calls Tryz.prog 55 #[.agg #[.int .u32 16909060, .int .u16 53]] w (Ret (.string { data := #[49, 46, 50, 46, 51, 46, 52, 58, 53, 51] }) w) := by
  have c1 := fun W h => text_b W h
  have c2 := fun W h => Itoa_ret 53 ({ data := #[53, 51] }) W (by decide) (by decide) h (by decide +kernel)
  have c3 : ∀ W, Pow W → Calls Tryz.prog 103 #[.int .i64 (IntKind.i64.wrap 53)] W (Ret (.string ({ data := #[53, 51] })) W) := fun W h => by rw [show IntKind.i64.wrap 53 = 53 from by decide]; exact c2 W h
  have HP := hide hP; have C1 := hide c1; have C2 := hide c2; have C3 := hide c3
  clear hP c1 c2 c3
  have e1 : ({ data := #[49, 46, 50, 46, 51, 46, 52] } : ByteArray) ++ { data := #[58] } = { data := #[49, 46, 50, 46, 51, 46, 52, 58] } := by decide +kernel
  have e2 : ({ data := #[49, 46, 50, 46, 51, 46, 52, 58] } : ByteArray) ++ { data := #[53, 51] } = { data := #[49, 46, 50, 46, 51, 46, 52, 58, 53, 51] } := by decide +kernel
  have HE := hide e1; have HE2 := hide e2
  clear e1 e2
  go_enter Tryz.func55, Tryz.ntmps55
  have d0 := Cells.new w #[.int .u32 16909060, .int .u16 53] 26
  go_wp2_with fail
  have SK := hide (fun (zX zY : World) (zh : (Below w.heap.size w zX ∧ zX.cell? ⟨w.heap.size, 0, none⟩ = some (.int .u32 16909060) ∧ zX.cell? ⟨w.heap.size, 1, none⟩ = some (.int .u16 53) ∧ True)) (zb : Below zX.heap.size zX zY) => (show (Below w.heap.size w zY ∧ zY.cell? ⟨w.heap.size, 0, none⟩ = some (.int .u32 16909060) ∧ zY.cell? ⟨w.heap.size, 1, none⟩ = some (.int .u16 53) ∧ True) from ⟨bstep zh.1 zb, cellAt zb zh.2.1, cellAt zb zh.2.2.1, trivial⟩))
  have FS := hide (fun (zX : World) (zh : (Below w.heap.size w zX ∧ zX.cell? ⟨w.heap.size, 0, none⟩ = some (.int .u32 16909060) ∧ zX.cell? ⟨w.heap.size, 1, none⟩ = some (.int .u16 53) ∧ True)) => zh.1)
  have GS := hide (fun (zX : World) (zh : (Below w.heap.size w zX ∧ zX.cell? ⟨w.heap.size, 0, none⟩ = some (.int .u32 16909060) ∧ zX.cell? ⟨w.heap.size, 1, none⟩ = some (.int .u16 53) ∧ True)) => zh)
  have hS0 : (Below w.heap.size w (w.alloc (.cells #[.int .u32 16909060, .int .u16 53] 26)) ∧ (w.alloc (.cells #[.int .u32 16909060, .int .u16 53] 26)).cell? ⟨w.heap.size, 0, none⟩ = some (.int .u32 16909060) ∧ (w.alloc (.cells #[.int .u32 16909060, .int .u16 53] 26)).cell? ⟨w.heap.size, 1, none⟩ = some (.int .u16 53) ∧ True) := ⟨(by (repeat' (first | with_reducible exact Below.refl _ _ | with_reducible refine Below.setCell ?_ (by first | exact Nat.le_refl _ | (dsimp only; omega)) _ | with_reducible refine bstep ?_ (fresh_below _ _) | with_reducible refine Below.drew ?_))), d0.at_ 0, d0.at_ 1, trivial⟩
  go_region_held_law (fun w' => (Below w.heap.size w w' ∧ w'.cell? ⟨w.heap.size, 0, none⟩ = some (.int .u32 16909060) ∧ w'.cell? ⟨w.heap.size, 1, none⟩ = some (.int .u16 53) ∧ True)) (first | assumption | exact SK.out _ _ hS0 (Below.refl _ _).drew | exact SK.out _ _ hS0 (fresh_below _ _).drew | exact SK.out _ _ (by assumption) (fresh_below _ _) | (refine SK.out _ _ ?_ (by assumption); assumption))
    (first | (go_at_call 102; (with_reducible refine (C1.out _ (HP.out.below (by first | exact FS.out _ (by assumption) | exact bstep (FS.out _ (by assumption)) (fresh_below _ _) | exact bstep (bstep (FS.out _ (by assumption)) (fresh_below _ _)) (fresh_below _ _)))).mono ?_); rintro e wq ⟨rfl, bq⟩) | (go_at_call 103; (with_reducible refine (C2.out _ (HP.out.below (by first | exact FS.out _ (by assumption) | exact bstep (FS.out _ (by assumption)) (fresh_below _ _) | exact bstep (bstep (FS.out _ (by assumption)) (fresh_below _ _)) (fresh_below _ _)))).mono ?_); rintro e wq ⟨rfl, bq⟩) | (go_at_call 103; (with_reducible refine (C3.out _ (HP.out.below (by first | exact FS.out _ (by assumption) | exact bstep (FS.out _ (by assumption)) (fresh_below _ _) | exact bstep (bstep (FS.out _ (by assumption)) (fresh_below _ _)) (fresh_below _ _)))).mono ?_); rintro e wq ⟨rfl, bq⟩))
  all_goals
    go_wp2
    go_ret
    exact ⟨by first | rfl | (rw [HE.out, HE2.out]) | (simp [HE.out, HE2.out]), (by first | exact FS.out _ (by assumption) | exact bstep (FS.out _ (by assumption)) (fresh_below _ _) | exact bstep (bstep (FS.out _ (by assumption)) (fresh_below _ _)) (fresh_below _ _))⟩

set_option maxRecDepth 100000 in
set_option maxHeartbeats 2000000 in
theorem may_a (w : World) (hW : Words w) : Calls Tryz.prog 53 #[.agg #[.int .u8 17, .int .u32 84281096, .int .u16 9000, .int .u32 16909060, .int .u16 53]] w (Ret (.bool true) w) := by
  obtain ⟨b, hb⟩ := (hW.below (fresh_below w (.cells #[.int .u8 17, .int .u32 84281096, .int .u16 9000, .int .u32 16909060, .int .u16 53] 33))).at_
  obtain ⟨h1, h2⟩ := hb.look
  have h3 := hb.1
  clear hW hb
  go_enter Tryz.func53, Tryz.ntmps53
  have d0 := Cells.new w #[.int .u8 17, .int .u32 84281096, .int .u16 9000, .int .u32 16909060, .int .u16 53] 33
  obtain ⟨xd0_0, xd0_1, xd0_2, xd0_3, xd0_4⟩ := d0.x5
  go_wp2_with fail
  go_ret
  exact ⟨rfl, (by (repeat' (first | with_reducible exact Below.refl _ _ | with_reducible refine Below.setCell ?_ (by first | exact Nat.le_refl _ | (dsimp only; omega)) _ | with_reducible refine bstep ?_ (fresh_below _ _) | with_reducible refine Below.drew ?_)))⟩

set_option maxRecDepth 100000 in
set_option maxHeartbeats 4000000 in
theorem tuple_text (w : World) (hT : Tabs w) : Calls Tryz.prog 27 #[.agg #[.int .u8 17, .int .u32 84281096, .int .u16 9000, .int .u32 16909060, .int .u16 53]] w (Ret (.string { data := #[117, 100, 112, 32, 53, 46, 54, 46, 55, 46, 56, 58, 57, 48, 48, 48, 32, 49, 46, 50, 46, 51, 46, 52, 58, 53, 51] }) w) := by
  have hj : (⟨(Lib.join (([{ data := #[117, 100, 112] }, { data := #[53, 46, 54, 46, 55, 46, 56, 58, 57, 48, 48, 48] }, { data := #[49, 46, 50, 46, 51, 46, 52, 58, 53, 51] }] : List ByteArray).map (·.data.toList)) ({ data := #[32] } : ByteArray).data.toList).toArray⟩ : ByteArray) = { data := #[117, 100, 112, 32, 53, 46, 54, 46, 55, 46, 56, 58, 57, 48, 48, 48, 32, 49, 46, 50, 46, 51, 46, 52, 58, 53, 51] } := by decide +kernel
  have c4 : ∀ (W : World) (g : Nat), Row W W.heap.size (some ⟨g, 0, none⟩) 3 [.string { data := #[117, 100, 112] }, .string { data := #[53, 46, 54, 46, 55, 46, 56, 58, 57, 48, 48, 48] }, .string { data := #[49, 46, 50, 46, 51, 46, 52, 58, 53, 51] }] → Calls Tryz.prog 54 #[.slice (some ⟨g, 0, none⟩) 3 3, .string { data := #[32] }] W (Ret (.string { data := #[117, 100, 112, 32, 53, 46, 54, 46, 55, 46, 56, 58, 57, 48, 48, 48, 32, 49, 46, 50, 46, 51, 46, 52, 58, 53, 51] }) W) := fun W g hr => by
    obtain ⟨b', o', he, hb, hc⟩ := hr.2 (by omega)
    injection he with he
    injection he with e1 e2 e3
    subst e1; subst e2
    have := Tryz.strings_Join g 0 3 ([{ data := #[117, 100, 112] }, { data := #[53, 46, 54, 46, 55, 46, 56, 58, 57, 48, 48, 48] }, { data := #[49, 46, 50, 46, 51, 46, 52, 58, 53, 51] }]) ({ data := #[32] }) W (fun j x hx => by
      refine hc j _ ?_
      have := congrArg (Option.map Value.string) hx
      rw [← List.getElem?_map] at this
      exact this) hb (by decide) (Nat.le_refl _) (by decide +kernel)
    rw [hj] at this
    exact this
  have c1 := fun W (h : Words W) => may_a W h
  have c2 := fun W (h : Pow W) => point_a W h
  have c3 := fun W (h : Pow W) => point_b W h
  obtain ⟨b, hb⟩ := hT.2.1.at_
  obtain ⟨-, hWo, hPo⟩ := hT
  have HW := hide hWo; have HPO := hide hPo; have HB := hide hb; have C1 := hide c1; have C2 := hide c2; have C3 := hide c3; have C4 := hide c4
  clear hWo hPo hb c1 c2 c3 c4 hj
  go_enter Tryz.func27, Tryz.ntmps27
  have d0 := Cells.new w #[.int .u8 17, .int .u32 84281096, .int .u16 9000, .int .u32 16909060, .int .u16 53] 33
  obtain ⟨xd0_0, xd0_1, xd0_2, xd0_3, xd0_4⟩ := d0.x5
  go_wp2_with fail
  (with_reducible refine (C1.out _ (HW.out.below (fresh_below _ _))).mono ?_)
  rintro e w1 ⟨rfl, b1⟩
  have d1 := Cells.below b1 d0
  replace b1 : Below w.heap.size w w1 := bstep (fresh_below _ _) b1
  have hw1 := HB.out.below b1
  clear xd0_0 xd0_1 xd0_2 xd0_3 xd0_4 d0
  go_wp2_with fail
  have SK := hide (fun (zX zY : World) (zh : (Below w.heap.size w zX ∧ World.cell? zX ⟨w.heap.size, 0, none⟩ = some (.int .u8 17) ∧ World.cell? zX ⟨w.heap.size, 1, none⟩ = some (.int .u32 84281096) ∧ World.cell? zX ⟨w.heap.size, 2, none⟩ = some (.int .u16 9000) ∧ World.cell? zX ⟨w.heap.size, 3, none⟩ = some (.int .u32 16909060) ∧ World.cell? zX ⟨w.heap.size, 4, none⟩ = some (.int .u16 53) ∧ World.cell? zX ⟨1, 0, none⟩ = some (.map (some b)) ∧ (Instr.lookup 116 (.map (some b)) (.int .u8 17) false).run Tryz.prog zX = .ok (.string { data := #[117, 100, 112] }) zX ∧ WordsAt b zX ∧ True)) (zb : Below zX.heap.size zX zY) => (show (Below w.heap.size w zY ∧ World.cell? zY ⟨w.heap.size, 0, none⟩ = some (.int .u8 17) ∧ World.cell? zY ⟨w.heap.size, 1, none⟩ = some (.int .u32 84281096) ∧ World.cell? zY ⟨w.heap.size, 2, none⟩ = some (.int .u16 9000) ∧ World.cell? zY ⟨w.heap.size, 3, none⟩ = some (.int .u32 16909060) ∧ World.cell? zY ⟨w.heap.size, 4, none⟩ = some (.int .u16 53) ∧ World.cell? zY ⟨1, 0, none⟩ = some (.map (some b)) ∧ (Instr.lookup 116 (.map (some b)) (.int .u8 17) false).run Tryz.prog zY = .ok (.string { data := #[117, 100, 112] }) zY ∧ WordsAt b zY ∧ True) from ⟨bstep zh.1 zb, cellAt zb zh.2.1, cellAt zb zh.2.2.1, cellAt zb zh.2.2.2.1, cellAt zb zh.2.2.2.2.1, cellAt zb zh.2.2.2.2.2.1, cellAt zb zh.2.2.2.2.2.2.1, (zh.2.2.2.2.2.2.2.2.1.below zb).look.1, zh.2.2.2.2.2.2.2.2.1.below zb, trivial⟩))
  have hS0 : (Below w.heap.size w w1 ∧ World.cell? w1 ⟨w.heap.size, 0, none⟩ = some (.int .u8 17) ∧ World.cell? w1 ⟨w.heap.size, 1, none⟩ = some (.int .u32 84281096) ∧ World.cell? w1 ⟨w.heap.size, 2, none⟩ = some (.int .u16 9000) ∧ World.cell? w1 ⟨w.heap.size, 3, none⟩ = some (.int .u32 16909060) ∧ World.cell? w1 ⟨w.heap.size, 4, none⟩ = some (.int .u16 53) ∧ World.cell? w1 ⟨1, 0, none⟩ = some (.map (some b)) ∧ (Instr.lookup 116 (.map (some b)) (.int .u8 17) false).run Tryz.prog w1 = .ok (.string { data := #[117, 100, 112] }) w1 ∧ WordsAt b w1 ∧ True) := ⟨b1, d1.at_ 0, d1.at_ 1, d1.at_ 2, d1.at_ 3, d1.at_ 4, hw1.1, hw1.look.1, hw1, trivial⟩
  have FS := hide (fun (zX : World) (zh : (Below w.heap.size w zX ∧ World.cell? zX ⟨w.heap.size, 0, none⟩ = some (.int .u8 17) ∧ World.cell? zX ⟨w.heap.size, 1, none⟩ = some (.int .u32 84281096) ∧ World.cell? zX ⟨w.heap.size, 2, none⟩ = some (.int .u16 9000) ∧ World.cell? zX ⟨w.heap.size, 3, none⟩ = some (.int .u32 16909060) ∧ World.cell? zX ⟨w.heap.size, 4, none⟩ = some (.int .u16 53) ∧ World.cell? zX ⟨1, 0, none⟩ = some (.map (some b)) ∧ (Instr.lookup 116 (.map (some b)) (.int .u8 17) false).run Tryz.prog zX = .ok (.string { data := #[117, 100, 112] }) zX ∧ WordsAt b zX ∧ True)) => zh.1)
  go_region_held_law (fun w' => (Below w.heap.size w w' ∧ World.cell? w' ⟨w.heap.size, 0, none⟩ = some (.int .u8 17) ∧ World.cell? w' ⟨w.heap.size, 1, none⟩ = some (.int .u32 84281096) ∧ World.cell? w' ⟨w.heap.size, 2, none⟩ = some (.int .u16 9000) ∧ World.cell? w' ⟨w.heap.size, 3, none⟩ = some (.int .u32 16909060) ∧ World.cell? w' ⟨w.heap.size, 4, none⟩ = some (.int .u16 53) ∧ World.cell? w' ⟨1, 0, none⟩ = some (.map (some b)) ∧ (Instr.lookup 116 (.map (some b)) (.int .u8 17) false).run Tryz.prog w' = .ok (.string { data := #[117, 100, 112] }) w' ∧ WordsAt b w' ∧ True)) (first | assumption | exact SK.out _ _ hS0 (Below.refl _ _).drew | exact SK.out _ _ hS0 (fresh_below _ _).drew | exact SK.out _ _ (by assumption) (fresh_below _ _) | (refine SK.out _ _ ?_ (by assumption); assumption))
    (first | (go_at_call 55; (with_reducible refine (C2.out _ (HPO.out.below (by first | exact FS.out _ (by assumption) | exact bstep (FS.out _ (by assumption)) (fresh_below _ _) | exact bstep (bstep (FS.out _ (by assumption)) (fresh_below _ _)) (fresh_below _ _)))).mono ?_); rintro e wq ⟨rfl, bq⟩) | (go_at_call 55; (with_reducible refine (C3.out _ (HPO.out.below (by first | exact FS.out _ (by assumption) | exact bstep (FS.out _ (by assumption)) (fresh_below _ _) | exact bstep (bstep (FS.out _ (by assumption)) (fresh_below _ _)) (fresh_below _ _)))).mono ?_); rintro e wq ⟨rfl, bq⟩) | (go_at_call 54; (with_reducible refine Calls.mono (C4.out _ _ ?_) ?_); (focus ((repeat' (first | with_reducible refine Row.afterdraw ?_ | with_reducible exact Row.freshAt _ _ _ _ _ _ (by first | (simp; done) | fail) rfl rfl | (with_reducible refine Row.rise ?_ (fresh_below _ _)) | (with_reducible refine Row.rise ?_ (by with_reducible assumption)))); (first | done | fail))); rintro e wq ⟨rfl, bq⟩))
  all_goals
    go_wp2
    go_ret
    exact ⟨rfl, (by first | exact FS.out _ (by assumption) | exact bstep (FS.out _ (by assumption)) (fresh_below _ _) | exact bstep (bstep (FS.out _ (by assumption)) (fresh_below _ _)) (fresh_below _ _))⟩
end Go.Proofs.YtjeaknipmdfkdaaGreatDoor
end
