/- Several texts of this claim, one behind the other. -/
import Derived.Shelf.Strings.OnBuilder
import Derived.Shelf.Strings.Trim
import Derived.Shelf.LaysM
import Derived.Shelf.Strconv.Itoa3
import Derived.Test.YtpidgmamollmgaaGreatDoorProg
import Derived.Test.YtpidgmamollmgaaGreatDoorM25
import Derived.Test.YtpidgmamollmgaaGreatDoorM4
import Derived.Test.YtpidgmamollmgaaGreatDoorM6
import Derived.Lib.AppendIntMem
import Derived.Deep.RegionHeldLaw
import Derived.Deep.RegionHeld3

section
/- Contracts of Go's library at this program's numbers: laid by a tool of the kit. -/
namespace Go.Proofs
open Go.Shelf
def Tryz.lays156_ren : Go.Shelf.Ren := ⟨fun | 156 => 31 | 165 => 83 | 166 => 84 | 169 => 85 | 240 => 116 | 241 => 117 | 276 => 128 | 277 => 129 | n => n, fun | 31 => 63 | 9 => 9 | 3 => 3 | 4 => 4 | 0 => 0 | 20 => 20 | 72 => 136 | 76 => 140 | 70 => 134 | 37 => 86 | 75 => 139 | 127 => 171 | 164 => 179 | 5 => 5 | 80 => 88 | n => n, fun | n => n⟩
theorem Tryz.lays156 : Go.Proofs.Lays.n156 Tryz.prog Tryz.lays156_ren := {
  mixed := by kernel_rfl
  f156 := Tryz.func31.trans (congrArg some (by kernel_rfl))
  f165 := Tryz.func83.trans (congrArg some (by kernel_rfl))
  f166 := Tryz.func84.trans (congrArg some (by kernel_rfl))
  f169 := Tryz.func85.trans (congrArg some (by kernel_rfl))
  f240 := Tryz.func116.trans (congrArg some (by kernel_rfl))
  f241 := Tryz.func117.trans (congrArg some (by kernel_rfl))
  f276 := Tryz.func128.trans (congrArg some (by kernel_rfl))
  f277 := Tryz.func129.trans (congrArg some (by kernel_rfl))
  t0 := Tryz.underlying0
  a0 := Tryz.isAgg0
  z0 := Tryz.sizeOf0
  v0 := Tryz.zeroValue0
  t3 := Tryz.underlying3
  a3 := Tryz.isAgg3
  z3 := Tryz.sizeOf3
  v3 := Tryz.zeroValue3
  t4 := Tryz.underlying4
  a4 := Tryz.isAgg4
  z4 := Tryz.sizeOf4
  v4 := Tryz.zeroValue4
  t9 := Tryz.underlying9
  a9 := Tryz.isAgg9
  z9 := Tryz.sizeOf9
  v9 := Tryz.zeroValue9
  t20 := Tryz.underlying20
  a20 := Tryz.isAgg20
  z20 := Tryz.sizeOf20
  v20 := Tryz.zeroValue20
  t31 := Tryz.underlying63
  a31 := Tryz.isAgg63
  z31 := Tryz.sizeOf63
  v31 := Tryz.zeroValue63
  t37 := Tryz.underlying86
  a37 := Tryz.isAgg86
  z37 := Tryz.sizeOf86
  v37 := Tryz.zeroValue86
  t70 := Tryz.underlying134
  a70 := Tryz.isAgg134
  z70 := Tryz.sizeOf134
  v70 := Tryz.zeroValue134
  t72 := Tryz.underlying136
  a72 := Tryz.isAgg136
  z72 := Tryz.sizeOf136
  v72 := Tryz.zeroValue136
  t75 := Tryz.underlying139
  a75 := Tryz.isAgg139
  z75 := Tryz.sizeOf139
  v75 := Tryz.zeroValue139
  t76 := Tryz.underlying140
  a76 := Tryz.isAgg140
  z76 := Tryz.sizeOf140
  v76 := Tryz.zeroValue140
  t127 := Tryz.underlying171
  a127 := Tryz.isAgg171
  z127 := Tryz.sizeOf171
  v127 := Tryz.zeroValue171
  t164 := Tryz.underlying179
  a164 := Tryz.isAgg179
  z164 := Tryz.sizeOf179
  v164 := Tryz.zeroValue179 }
theorem Tryz.Builder_Extra_156 : Builder.Extra Tryz.prog Tryz.lays156_ren := {
  sizeBuilder := by kernel_rfl
  liesBuilder := by kernel_rfl
  t5 := Tryz.underlying5
  a5 := Tryz.isAgg5
  z5 := Tryz.sizeOf5
  v5 := Tryz.zeroValue5
  infoByte := by kernel_rfl
  cellsByte := by kernel_rfl
  sizeByte := by kernel_rfl
  neB5 := by decide }
open Go.RowKit in
/-- strings.Join: "Join concatenates the elements of its first argument to create a single string. The separator string sep is placed between elements in the resulting string.": HOWEVER MANY ELEMENTS. Below the heap's end the world is as it was. (LAID: no walk: one application.) -/
theorem Tryz.strings_Join (bk o c : Nat) (xs : List ByteArray) (sep : ByteArray) (w : World) (hcells : ∀ (j : Nat) x, xs[j]? = some x → w.cell? ⟨bk, o + j, none⟩ = some (.string x)) (hbk : bk < w.heap.size) (hN : xs.length ≤ 140737488355328) (hcap : xs.length ≤ c) (hlen : (Lib.join (xs.map (·.data.toList)) sep.data.toList).length ≤ 140737488355328) :
    Calls Tryz.prog 31 #[.slice (some ⟨bk, o, none⟩) xs.length c, .string sep] w fun e w' => e = .returned (.string ⟨(Lib.join (xs.map (·.data.toList)) sep.data.toList).toArray⟩) ∧ Below w.heap.size w w' := Any.strings_Join Tryz.lays156 Tryz.Builder_Extra_156 bk o c xs sep w hcells hbk hN hcap hlen
def Tryz.lays160_ren : Go.Shelf.Ren := ⟨fun | 160 => 23 | 232 => 62 | 231 => 61 | 227 => 63 | 234 => 65 | 233 => 64 | 236 => 67 | 235 => 66 | 228 => 104 | 271 => 107 | 151 => 106 | 197 => 105 | 120 => 126 | 152 => 125 | 260 => 124 | 137 => 131 | 119 => 132 | 224 => 133 | 225 => 134 | 217 => 139 | 266 => 145 | n => n, fun | 9 => 9 | 4 => 4 | 3 => 3 | 5 => 5 | 117 => 119 | 116 => 118 | 0 => 0 | 124 => 122 | 21 => 21 | 105 => 154 | 46 => 80 | 119 => 183 | 139 => 186 | 138 => 185 | n => n, fun | 3 => 2 | 4 => 3 | n => n⟩
theorem Tryz.lays160 : Go.Proofs.Lays.n160 Tryz.prog Tryz.lays160_ren := {
  mixed := by kernel_rfl
  f119 := Tryz.func132.trans (congrArg some (by kernel_rfl))
  f120 := Tryz.func126.trans (congrArg some (by kernel_rfl))
  f137 := Tryz.func131.trans (congrArg some (by kernel_rfl))
  f151 := Tryz.func106.trans (congrArg some (by kernel_rfl))
  f152 := Tryz.func125.trans (congrArg some (by kernel_rfl))
  f160 := Tryz.func23.trans (congrArg some (by kernel_rfl))
  f197 := Tryz.func105.trans (congrArg some (by kernel_rfl))
  f217 := Tryz.func139.trans (congrArg some (by kernel_rfl))
  f224 := Tryz.func133.trans (congrArg some (by kernel_rfl))
  f225 := Tryz.func134.trans (congrArg some (by kernel_rfl))
  f227 := Tryz.func63.trans (congrArg some (by kernel_rfl))
  f228 := Tryz.func104.trans (congrArg some (by kernel_rfl))
  f231 := Tryz.func61.trans (congrArg some (by kernel_rfl))
  f232 := Tryz.func62.trans (congrArg some (by kernel_rfl))
  f233 := Tryz.func64.trans (congrArg some (by kernel_rfl))
  f234 := Tryz.func65.trans (congrArg some (by kernel_rfl))
  f235 := Tryz.func66.trans (congrArg some (by kernel_rfl))
  f236 := Tryz.func67.trans (congrArg some (by kernel_rfl))
  f260 := Tryz.func124.trans (congrArg some (by kernel_rfl))
  f266 := Tryz.func145.trans (congrArg some (by kernel_rfl))
  f271 := Tryz.func107.trans (congrArg some (by kernel_rfl))
  t0 := Tryz.underlying0
  a0 := Tryz.isAgg0
  z0 := Tryz.sizeOf0
  v0 := Tryz.zeroValue0
  t3 := Tryz.underlying3
  a3 := Tryz.isAgg3
  z3 := Tryz.sizeOf3
  v3 := Tryz.zeroValue3
  t4 := Tryz.underlying4
  a4 := Tryz.isAgg4
  z4 := Tryz.sizeOf4
  v4 := Tryz.zeroValue4
  t5 := Tryz.underlying5
  a5 := Tryz.isAgg5
  z5 := Tryz.sizeOf5
  v5 := Tryz.zeroValue5
  t9 := Tryz.underlying9
  a9 := Tryz.isAgg9
  z9 := Tryz.sizeOf9
  v9 := Tryz.zeroValue9
  t21 := Tryz.underlying21
  a21 := Tryz.isAgg21
  z21 := Tryz.sizeOf21
  v21 := Tryz.zeroValue21
  t46 := Tryz.underlying80
  a46 := Tryz.isAgg80
  z46 := Tryz.sizeOf80
  v46 := Tryz.zeroValue80
  t105 := Tryz.underlying154
  a105 := Tryz.isAgg154
  z105 := Tryz.sizeOf154
  v105 := Tryz.zeroValue154
  t116 := Tryz.underlying118
  a116 := Tryz.isAgg118
  z116 := Tryz.sizeOf118
  t117 := Tryz.underlying119
  a117 := Tryz.isAgg119
  z117 := Tryz.sizeOf119
  v117 := Tryz.zeroValue119
  t119 := Tryz.underlying183
  a119 := Tryz.isAgg183
  z119 := Tryz.sizeOf183
  t124 := Tryz.underlying122
  a124 := Tryz.isAgg122
  z124 := Tryz.sizeOf122
  v124 := Tryz.zeroValue122
  t138 := Tryz.underlying185
  a138 := Tryz.isAgg185
  z138 := Tryz.sizeOf185
  v138 := Tryz.zeroValue185
  t139 := Tryz.underlying186
  a139 := Tryz.isAgg186
  z139 := Tryz.sizeOf186
  v139 := Tryz.zeroValue186
  g3 := by kernel_rfl
  g4 := by kernel_rfl }
open Go.RowKit in
/-- strings.Trim: "Trim returns a slice of the string s with all leading and trailing Unicode code points contained in cutset removed.": AT A cutset OF ONE ASCII BYTE. THE WORLD BEHIND IT: as it was, or (where s is not empty) with ONE DRAW MORE off the tape: the statement 'return trimLeftByte(trimRightByte(s, c), c)' draws its order of evaluation. (LAID: no walk: one application.) -/
theorem Tryz.strings_Trim_one (s : ByteArray) (c : UInt8) (hc : c.toNat < 128) (w : World) (hs : s.size ≤ 9223372036854775807) :
    Calls Tryz.prog 23 #[.string s, .string ⟨#[c]⟩] w fun e w' => e = .returned (.string ⟨(Lib.trimB s.data.toList c).toArray⟩) ∧ (w' = w ∨ w' = w.drew) := Any.strings_Trim_one Tryz.lays160 s c hc w hs
def Tryz.laysM171_ren : Go.Shelf.Ren := ⟨fun | 171 => 87 | 243 => 118 | 246 => 130 | 283 => 135 | 284 => 136 | 285 => 137 | 286 => 138 | 129 => 141 | 317 => 140 | 318 => 142 | 319 => 143 | 320 => 144 | 337 => 146 | 338 => 147 | n => n, fun | 3 => 3 | 9 => 9 | 2 => 2 | 4 => 4 | 171 => 192 | 0 => 0 | 53 => 193 | 37 => 86 | 5 => 5 | 173 => 196 | 212 => 199 | 51 => 22 | 20 => 20 | 213 => 200 | 46 => 80 | 232 => 204 | 233 => 205 | n => n, fun | 17 => 5 | 18 => 6 | 19 => 7 | n => n⟩
theorem Tryz.laysM171 : Go.Proofs.LaysM.n171 Tryz.prog Tryz.laysM171_ren := {
  mixed := by kernel_rfl
  f129 := Tryz.func141.trans (congrArg some (by kernel_rfl))
  f171 := Tryz.func87.trans (congrArg some (by kernel_rfl))
  f243 := Tryz.func118.trans (congrArg some (by kernel_rfl))
  f246 := Tryz.func130.trans (congrArg some (by kernel_rfl))
  f283 := Tryz.func135.trans (congrArg some (by kernel_rfl))
  f284 := Tryz.func136.trans (congrArg some (by kernel_rfl))
  f285 := Tryz.func137.trans (congrArg some (by kernel_rfl))
  f286 := Tryz.func138.trans (congrArg some (by kernel_rfl))
  f317 := Tryz.func140.trans (congrArg some (by kernel_rfl))
  f318 := Tryz.func142.trans (congrArg some (by kernel_rfl))
  f319 := Tryz.func143.trans (congrArg some (by kernel_rfl))
  f320 := Tryz.func144.trans (congrArg some (by kernel_rfl))
  f337 := Tryz.func146.trans (congrArg some (by kernel_rfl))
  f338 := Tryz.func147.trans (congrArg some (by kernel_rfl))
  t0 := Tryz.underlying0
  a0 := Tryz.isAgg0
  z0 := Tryz.sizeOf0
  v0 := Tryz.zeroValue0
  t2 := Tryz.underlying2
  a2 := Tryz.isAgg2
  z2 := Tryz.sizeOf2
  v2 := Tryz.zeroValue2
  t3 := Tryz.underlying3
  a3 := Tryz.isAgg3
  z3 := Tryz.sizeOf3
  v3 := Tryz.zeroValue3
  t4 := Tryz.underlying4
  a4 := Tryz.isAgg4
  z4 := Tryz.sizeOf4
  v4 := Tryz.zeroValue4
  t5 := Tryz.underlying5
  a5 := Tryz.isAgg5
  z5 := Tryz.sizeOf5
  v5 := Tryz.zeroValue5
  t9 := Tryz.underlying9
  a9 := Tryz.isAgg9
  z9 := Tryz.sizeOf9
  v9 := Tryz.zeroValue9
  t20 := Tryz.underlying20
  a20 := Tryz.isAgg20
  z20 := Tryz.sizeOf20
  v20 := Tryz.zeroValue20
  t37 := Tryz.underlying86
  a37 := Tryz.isAgg86
  z37 := Tryz.sizeOf86
  v37 := Tryz.zeroValue86
  t46 := Tryz.underlying80
  a46 := Tryz.isAgg80
  z46 := Tryz.sizeOf80
  v46 := Tryz.zeroValue80
  t51 := Tryz.underlying22
  a51 := Tryz.isAgg22
  z51 := Tryz.sizeOf22
  v51 := Tryz.zeroValue22
  t53 := Tryz.underlying193
  a53 := Tryz.isAgg193
  z53 := Tryz.sizeOf193
  v53 := Tryz.zeroValue193
  t171 := Tryz.underlying192
  a171 := Tryz.isAgg192
  z171 := Tryz.sizeOf192
  v171 := Tryz.zeroValue192
  t173 := Tryz.underlying196
  a173 := Tryz.isAgg196
  z173 := Tryz.sizeOf196
  v173 := Tryz.zeroValue196
  t212 := Tryz.underlying199
  a212 := Tryz.isAgg199
  z212 := Tryz.sizeOf199
  v212 := Tryz.zeroValue199
  t213 := Tryz.underlying200
  a213 := Tryz.isAgg200
  z213 := Tryz.sizeOf200
  t232 := Tryz.underlying204
  a232 := Tryz.isAgg204
  z232 := Tryz.sizeOf204
  v232 := Tryz.zeroValue204
  t233 := Tryz.underlying205
  a233 := Tryz.isAgg205
  z233 := Tryz.sizeOf205
  v233 := Tryz.zeroValue205
  g17 := by kernel_rfl
  g18 := by kernel_rfl
  g19 := by kernel_rfl
  i0 := by kernel_rfl
  i2 := by kernel_rfl
  i3 := by kernel_rfl
  i4 := by kernel_rfl
  i5 := by kernel_rfl
  i9 := by kernel_rfl
  i20 := by kernel_rfl
  i37 := by kernel_rfl
  i46 := by kernel_rfl
  i51 := by kernel_rfl
  i53 := by kernel_rfl
  i171 := by kernel_rfl
  i173 := by kernel_rfl
  i212 := by kernel_rfl
  i232 := by kernel_rfl
  i233 := by kernel_rfl
  m17 := by kernel_rfl
  m18 := by kernel_rfl
  m19 := by kernel_rfl }
open Go.RowKit Go.Sort Go.Lib in
/-- strconv.Itoa: "Itoa is equivalent to FormatInt(int64(i), 10).": i's DECIMAL NUMERAL ('Lib.itoa': a '-' where i is negative, then the digits), FOR EVERY int. The world behind the call: the world before it, new blocks behind the heap (the library's 'var a [24]byte'), draws. (LAID: no walk: one application.) -/
theorem Tryz.strconv_Itoa (n : Int) (h0 : -9223372036854775808 ≤ n) (h1 : n ≤ 9223372036854775807) (w : World) (htab : Lib.TabIs Tryz.prog w "internal/strconv.uint64pow10" .u64 Lib.pow10Tab) :
    Calls Tryz.prog 87 #[.int .i64 n] w fun e w' => e = .returned (.string ⟨(Lib.itoa n).toArray⟩) ∧ ∃ k os, w' = grow (w.drewN k) os := Any.strconv_Itoa Tryz.laysM171 n h0 h1 w htab
end Go.Proofs
end

section
/- Addresses, endpoints and a tuple as texts: at the chapter's example. -/
set_option linter.unusedVariables false
set_option linter.unusedSimpArgs false
namespace Go.Proofs.YtpidgmamollmgaaGreatDoor
open Go.RowKit
attribute [local go_sem] Oper.semAt_some

theorem Itoa_ret (n : Int) (t : ByteArray) (w : World) (h0 : 0 ≤ n) (h1 : n ≤ 9223372036854775807) (hP : Pow w) (ht : (⟨(Lib.itoa n).toArray⟩ : ByteArray) = t) :
    Calls Tryz.prog 87 #[.int .i64 n] w (Ret (.string t) w) := by
  subst ht
  exact (Tryz.strconv_Itoa n (by omega) h1 w hP).mono fun e w' h => ⟨h.1, by obtain ⟨k, os, rfl⟩ := h.2; exact Lib.below_grow _ w (Nat.le_refl _) k os⟩
theorem owns_at {w : World} {base e : Nat} {v : Value} {n : Nat} {xs : List Value} (h : w.ownsRow base e 1 v n xs) (hn : 0 < n) : ∃ g c, v = .slice (some ⟨g, 0, none⟩) n c := by
  rcases h.2 with ⟨_, h0⟩ | ⟨g, cap, cur, hv, _⟩
  · omega
  · exact ⟨_, _, hv⟩

theorem grown_of {w w' : World} (h : Below w.heap.size w w') : w.grownBy w' none := ⟨h.os, h.tape, h.output, h.size, fun k hk _ => h.block k hk⟩
theorem owns_block {w : World} {base e : Nat} {v : Value} {n : Nat} {xs : List Value} (h : w.ownsRow base e 1 v n xs) : ∀ k, v.ownBlock = some k → base ≤ k := by
  intro k hk
  rcases h.2 with ⟨rfl, _⟩ | ⟨g, cap, cur, rfl, hb, _⟩
  · simp [Value.ownBlock] at hk
  · simp [Value.ownBlock] at hk; omega
theorem owns_cap {w : World} {base e g c : Nat} {n : Nat} {xs : List Value} (h : w.ownsRow base e 1 (.slice (some ⟨g, 0, none⟩) n c) n xs) : n ≤ c ∧ g < w.heap.size := by
  rcases h.2 with ⟨hv, _⟩ | ⟨g', cap, cur, hv, hb, hc, hn, _⟩
  · cases hv
  · injection hv with q1 q2 q3
    injection q1 with q1
    injection q1 with q1
    subst q1; subst q3
    exact ⟨hn, (Array.getElem?_eq_some_iff.1 hc).1⟩

/-- the texts of an address's bytes -/
def text_a_parts : List Value := [.string { data := #[53] }, .string { data := #[54] }, .string { data := #[55] }, .string { data := #[56] }]
set_option maxRecDepth 100000 in
set_option maxHeartbeats 4000000 in
theorem text_a (w : World) (hP : Pow w) : Calls Tryz.prog 86 #[.int .u32 84281096] w (Ret (.string { data := #[53, 46, 54, 46, 55, 46, 56] }) w) := by
  have hj : (⟨(Lib.join (([{ data := #[53] }, { data := #[54] }, { data := #[55] }, { data := #[56] }] : List ByteArray).map (·.data.toList)) ({ data := #[46] } : ByteArray).data.toList).toArray⟩ : ByteArray) = { data := #[53, 46, 54, 46, 55, 46, 56] } := by decide +kernel
  have y0 : wrap64 (bits .and .u32 5 255) = 5 := by decide +kernel
  have c0 := fun W (h : Pow W) => Itoa_ret 5 ({ data := #[53] }) W (by decide) (by decide) h (by decide +kernel)
  have y1 : wrap64 (bits .and .u32 1286 255) = 6 := by decide +kernel
  have c1 := fun W (h : Pow W) => Itoa_ret 6 ({ data := #[54] }) W (by decide) (by decide) h (by decide +kernel)
  have y2 : wrap64 (bits .and .u32 329223 255) = 7 := by decide +kernel
  have c2 := fun W (h : Pow W) => Itoa_ret 7 ({ data := #[55] }) W (by decide) (by decide) h (by decide +kernel)
  have y3 : wrap64 (bits .and .u32 84281096 255) = 8 := by decide +kernel
  have c3 := fun W (h : Pow W) => Itoa_ret 8 ({ data := #[56] }) W (by decide) (by decide) h (by decide +kernel)
  have c4 : ∀ (W : World) (g cap : Nat), (∀ (j : Nat) x, ([{ data := #[53] }, { data := #[54] }, { data := #[55] }, { data := #[56] }] : List ByteArray)[j]? = some x → W.cell? ⟨g, 0 + j, none⟩ = some (.string x)) → g < W.heap.size → 4 ≤ cap → Calls Tryz.prog 31 #[.slice (some ⟨g, 0, none⟩) 4 cap, .string { data := #[46] }] W (Ret (.string { data := #[53, 46, 54, 46, 55, 46, 56] }) W) := fun W g cap h1 h2 h3 => by
    have := Tryz.strings_Join g 0 cap ([{ data := #[53] }, { data := #[54] }, { data := #[55] }, { data := #[56] }]) ({ data := #[46] }) W h1 h2 (by decide) h3 (by decide +kernel)
    rw [hj] at this
    exact this
  have HP := hide hP; have C4 := hide c4
  have C0 := hide c0; have C1 := hide c1; have C2 := hide c2; have C3 := hide c3
  clear hP hj c0 c1 c2 c3 c4
  have infoStr : (Tryz.prog.info? 9).map (fun i => (i.zero, i.size, i.bytes)) = some (some (.string { data := #[] }), 1, 16) := by kernel_rfl
  obtain ⟨i0, hi, hz0, hz1, hz2⟩ := info_parts infoStr
  go_enter Tryz.func86, Tryz.ntmps86
  go_wp2
  go_loopw [3, 4] (fun v i wr => ∃ k : Nat, k ≤ 4 ∧ i = .int .i64 (24 - 8 * (k : Int)) ∧ wr.ownsRow w.heap.size 9 1 v k (text_a_parts.take k) ∧ Below w.heap.size w wr) (fun _ i _ => (intOf i + 8).toNat)
  case atStart => exact ⟨0, by omega, rfl, ⟨rfl, .inl ⟨rfl, rfl⟩⟩, Below.refl _ _⟩
  case round =>
    obtain ⟨k, hk, rfl, hown, hbel⟩ := hrel
    have hcase : k = 0 ∨ k = 1 ∨ k = 2 ∨ k = 3 ∨ k = 4 := by omega
    rcases hcase with rfl | rfl | rfl | rfl | rfl
    · have HO := hide hown
      clear hown
      go_wp2_with fail
      (with_reducible refine (C0.out _ (HP.out.below hbel)).mono ?_)
      rintro e w1 ⟨rfl, b1⟩
      have hown1 := HO.out.kept (grown_of b1) (Classical.em _)
      have hb1 : Below w.heap.size w w1 := bstep hbel b1
      clear b1 HO
      have hown2 := hown1.alloc (.cells #[.string ({ data := #[53] })] 9)
      have hbase : w.heap.size ≤ w1.heap.size := hb1.size
      go_wp2_with (at_builtin; refine wpList_append_own _ rfl _ _ 63 rfl w.heap.size 9 i0 (.string { data := #[] }) 1 16 Tryz.underlying63 hi hz0 hz1 hz2 rfl (by decide) _ 0 (text_a_parts.take 0) rfl hown2 ⟨w1.heap.size, 0, none⟩ 1 1 [.string ({ data := #[53] })] rfl rfl ?q1 ?q2 ?q3 ?q4 ?q5 ?_)
      case q1 =>
        intro j u hj
        match j, hj with
        | 0, hj => simp at hj; subst hj; simp [Addr.add]
      case q2 => intro u hu; simp at hu; subst hu; rfl
      case q3 => unfold maxLen; omega
      case q4 => omega
      case q5 => simp; omega
      intro v' w2 hown hgrow _
      have hb2 : Below w.heap.size w w2 := (bstep hb1 (fresh_below w1 (.cells #[.string ({ data := #[53] })] 9))).grown hgrow (by simp; omega) (owns_block hown2)
      go_wp2_with fail
      go_roundw
      case rel => exact ⟨1, by omega, by go_num, hown, hb2⟩
      case measure => simp [intOf]
    · have HO := hide hown
      clear hown
      go_wp2_with fail
      (with_reducible refine (C1.out _ (HP.out.below hbel)).mono ?_)
      rintro e w1 ⟨rfl, b1⟩
      have hown1 := HO.out.kept (grown_of b1) (Classical.em _)
      have hb1 : Below w.heap.size w w1 := bstep hbel b1
      clear b1 HO
      have hown2 := hown1.alloc (.cells #[.string ({ data := #[54] })] 9)
      have hbase : w.heap.size ≤ w1.heap.size := hb1.size
      go_wp2_with (at_builtin; refine wpList_append_own _ rfl _ _ 63 rfl w.heap.size 9 i0 (.string { data := #[] }) 1 16 Tryz.underlying63 hi hz0 hz1 hz2 rfl (by decide) _ 1 (text_a_parts.take 1) rfl hown2 ⟨w1.heap.size, 0, none⟩ 1 1 [.string ({ data := #[54] })] rfl rfl ?q1 ?q2 ?q3 ?q4 ?q5 ?_)
      case q1 =>
        intro j u hj
        match j, hj with
        | 0, hj => simp at hj; subst hj; simp [Addr.add]
      case q2 => intro u hu; simp at hu; subst hu; rfl
      case q3 => unfold maxLen; omega
      case q4 => omega
      case q5 => simp; omega
      intro v' w2 hown hgrow _
      have hb2 : Below w.heap.size w w2 := (bstep hb1 (fresh_below w1 (.cells #[.string ({ data := #[54] })] 9))).grown hgrow (by simp; omega) (owns_block hown2)
      go_wp2_with fail
      go_roundw
      case rel => exact ⟨2, by omega, by go_num, hown, hb2⟩
      case measure => simp [intOf]
    · have HO := hide hown
      clear hown
      go_wp2_with fail
      (with_reducible refine (C2.out _ (HP.out.below hbel)).mono ?_)
      rintro e w1 ⟨rfl, b1⟩
      have hown1 := HO.out.kept (grown_of b1) (Classical.em _)
      have hb1 : Below w.heap.size w w1 := bstep hbel b1
      clear b1 HO
      have hown2 := hown1.alloc (.cells #[.string ({ data := #[55] })] 9)
      have hbase : w.heap.size ≤ w1.heap.size := hb1.size
      go_wp2_with (at_builtin; refine wpList_append_own _ rfl _ _ 63 rfl w.heap.size 9 i0 (.string { data := #[] }) 1 16 Tryz.underlying63 hi hz0 hz1 hz2 rfl (by decide) _ 2 (text_a_parts.take 2) rfl hown2 ⟨w1.heap.size, 0, none⟩ 1 1 [.string ({ data := #[55] })] rfl rfl ?q1 ?q2 ?q3 ?q4 ?q5 ?_)
      case q1 =>
        intro j u hj
        match j, hj with
        | 0, hj => simp at hj; subst hj; simp [Addr.add]
      case q2 => intro u hu; simp at hu; subst hu; rfl
      case q3 => unfold maxLen; omega
      case q4 => omega
      case q5 => simp; omega
      intro v' w2 hown hgrow _
      have hb2 : Below w.heap.size w w2 := (bstep hb1 (fresh_below w1 (.cells #[.string ({ data := #[55] })] 9))).grown hgrow (by simp; omega) (owns_block hown2)
      go_wp2_with fail
      go_roundw
      case rel => exact ⟨3, by omega, by go_num, hown, hb2⟩
      case measure => simp [intOf]
    · have HO := hide hown
      clear hown
      go_wp2_with fail
      (with_reducible refine (C3.out _ (HP.out.below hbel)).mono ?_)
      rintro e w1 ⟨rfl, b1⟩
      have hown1 := HO.out.kept (grown_of b1) (Classical.em _)
      have hb1 : Below w.heap.size w w1 := bstep hbel b1
      clear b1 HO
      have hown2 := hown1.alloc (.cells #[.string ({ data := #[56] })] 9)
      have hbase : w.heap.size ≤ w1.heap.size := hb1.size
      go_wp2_with (at_builtin; refine wpList_append_own _ rfl _ _ 63 rfl w.heap.size 9 i0 (.string { data := #[] }) 1 16 Tryz.underlying63 hi hz0 hz1 hz2 rfl (by decide) _ 3 (text_a_parts.take 3) rfl hown2 ⟨w1.heap.size, 0, none⟩ 1 1 [.string ({ data := #[56] })] rfl rfl ?q1 ?q2 ?q3 ?q4 ?q5 ?_)
      case q1 =>
        intro j u hj
        match j, hj with
        | 0, hj => simp at hj; subst hj; simp [Addr.add]
      case q2 => intro u hu; simp at hu; subst hu; rfl
      case q3 => unfold maxLen; omega
      case q4 => omega
      case q5 => simp; omega
      intro v' w2 hown hgrow _
      have hb2 : Below w.heap.size w w2 := (bstep hb1 (fresh_below w1 (.cells #[.string ({ data := #[56] })] 9))).grown hgrow (by simp; omega) (owns_block hown2)
      go_wp2_with fail
      go_roundw
      case rel => exact ⟨4, by omega, by go_num, hown, hb2⟩
      case measure => simp [intOf]
    · obtain ⟨g, cap, rfl⟩ := owns_at hown (by omega)
      obtain ⟨hcap, hg⟩ := owns_cap hown
      have hrow := row_of_owns hown
      have hcs : ∀ (j : Nat) x, ([{ data := #[53] }, { data := #[54] }, { data := #[55] }, { data := #[56] }] : List ByteArray)[j]? = some x → wr.cell? ⟨g, 0 + j, none⟩ = some (.string x) := by
        intro j x hx
        obtain ⟨b', o', he, hb, hc⟩ := hrow.2 (by omega)
        injection he with he
        injection he with e1 e2 e3
        subst e1; subst e2
        refine hc j _ ?_
        have := congrArg (Option.map Value.string) hx
        rw [← List.getElem?_map] at this
        exact this
      have c5 := C4.out wr g cap hcs hg hcap
      have C5 := hide c5
      clear hcs hrow hown c5 hcap hg
      go_wp2_with fail
      (with_reducible refine (C5.out).mono ?_)
      rintro e w1 ⟨rfl, b1⟩
      replace b1 : Below w.heap.size w w1 := bstep hbel b1
      go_wp2_with fail
      go_ret
      exact ⟨rfl, b1⟩

/-- the texts of an address's bytes -/
def text_b_parts : List Value := [.string { data := #[49] }, .string { data := #[50] }, .string { data := #[51] }, .string { data := #[52] }]
set_option maxRecDepth 100000 in
set_option maxHeartbeats 4000000 in
theorem text_b (w : World) (hP : Pow w) : Calls Tryz.prog 86 #[.int .u32 16909060] w (Ret (.string { data := #[49, 46, 50, 46, 51, 46, 52] }) w) := by
  have hj : (⟨(Lib.join (([{ data := #[49] }, { data := #[50] }, { data := #[51] }, { data := #[52] }] : List ByteArray).map (·.data.toList)) ({ data := #[46] } : ByteArray).data.toList).toArray⟩ : ByteArray) = { data := #[49, 46, 50, 46, 51, 46, 52] } := by decide +kernel
  have y0 : wrap64 (bits .and .u32 1 255) = 1 := by decide +kernel
  have c0 := fun W (h : Pow W) => Itoa_ret 1 ({ data := #[49] }) W (by decide) (by decide) h (by decide +kernel)
  have y1 : wrap64 (bits .and .u32 258 255) = 2 := by decide +kernel
  have c1 := fun W (h : Pow W) => Itoa_ret 2 ({ data := #[50] }) W (by decide) (by decide) h (by decide +kernel)
  have y2 : wrap64 (bits .and .u32 66051 255) = 3 := by decide +kernel
  have c2 := fun W (h : Pow W) => Itoa_ret 3 ({ data := #[51] }) W (by decide) (by decide) h (by decide +kernel)
  have y3 : wrap64 (bits .and .u32 16909060 255) = 4 := by decide +kernel
  have c3 := fun W (h : Pow W) => Itoa_ret 4 ({ data := #[52] }) W (by decide) (by decide) h (by decide +kernel)
  have c4 : ∀ (W : World) (g cap : Nat), (∀ (j : Nat) x, ([{ data := #[49] }, { data := #[50] }, { data := #[51] }, { data := #[52] }] : List ByteArray)[j]? = some x → W.cell? ⟨g, 0 + j, none⟩ = some (.string x)) → g < W.heap.size → 4 ≤ cap → Calls Tryz.prog 31 #[.slice (some ⟨g, 0, none⟩) 4 cap, .string { data := #[46] }] W (Ret (.string { data := #[49, 46, 50, 46, 51, 46, 52] }) W) := fun W g cap h1 h2 h3 => by
    have := Tryz.strings_Join g 0 cap ([{ data := #[49] }, { data := #[50] }, { data := #[51] }, { data := #[52] }]) ({ data := #[46] }) W h1 h2 (by decide) h3 (by decide +kernel)
    rw [hj] at this
    exact this
  have HP := hide hP; have C4 := hide c4
  have C0 := hide c0; have C1 := hide c1; have C2 := hide c2; have C3 := hide c3
  clear hP hj c0 c1 c2 c3 c4
  have infoStr : (Tryz.prog.info? 9).map (fun i => (i.zero, i.size, i.bytes)) = some (some (.string { data := #[] }), 1, 16) := by kernel_rfl
  obtain ⟨i0, hi, hz0, hz1, hz2⟩ := info_parts infoStr
  go_enter Tryz.func86, Tryz.ntmps86
  go_wp2
  go_loopw [3, 4] (fun v i wr => ∃ k : Nat, k ≤ 4 ∧ i = .int .i64 (24 - 8 * (k : Int)) ∧ wr.ownsRow w.heap.size 9 1 v k (text_b_parts.take k) ∧ Below w.heap.size w wr) (fun _ i _ => (intOf i + 8).toNat)
  case atStart => exact ⟨0, by omega, rfl, ⟨rfl, .inl ⟨rfl, rfl⟩⟩, Below.refl _ _⟩
  case round =>
    obtain ⟨k, hk, rfl, hown, hbel⟩ := hrel
    have hcase : k = 0 ∨ k = 1 ∨ k = 2 ∨ k = 3 ∨ k = 4 := by omega
    rcases hcase with rfl | rfl | rfl | rfl | rfl
    · have HO := hide hown
      clear hown
      go_wp2_with fail
      (with_reducible refine (C0.out _ (HP.out.below hbel)).mono ?_)
      rintro e w1 ⟨rfl, b1⟩
      have hown1 := HO.out.kept (grown_of b1) (Classical.em _)
      have hb1 : Below w.heap.size w w1 := bstep hbel b1
      clear b1 HO
      have hown2 := hown1.alloc (.cells #[.string ({ data := #[49] })] 9)
      have hbase : w.heap.size ≤ w1.heap.size := hb1.size
      go_wp2_with (at_builtin; refine wpList_append_own _ rfl _ _ 63 rfl w.heap.size 9 i0 (.string { data := #[] }) 1 16 Tryz.underlying63 hi hz0 hz1 hz2 rfl (by decide) _ 0 (text_b_parts.take 0) rfl hown2 ⟨w1.heap.size, 0, none⟩ 1 1 [.string ({ data := #[49] })] rfl rfl ?q1 ?q2 ?q3 ?q4 ?q5 ?_)
      case q1 =>
        intro j u hj
        match j, hj with
        | 0, hj => simp at hj; subst hj; simp [Addr.add]
      case q2 => intro u hu; simp at hu; subst hu; rfl
      case q3 => unfold maxLen; omega
      case q4 => omega
      case q5 => simp; omega
      intro v' w2 hown hgrow _
      have hb2 : Below w.heap.size w w2 := (bstep hb1 (fresh_below w1 (.cells #[.string ({ data := #[49] })] 9))).grown hgrow (by simp; omega) (owns_block hown2)
      go_wp2_with fail
      go_roundw
      case rel => exact ⟨1, by omega, by go_num, hown, hb2⟩
      case measure => simp [intOf]
    · have HO := hide hown
      clear hown
      go_wp2_with fail
      (with_reducible refine (C1.out _ (HP.out.below hbel)).mono ?_)
      rintro e w1 ⟨rfl, b1⟩
      have hown1 := HO.out.kept (grown_of b1) (Classical.em _)
      have hb1 : Below w.heap.size w w1 := bstep hbel b1
      clear b1 HO
      have hown2 := hown1.alloc (.cells #[.string ({ data := #[50] })] 9)
      have hbase : w.heap.size ≤ w1.heap.size := hb1.size
      go_wp2_with (at_builtin; refine wpList_append_own _ rfl _ _ 63 rfl w.heap.size 9 i0 (.string { data := #[] }) 1 16 Tryz.underlying63 hi hz0 hz1 hz2 rfl (by decide) _ 1 (text_b_parts.take 1) rfl hown2 ⟨w1.heap.size, 0, none⟩ 1 1 [.string ({ data := #[50] })] rfl rfl ?q1 ?q2 ?q3 ?q4 ?q5 ?_)
      case q1 =>
        intro j u hj
        match j, hj with
        | 0, hj => simp at hj; subst hj; simp [Addr.add]
      case q2 => intro u hu; simp at hu; subst hu; rfl
      case q3 => unfold maxLen; omega
      case q4 => omega
      case q5 => simp; omega
      intro v' w2 hown hgrow _
      have hb2 : Below w.heap.size w w2 := (bstep hb1 (fresh_below w1 (.cells #[.string ({ data := #[50] })] 9))).grown hgrow (by simp; omega) (owns_block hown2)
      go_wp2_with fail
      go_roundw
      case rel => exact ⟨2, by omega, by go_num, hown, hb2⟩
      case measure => simp [intOf]
    · have HO := hide hown
      clear hown
      go_wp2_with fail
      (with_reducible refine (C2.out _ (HP.out.below hbel)).mono ?_)
      rintro e w1 ⟨rfl, b1⟩
      have hown1 := HO.out.kept (grown_of b1) (Classical.em _)
      have hb1 : Below w.heap.size w w1 := bstep hbel b1
      clear b1 HO
      have hown2 := hown1.alloc (.cells #[.string ({ data := #[51] })] 9)
      have hbase : w.heap.size ≤ w1.heap.size := hb1.size
      go_wp2_with (at_builtin; refine wpList_append_own _ rfl _ _ 63 rfl w.heap.size 9 i0 (.string { data := #[] }) 1 16 Tryz.underlying63 hi hz0 hz1 hz2 rfl (by decide) _ 2 (text_b_parts.take 2) rfl hown2 ⟨w1.heap.size, 0, none⟩ 1 1 [.string ({ data := #[51] })] rfl rfl ?q1 ?q2 ?q3 ?q4 ?q5 ?_)
      case q1 =>
        intro j u hj
        match j, hj with
        | 0, hj => simp at hj; subst hj; simp [Addr.add]
      case q2 => intro u hu; simp at hu; subst hu; rfl
      case q3 => unfold maxLen; omega
      case q4 => omega
      case q5 => simp; omega
      intro v' w2 hown hgrow _
      have hb2 : Below w.heap.size w w2 := (bstep hb1 (fresh_below w1 (.cells #[.string ({ data := #[51] })] 9))).grown hgrow (by simp; omega) (owns_block hown2)
      go_wp2_with fail
      go_roundw
      case rel => exact ⟨3, by omega, by go_num, hown, hb2⟩
      case measure => simp [intOf]
    · have HO := hide hown
      clear hown
      go_wp2_with fail
      (with_reducible refine (C3.out _ (HP.out.below hbel)).mono ?_)
      rintro e w1 ⟨rfl, b1⟩
      have hown1 := HO.out.kept (grown_of b1) (Classical.em _)
      have hb1 : Below w.heap.size w w1 := bstep hbel b1
      clear b1 HO
      have hown2 := hown1.alloc (.cells #[.string ({ data := #[52] })] 9)
      have hbase : w.heap.size ≤ w1.heap.size := hb1.size
      go_wp2_with (at_builtin; refine wpList_append_own _ rfl _ _ 63 rfl w.heap.size 9 i0 (.string { data := #[] }) 1 16 Tryz.underlying63 hi hz0 hz1 hz2 rfl (by decide) _ 3 (text_b_parts.take 3) rfl hown2 ⟨w1.heap.size, 0, none⟩ 1 1 [.string ({ data := #[52] })] rfl rfl ?q1 ?q2 ?q3 ?q4 ?q5 ?_)
      case q1 =>
        intro j u hj
        match j, hj with
        | 0, hj => simp at hj; subst hj; simp [Addr.add]
      case q2 => intro u hu; simp at hu; subst hu; rfl
      case q3 => unfold maxLen; omega
      case q4 => omega
      case q5 => simp; omega
      intro v' w2 hown hgrow _
      have hb2 : Below w.heap.size w w2 := (bstep hb1 (fresh_below w1 (.cells #[.string ({ data := #[52] })] 9))).grown hgrow (by simp; omega) (owns_block hown2)
      go_wp2_with fail
      go_roundw
      case rel => exact ⟨4, by omega, by go_num, hown, hb2⟩
      case measure => simp [intOf]
    · obtain ⟨g, cap, rfl⟩ := owns_at hown (by omega)
      obtain ⟨hcap, hg⟩ := owns_cap hown
      have hrow := row_of_owns hown
      have hcs : ∀ (j : Nat) x, ([{ data := #[49] }, { data := #[50] }, { data := #[51] }, { data := #[52] }] : List ByteArray)[j]? = some x → wr.cell? ⟨g, 0 + j, none⟩ = some (.string x) := by
        intro j x hx
        obtain ⟨b', o', he, hb, hc⟩ := hrow.2 (by omega)
        injection he with he
        injection he with e1 e2 e3
        subst e1; subst e2
        refine hc j _ ?_
        have := congrArg (Option.map Value.string) hx
        rw [← List.getElem?_map] at this
        exact this
      have c5 := C4.out wr g cap hcs hg hcap
      have C5 := hide c5
      clear hcs hrow hown c5 hcap hg
      go_wp2_with fail
      (with_reducible refine (C5.out).mono ?_)
      rintro e w1 ⟨rfl, b1⟩
      replace b1 : Below w.heap.size w w1 := bstep hbel b1
      go_wp2_with fail
      go_ret
      exact ⟨rfl, b1⟩

end Go.Proofs.YtpidgmamollmgaaGreatDoor
end
