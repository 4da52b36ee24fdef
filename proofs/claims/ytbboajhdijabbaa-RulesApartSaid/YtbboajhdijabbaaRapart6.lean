/- RulesApart's inner loop: one round. -/
import Derived.Test.YtbboajhdijabbaaRlaw8
import Derived.Test.YtbboajhdijabbaaLight
import Derived.Test.YtbboajhdijabbaaRapart5
import Derived.Deep.LoopGhost
import Derived.Deep.DeepCutAuto
import Derived.Deep.CutBlock
set_option linter.unusedVariables false
set_option linter.unusedSimpArgs false
namespace Go.Proofs.Ytbboajhdijabbaa
open Go.RowKit Go.Lib
attribute [local go_sem] Oper.semAt_some envL lookV


theorem slice_some {W : World} {A : Option Addr} {n c : Nat} {l : List Rule} (h : RR W (.slice A n c) l) (hl : 0 < l.length) : ∃ g, A = some (⟨g, 0, none⟩ : Addr) := by
  obtain ⟨g, c', hv, _⟩ := RR.cell h (by rintro rfl; simp at hl)
  cases hv
  exact ⟨g, rfl⟩
set_option maxRecDepth 1000000 in
set_option maxHeartbeats 16000000 in
theorem apart_loop (m c1 g1 kk : Nat) (r : Rule) (l : List Rule) (u0 u1 u2 u3 u4 u7 u8 u9 u10 u12 u13 u14 u15 u16 u17 u18 u19 u20 u21 u22 u23 u24 u25 u26 u27 u28 u29 u30 u31 u32 u33 u34 u35 u36 u37 u38 u39 u40 u41 u42 u43 u44 u45 u46 u47 u48 u49 u50 u51 u52 u53 u54 u55 u56 u57 u58 u59 u60 u61 u62 u63 u64 u65 u66 u67 u68 u69 u70 u71 u72 u73 u74 u75 u76 u77 u78 u79 u80 u81 u82 u83 u84 u85 u86 u87 u88 u89 u90 u91 u92 u93 u94 u95 u96 u97 u98 u99 u100 u101 u102 u103 u104 u105 u106 u107 u108 u109 u110 u111 u112 u113 u114 u115 u116 u117 u118 u119 u120 u121 u122 u123 u124 u125 u126 u127 u128 u129 u130 u131 u132 u133 u134 u135 u136 u137 u138 u139 u140 u141 u142 u143 u144 u145 u146 u147 u148 u149 u150 u151 u152 u153 u154 u155 u156 u157 u158 u159 u160 u161 u162 u163 u164 u165 u166 u167 u168 u169 u170 u171 u172 u173 u174 u175 u176 u177 u178 u179 u180 u181 u182 u183 u184 u185 u186 u187 u188 u189 u190 u191 u192 u193 : Value) (wx : World) (Q : Exit → Act → World → Prop)
    (hk : kk < m) (hm : (m : Int) ≤ 32) (GL : Hid (Good l)) (ML : Hid (m = l.length)) (RM : Hid (RR wx (.slice (some ⟨g1, 0, none⟩) m c1) l)) (HR : Hid (l[kk]? = some r)) (HK : Hid (r.k = 3))
    (hQ : ∀ c a d v w, Q (.panic c) (a.put (some d) v) w → Q (.panic c) a w)
    (hgo : ∀ (u2 u121 u122 u123 u124 u125 u126 u127 u128 u129 u130 u131 u132 u133 u134 u135 u136 u137 u138 u139 u140 u141 u142 u143 u144 u145 u146 u147 u148 u149 u150 u151 u152 u153 u154 u155 u156 u157 u158 u159 u160 u161 u162 u163 u164 u165 u166 u167 u168 u169 u170 u171 u172 u173 u174 u175 u176 u177 u178 u179 u180 u181 u182 u183 u184 u185 u186 u187 u188 u189 u190 u191 u192 : Value) wy, Below wx.heap.size wx wy → Q (.exit 2) ⟨#[u0, u1, u2, u3, u4, .slice (some ⟨g1, 0, none⟩) m c1, .int .i64 (kk : Int), u7, u8, u9, u10, .int .i64 (m : Int), u12, u13, u14, u15, u16, u17, u18, u19, u20, u21, u22, u23, u24, u25, u26, u27, u28, u29, u30, u31, u32, u33, u34, u35, u36, u37, u38, u39, u40, u41, u42, u43, u44, u45, u46, u47, u48, u49, u50, u51, u52, u53, u54, u55, u56, u57, u58, u59, u60, u61, u62, u63, u64, u65, u66, u67, u68, u69, u70, u71, u72, u73, u74, u75, u76, u77, u78, u79, u80, u81, u82, u83, u84, u85, u86, u87, u88, u89, u90, u91, u92, u93, u94, u95, u96, u97, u98, u99, u100, u101, u102, u103, u104, u105, u106, u107, u108, u109, u110, u111, u112, u113, u114, u115, u116, u117, u118, u119, u120, u121, u122, u123, u124, u125, u126, u127, u128, u129, u130, u131, u132, u133, u134, u135, u136, u137, u138, u139, u140, u141, u142, u143, u144, u145, u146, u147, u148, u149, u150, u151, u152, u153, u154, u155, u156, u157, u158, u159, u160, u161, u162, u163, u164, u165, u166, u167, u168, u169, u170, u171, u172, u173, u174, u175, u176, u177, u178, u179, u180, u181, u182, u183, u184, u185, u186, u187, u188, u189, u190, u191, u192, u193], []⟩ wy) :
    Code.wp Try.prog (.loop apartBody) Q ⟨#[u0, u1, u2, u3, u4, .slice (some ⟨g1, 0, none⟩) m c1, .int .i64 (kk : Int), u7, u8, u9, u10, .int .i64 0, u12, u13, u14, u15, u16, u17, u18, u19, u20, u21, u22, u23, u24, u25, u26, u27, u28, u29, u30, u31, u32, u33, u34, u35, u36, u37, u38, u39, u40, u41, u42, u43, u44, u45, u46, u47, u48, u49, u50, u51, u52, u53, u54, u55, u56, u57, u58, u59, u60, u61, u62, u63, u64, u65, u66, u67, u68, u69, u70, u71, u72, u73, u74, u75, u76, u77, u78, u79, u80, u81, u82, u83, u84, u85, u86, u87, u88, u89, u90, u91, u92, u93, u94, u95, u96, u97, u98, u99, u100, u101, u102, u103, u104, u105, u106, u107, u108, u109, u110, u111, u112, u113, u114, u115, u116, u117, u118, u119, u120, u121, u122, u123, u124, u125, u126, u127, u128, u129, u130, u131, u132, u133, u134, u135, u136, u137, u138, u139, u140, u141, u142, u143, u144, u145, u146, u147, u148, u149, u150, u151, u152, u153, u154, u155, u156, u157, u158, u159, u160, u161, u162, u163, u164, u165, u166, u167, u168, u169, u170, u171, u172, u173, u174, u175, u176, u177, u178, u179, u180, u181, u182, u183, u184, u185, u186, u187, u188, u189, u190, u191, u192, u193], []⟩ wx := by
  have HG := hide hgo; have HQ := hide hQ
  clear hgo hQ
  have hkz : (kk : Int) < (m : Int) := by omega
  have hbody : ∃ b, apartBody = b := ⟨_, rfl⟩
  conv => arg 2; arg 1; whnf
  conv => arg 4; dsimp only
  go_loopg [11] m (fun gi sj wy => ∃ k2 : Nat, k2 ≤ m ∧ m - k2 ≤ gi ∧ sj = .int .i64 k2 ∧ Aside (Below wx.heap.size wx wy))
  case atStart => exact ⟨0, Nat.zero_le _, by omega, rfl, (show Below _ _ _ from Below.refl _ _)⟩
  case round =>
    obtain ⟨k2, hk2, hg2, rfl, BX⟩ := hrel
    by_cases hlt2 : k2 < m
    · have hltz2 : (k2 : Int) < (m : Int) := by omega
      have hl2 : k2 < l.length := by have := ML.out; omega
      have hl : kk < l.length := by have := ML.out; omega
      obtain ⟨s, hs⟩ : ∃ s, l[k2]? = some s := ⟨_, List.getElem?_eq_getElem hl2⟩
      have hsl : s ∈ l := List.mem_of_getElem? hs
      have c5 := fun W => l_outer W s
      have hno := GL.out.out_no (List.mem_of_getElem? HR.out) hsl HK.out
      generalize (wholeR 151587081 s).e = se at *
      have hcase : (((s.k != 3) = false) ∨ ((s.k != 3) = true ∧ (s.p == 0) = true ∧ (se == r.e) = false) ∨ ((s.k != 3) = true ∧ (s.p == 0) = true ∧ (se == r.e) = true ∧ decide (s.f ≤ r.f) = false) ∨ ((s.k != 3) = true ∧ (s.p == 0) = true ∧ (se == r.e) = true ∧ decide (s.f ≤ r.f) = true ∧ decide (r.f ≤ s.t) = false) ∨ ((s.k != 3) = true ∧ (s.p == 0) = false ∧ (s.p == r.p) = false) ∨ ((s.k != 3) = true ∧ (s.p == 0) = false ∧ (s.p == r.p) = true ∧ (se == r.e) = false) ∨ ((s.k != 3) = true ∧ (s.p == 0) = false ∧ (s.p == r.p) = true ∧ (se == r.e) = true ∧ decide (s.f ≤ r.f) = false) ∨ ((s.k != 3) = true ∧ (s.p == 0) = false ∧ (s.p == r.p) = true ∧ (se == r.e) = true ∧ decide (s.f ≤ r.f) = true ∧ decide (r.f ≤ s.t) = false)) := by
        simp only [bne_iff_ne, ne_eq, beq_iff_eq, bne_eq_false_iff_eq, beq_eq_false_iff_ne, decide_eq_true_eq, decide_eq_false_iff_not]
        omega
      have rm := RR.below RM.out BX.out; have hr := HR.out
      have hg0 : g1 < wr.heap.size := rm.row rfl
      have BX' := hide BX
      unfold Rule.cells at c5
      refine apart_round m c1 g1 kk k2 r s se _ _ _ _ _ _ _ _ _ _ _ _ _ _ _ _ _ _ _ _ _ _ _ _ _ _ _ _ _ _ _ _ _ _ _ _ _ _ _ _ _ _ _ _ _ _ _ _ _ _ _ _ _ _ _ _ _ _ _ _ _ _ _ _ _ _ _ _ _ _ _ _ _ _ _ _ _ _ _ _ _ _ _ _ _ _ _ _ _ _ _ _ _ _ _ _ _ _ _ _ _ _ _ _ _ _ _ _ _ _ _ _ _ _ _ _ _ _ _ _ _ _ _ _ _ _ _ _ _ _ _ _ _ _ _ _ _ _ _ _ _ _ _ _ _ _ _ _ _ _ _ _ _ _ _ _ _ _ _ _ _ _ _ _ _ _ _ _ _ _ _ _ _ _ _ _ _ _ _ _ _ _ _ _ _ _ _ _ _ _ _ wr _ _ hk hlt2 hkz hltz2 hm hg0 (RR.slot (i := 1) rm hl hr (by omega) rfl) (RR.slot (i := 6) rm hl hr (by omega) rfl) (RR.slot (i := 7) rm hl hr (by omega) rfl) (RR.slot (i := 0) rm hl2 hs (by omega) rfl) (RR.slot (i := 1) rm hl2 hs (by omega) rfl) (RR.slot (i := 2) rm hl2 hs (by omega) rfl) (RR.slot (i := 3) rm hl2 hs (by omega) rfl) (RR.slot (i := 4) rm hl2 hs (by omega) rfl) (RR.slot (i := 5) rm hl2 hs (by omega) rfl) (RR.slot (i := 6) rm hl2 hs (by omega) rfl) (RR.slot (i := 7) rm hl2 hs (by omega) rfl) (RR.slot (i := 8) rm hl2 hs (by omega) rfl) (RR.slot (i := 9) rm hl2 hs (by omega) rfl) (RR.slot (i := 10) rm hl2 hs (by omega) rfl) c5 hcase (fun c a d v w h => HQ.out c a d v w h) ?_
      intro t121 t122 t123 t124 t125 t126 t127 t128 t129 t130 t131 t132 t133 t134 t135 t136 t137 t138 t139 t140 t141 t142 t143 t144 t145 t146 t147 t148 t149 t150 t151 t152 t153 t154 t155 t156 t157 t158 t159 t160 t161 t162 t163 t164 t165 t166 t167 t168 t169 t170 t171 t172 t173 t174 t175 t176 t177 t178 t179 t180 t181 t182 t183 t184 t185 t186 t187 t188 t189 t190 t191 t192 wy hb
      clear hl hr rm hs hsl c5 hno hcase hl2 BX hg0
      go_step
      go_roundg (m - (k2 + 1))
      case measure => omega
      case rel => exact ⟨k2 + 1, by omega, by omega, by go_num, (show Aside _ from bstep BX'.out.out hb)⟩
    · have hltz2 : ¬ (k2 : Int) < (m : Int) := by omega
      have hmk : k2 = m := by omega
      subst hmk
      have BX' := hide BX
      clear BX
      go_wp2_with fail
      exact HG.out _ _ _ _ _ _ _ _ _ _ _ _ _ _ _ _ _ _ _ _ _ _ _ _ _ _ _ _ _ _ _ _ _ _ _ _ _ _ _ _ _ _ _ _ _ _ _ _ _ _ _ _ _ _ _ _ _ _ _ _ _ _ _ _ _ _ _ _ _ _ _ _ _ _ BX'.out.out
end Go.Proofs.Ytbboajhdijabbaa
