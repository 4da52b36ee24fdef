/- Several texts of this claim, one behind the other. -/
import Derived.Test.YtjeaknipmdfkdaaGreatDoorK28
import Derived.BigQuiet
import Derived.Deep.QuietTactic
import Derived.Deep.LoopGhost
import Derived.Deep.DeepCutAuto
import Derived.Deep.CutBlock
import Derived.Test.YtjeaknipmdfkdaaGreatDoorK23
import Derived.Test.YtjeaknipmdfkdaaGreatDoorK2
import Derived.Test.YtjeaknipmdfkdaaGreatDoorK31
import Derived.Test.YtjeaknipmdfkdaaGreatDoorK1
import Derived.Test.YtjeaknipmdfkdaaGreatDoorK32

section
/- EmbedsRest's loop: one round. -/
set_option linter.unusedVariables false
set_option linter.unusedSimpArgs false
namespace Go.Proofs.YtjeaknipmdfkdaaGreatDoor
open Go.RowKit
attribute [local go_sem] Oper.semAt_some

/-- the first loop's body -/
def loopIn : Code → Option Code
  | .loop c => some c
  | .seq a b => (loopIn a).orElse fun _ => loopIn b
  | .block _ c => loopIn c
  | .scope c => loopIn c
  | .cond _ a b => (loopIn a).orElse fun _ => loopIn b
  | _ => none
noncomputable def restBody : Code := (Tryz.f5.body.bind loopIn).getD .skip

set_option maxRecDepth 1000000 in
set_option maxHeartbeats 16000000 in
theorem rest_round (S : World → Prop) (A B : ByteArray) (j : Nat) (e k x0 av bv : Int) (u0 u1 u2 u3 u4 u5 u6 u7 u8 u9 u10 u11 u17 u18 u19 u20 u21 u22 u23 u24 u25 u26 u27 u28 u29 u30 u31 u32 u33 u34 u35 u36 u37 u38 u39 u40 u41 u42 u43 u44 u45 u46 u47 u48 u49 u50 u51 u52 u53 u54 u55 u56 u57 u58 u59 u60 u61 u62 u63 u64 u65 u66 u67 u68 u69 u70 u71 u72 u73 u74 u75 u76 u77 u78 u79 u80 u81 u82 u83 u84 u85 u86 u87 u88 u89 u90 u91 u92 u93 u94 u95 u96 u97 u98 u99 u100 u101 u102 u103 u104 u105 u106 u107 u108 u109 u110 u111 u112 u113 u114 u115 u116 u117 u118 u119 u120 u121 u122 u123 u124 u125 u126 u127 u128 u129 u130 u131 u132 u133 u134 u135 u136 u137 u138 u139 u140 u141 u142 u143 u144 u145 u146 u147 u148 u149 u150 u151 u152 u153 u154 u155 u156 u157 u158 u159 u160 u161 u162 u163 u164 u165 u166 u167 u168 u169 u170 u171 u172 u173 u174 u175 u176 u177 u178 u179 u180 u181 u182 u183 u184 u185 u186 u187 u188 u189 u190 u191 u192 u193 u194 u195 u196 u197 u198 u199 u200 u201 u202 u203 u204 u205 u206 u207 u208 u209 u210 u211 u212 u213 u214 u215 u216 u217 u218 u219 u220 u221 u222 u223 u224 u225 u226 u227 u228 u229 u230 u231 u232 u233 u234 u235 u236 u237 u238 : Value) (wr : World) (K : Act → World → Prop) (Q : Exit → Act → World → Prop)
    (hjn : j < A.size) (hj : (j : Int) < (A.size : Int)) (hjb : j < B.size) (hj2 : (j : Int) < (B.size : Int)) (h9 : 9 < A.size) (h92 : (9 : Int) < (A.size : Int)) (hn : (A.size : Int) ≤ 140737488351232) (he : 0 ≤ e ∧ e ≤ 60) (hk : 0 ≤ k ∧ k ≤ 200)
    (c9 : (((A[9]'h9).toNat : Nat) : Int) = x0) (cA : (((A[j]'hjn).toNat : Nat) : Int) = av) (cB : (((B[j]'hjb).toNat : Nat) : Int) = bv)
    (hok : av = bv ∨ (((12 ≤ j ∧ j < 20) ∨ (x0 ≠ 1 ∧ e ≤ (j : Int) ∧ (j : Int) < e + 4) ∨ (x0 = 1 ∧ e + 4 ≤ (j : Int) ∧ (j : Int) < e + 6)) ∨ j = 10 ∨ j = 11 ∨ (0 < k ∧ ((j : Int) = k ∨ (j : Int) = k + 1))))
    (hS : S wr) (hSd : ∀ W m, S W → S (W.drewN m))
    (hgo : ∀ (u17 u18 u129 u130 u131 u132 u133 u134 u135 u136 u137 u138 u139 u140 u141 u142 u143 u144 u145 u146 u147 u148 u149 u150 u151 u152 u153 u154 u155 u156 u157 u158 u159 u160 u161 u162 u163 u164 u165 u166 u167 u168 u169 u170 u171 u172 u173 u174 u175 u176 u177 u178 u179 u180 u181 u182 u183 u184 u185 u186 u187 u188 u189 u190 u191 u192 u193 u194 u195 u196 u197 u198 u199 u200 u201 u202 u203 u204 u205 u206 u207 u208 : Value) wx, S wx → K ⟨#[u0, u1, u2, u3, u4, u5, u6, u7, u8, u9, u10, u11, .string A, .string B, .int .i64 e, .int .i64 k, .int .i64 ((j : Int) + 1), u17, u18, u19, u20, u21, u22, u23, u24, u25, u26, u27, u28, u29, u30, u31, u32, u33, u34, u35, u36, u37, u38, u39, u40, u41, u42, u43, u44, u45, u46, u47, u48, u49, u50, u51, u52, u53, u54, u55, u56, u57, u58, u59, u60, u61, u62, u63, u64, u65, u66, u67, u68, u69, u70, u71, u72, u73, u74, u75, u76, u77, u78, u79, u80, u81, u82, u83, u84, u85, u86, u87, u88, u89, u90, u91, u92, u93, u94, u95, u96, u97, u98, u99, u100, u101, u102, u103, u104, u105, u106, u107, u108, u109, u110, u111, u112, u113, u114, u115, u116, u117, u118, u119, u120, u121, u122, u123, u124, u125, u126, u127, u128, u129, u130, u131, u132, u133, u134, u135, u136, u137, u138, u139, u140, u141, u142, u143, u144, u145, u146, u147, u148, u149, u150, u151, u152, u153, u154, u155, u156, u157, u158, u159, u160, u161, u162, u163, u164, u165, u166, u167, u168, u169, u170, u171, u172, u173, u174, u175, u176, u177, u178, u179, u180, u181, u182, u183, u184, u185, u186, u187, u188, u189, u190, u191, u192, u193, u194, u195, u196, u197, u198, u199, u200, u201, u202, u203, u204, u205, u206, u207, u208, u209, u210, u211, u212, u213, u214, u215, u216, u217, u218, u219, u220, u221, u222, u223, u224, u225, u226, u227, u228, u229, u230, u231, u232, u233, u234, u235, u236, u237, u238], []⟩ wx) :
    Code.wp Tryz.prog restBody (Exit.then K Q) ⟨#[u0, u1, u2, u3, u4, u5, u6, u7, u8, u9, u10, u11, .string A, .string B, .int .i64 e, .int .i64 k, .int .i64 (j : Int), u17, u18, u19, u20, u21, u22, u23, u24, u25, u26, u27, u28, u29, u30, u31, u32, u33, u34, u35, u36, u37, u38, u39, u40, u41, u42, u43, u44, u45, u46, u47, u48, u49, u50, u51, u52, u53, u54, u55, u56, u57, u58, u59, u60, u61, u62, u63, u64, u65, u66, u67, u68, u69, u70, u71, u72, u73, u74, u75, u76, u77, u78, u79, u80, u81, u82, u83, u84, u85, u86, u87, u88, u89, u90, u91, u92, u93, u94, u95, u96, u97, u98, u99, u100, u101, u102, u103, u104, u105, u106, u107, u108, u109, u110, u111, u112, u113, u114, u115, u116, u117, u118, u119, u120, u121, u122, u123, u124, u125, u126, u127, u128, u129, u130, u131, u132, u133, u134, u135, u136, u137, u138, u139, u140, u141, u142, u143, u144, u145, u146, u147, u148, u149, u150, u151, u152, u153, u154, u155, u156, u157, u158, u159, u160, u161, u162, u163, u164, u165, u166, u167, u168, u169, u170, u171, u172, u173, u174, u175, u176, u177, u178, u179, u180, u181, u182, u183, u184, u185, u186, u187, u188, u189, u190, u191, u192, u193, u194, u195, u196, u197, u198, u199, u200, u201, u202, u203, u204, u205, u206, u207, u208, u209, u210, u211, u212, u213, u214, u215, u216, u217, u218, u219, u220, u221, u222, u223, u224, u225, u226, u227, u228, u229, u230, u231, u232, u233, u234, u235, u236, u237, u238], []⟩ wr := by
  have HG := hide hgo; have HOK := hide hok; have HS := hide hS; have HD := hide hSd; have HH := hide hn
  clear hgo hok hS hSd hn
  conv => arg 2; whnf
  have w1 : IntKind.i64.wrap ((j : Int) + 1) = (j : Int) + 1 := IntWalk.i64_in _ (by have := HH.out; omega)
  have w4 : IntKind.i64.wrap (e + 4) = e + 4 := IntWalk.i64_in _ (by omega)
  have w6 : IntKind.i64.wrap (e + 6) = e + 6 := IntWalk.i64_in _ (by omega)
  have wk : IntKind.i64.wrap (k + 1) = k + 1 := IntWalk.i64_in _ (by omega)
  have HO := hide he; have HK := hide hk
  clear he hk
  go_upto_region 18 with fail
  go_cut [17] from 129 to 208 (fun s17 wx => s17 = .bool (decide ((12 ≤ j ∧ j < 20) ∨ (x0 ≠ 1 ∧ e ≤ (j : Int) ∧ (j : Int) < e + 4) ∨ (x0 = 1 ∧ e + 4 ≤ (j : Int) ∧ (j : Int) < e + 6))) ∧ wr = wx)
  case first =>
    go_wp2_with fail
    all_goals
      go_meet
      clear HG HOK HS HD HH w1 wk cA cB c9
      have v4 : IntKind.i64.wrap (e + 4) = e + 4 := IntWalk.i64_in _ (by have := HO.out; omega)
      have v6 : IntKind.i64.wrap (e + 6) = e + 6 := IntWalk.i64_in _ (by have := HO.out; omega)
      refine ⟨congrArg Value.bool (Bool.eq_iff_iff.2 ?_), rfl⟩
      simp only [Bool.or_eq_true, Bool.and_eq_true, bne_iff_ne, beq_iff_eq, ne_eq, decide_eq_true_eq, Bool.false_eq_true, false_iff, true_iff]
      omega
  case rest =>
    obtain ⟨rfl, rfl⟩ := hcut
    obtain ⟨hd, hhd⟩ : ∃ hd, hd = decide ((12 ≤ j ∧ j < 20) ∨ (x0 ≠ 1 ∧ e ≤ (j : Int) ∧ (j : Int) < e + 4) ∨ (x0 = 1 ∧ e + 4 ≤ (j : Int) ∧ (j : Int) < e + 6)) := ⟨_, rfl⟩
    rw [← hhd]
    have HHD := hide hhd
    clear hhd w4 w6 c9 h9 h92
    go_upto_region 19 with fail
    go_cut [18] from 129 to 208 (fun s18 wx => s18 = .bool (hd || decide (j = 10 ∨ j = 11 ∨ (0 < k ∧ ((j : Int) = k ∨ (j : Int) = k + 1)))) ∧ wr = wx)
    case first =>
      clear HHD
      obtain ⟨b1, hb1⟩ : ∃ b, ((j : Int) == 10) = b := ⟨_, rfl⟩
      obtain ⟨b2, hb2⟩ : ∃ b, ((j : Int) == 11) = b := ⟨_, rfl⟩
      obtain ⟨b3, hb3⟩ : ∃ b, decide (0 < k) = b := ⟨_, rfl⟩
      obtain ⟨b4, hb4⟩ : ∃ b, ((j : Int) == k) = b := ⟨_, rfl⟩
      obtain ⟨b5, hb5⟩ : ∃ b, ((j : Int) == k + 1) = b := ⟨_, rfl⟩
      have hv : (hd || b1 || b2 || (b3 && (b4 || b5))) = (hd || decide (j = 10 ∨ j = 11 ∨ (0 < k ∧ ((j : Int) = k ∨ (j : Int) = k + 1)))) := by
        rw [← hb1, ← hb2, ← hb3, ← hb4, ← hb5]
        clear hb1 hb2 hb3 hb4 hb5
        cases hd
        · rw [Bool.eq_iff_iff]
          simp only [Bool.or_eq_true, Bool.and_eq_true, beq_iff_eq, decide_eq_true_eq, Bool.false_eq_true, false_or]
          omega
        · simp only [Bool.true_or]
      have HV := hide hv
      clear hv
      cases hd <;> cases b1 <;> cases b2 <;> cases b3 <;> cases b4 <;> cases b5
      all_goals
        go_wp2_with fail
        all_goals
          go_meet
          refine ⟨congrArg Value.bool ?_, rfl⟩
          exact HV.out
    case rest =>
      obtain ⟨rfl, rfl⟩ := hcut
      obtain ⟨pt, hpt⟩ : ∃ pt, pt = (hd || decide (j = 10 ∨ j = 11 ∨ (0 < k ∧ ((j : Int) = k ∨ (j : Int) = k + 1)))) := ⟨_, rfl⟩
      rw [← hpt]
      have HPT := hide hpt
      clear hpt wk
      have leaf : (av != bv) = false ∨ ((av != bv) = true ∧ pt = true) := by
        have h := HOK.out; have h1 := HHD.out; have h2 := HPT.out
        by_cases q : av = bv
        · exact Or.inl (by simpa using q)
        · refine Or.inr ⟨by simpa using q, ?_⟩
          rw [h2, h1]
          rcases h with h | h
          · exact absurd h q
          · simp only [Bool.or_eq_true, decide_eq_true_eq]
            omega
      rcases leaf with h1 | ⟨h1, rfl⟩
      all_goals
        go_upto_region 20 with fail
        go_quiet (fail)
        go_wp2_with fail
        refine HG.out _ _ _ _ _ _ _ _ _ _ _ _ _ _ _ _ _ _ _ _ _ _ _ _ _ _ _ _ _ _ _ _ _ _ _ _ _ _ _ _ _ _ _ _ _ _ _ _ _ _ _ _ _ _ _ _ _ _ _ _ _ _ _ _ _ _ _ _ _ _ _ _ _ _ _ _ _ _ _ _ _ _ _ ?_
        exact HD.out _ _ HS.out
end Go.Proofs.YtjeaknipmdfkdaaGreatDoor
end

section
/- EmbedsRest, and an error translated back: plain. No walk. -/
set_option linter.unusedVariables false
set_option linter.unusedSimpArgs false
namespace Go.Proofs.YtjeaknipmdfkdaaGreatDoor
open Go.RowKit

theorem em_at {l : List UInt8} (hem : emWhy l = 0) (a b c d : Int) {i : Nat} (hi : i < l.length) :
    at_ l i = at_ (emNew l a b c d) i ∨ ((12 ≤ i ∧ i < 20) ∨ (at_ l 9 ≠ 1 ∧ emAt l ≤ i ∧ i < emAt l + 4) ∨ (at_ l 9 = 1 ∧ emAt l + 4 ≤ i ∧ i < emAt l + 6)) ∨ i = 10 ∨ i = 11 ∨ (0 < emSumIn l ∧ (i = emSumIn l ∨ i = emSumIn l + 1)) := by
  obtain ⟨p1, p2, p3, _⟩ := emWhy_parts hem
  have hh := emHd_len a c p1 (show emAt l ≤ l.length by omega)
  by_cases hie : i < emAt l
  · by_cases hm : i < 10 ∨ 20 ≤ i
    · left
      rw [em_parts hem, at_left (by omega), emHd_at a c p1 (by omega) (by omega) hie]
    · right; omega
  · by_cases hx : ((at_ l 9 ≠ 1 ∧ emAt l ≤ i ∧ i < emAt l + 4) ∨ (at_ l 9 = 1 ∧ emAt l + 4 ≤ i ∧ i < emAt l + 6)) ∨ (0 < emSumIn l ∧ (i = emSumIn l ∨ i = emSumIn l + 1))
    · right; omega
    · left
      rw [em_parts hem, at_right (by omega), hh, emLo_at hem ⟨by omega, by omega, by omega⟩]
      congr 1; omega
theorem em_zero {l : List UInt8} (hem : emWhy l = 0) (h9 : at_ l 9 = 17) (a b c d : Int) (h0 : at_ l (emSumIn l) = 0) (h1 : at_ l (emSumIn l + 1) = 0) : at_ (emNew l a b c d) (emSumIn l) = 0 ∧ at_ (emNew l a b c d) (emSumIn l + 1) = 0 := by
  obtain ⟨p1, p2, p3, _⟩ := emWhy_parts hem
  have hh := emHd_len a c p1 (show emAt l ≤ l.length by omega)
  have hs : emSumIn l = emAt l + 6 := by unfold emSumIn; rw [if_pos h9]
  rw [hs] at h0 h1 ⊢
  have z : (l.drop (emAt l)).length = l.length - emAt l := List.length_drop
  have hb : be16 (l.drop (emAt l)) 6 = 0 := by rw [be16_drop]; unfold be16; rw [h0, Nat.add_assoc] at *; rw [show at_ l (emAt l + (6 + 1)) = 0 from h1]; rfl
  have hn : be16 (emLo l a b c d) 6 = 0 := by
    unfold emLo crOf
    rw [emTup_p, if_pos h9, flow_new (by omega) (by decide), hb]
    unfold flowFix
    rw [if_pos rfl, if_pos rfl]
  have b0 := at_bd (emLo l a b c d) 6; have b1 := at_bd (emLo l a b c d) 7
  have e0 : at_ (emLo l a b c d) 6 * 256 + at_ (emLo l a b c d) 7 = 0 := hn
  rw [em_parts hem, at_right (by omega), at_right (by omega), hh, show emAt l + 6 - emAt l = 6 from by omega, show emAt l + 6 + 1 - emAt l = 7 from by omega]
  omega
section
variable {P : List UInt8} (h8 : 8 ≤ P.length) (hem : emWhy (P.drop 8) = 0) (a b c d : Int)
include h8 hem
theorem low_take2 : (trLow P a b c d).take 2 = P.take 2 := by
  unfold trLow
  rw [lay_take (by rw [low_len0 h8 hem]; omega), List.take_append_of_le_length (by simp; omega), List.take_take]; rfl
theorem low_mid : ((trLow P a b c d).drop 4).take 4 = (P.drop 4).take 4 := by
  unfold trLow
  have e : (lay (P.take 8 ++ emNew (P.drop 8) a b c d) 2 (trSum P a b c d)).drop 4 = (P.take 8 ++ emNew (P.drop 8) a b c d).drop 4 := lay_drop (k := 2) (by rw [low_len0 h8 hem]; omega)
  rw [e, List.drop_append_of_le_length (by simp; omega), List.take_append_of_le_length (by simp; omega), List.drop_take, List.take_take]; rfl
end
theorem em_rest {s : ByteArray} {oa ob oc od a b c d : Int} (h : emsWhy s = 0) (hl : 1 < (seenOf s).l) (hoa : 0 ≤ oa ∧ oa ≤ 4294967295) (hoc : 0 ≤ oc ∧ oc ≤ 4294967295)
    (ha : 0 ≤ a ∧ a ≤ 4294967295) (hb : 0 ≤ b ∧ b ≤ 65535) (hc : 0 ≤ c ∧ c ≤ 4294967295) (hd : 0 ≤ d ∧ d ≤ 65535) (u v : ByteArray) (hu : trOut s oa ob oc od a b c d = u) (hv : rwOut s oa ob oc od = v) :
    trWhy s = 0 ∧ rwWhy s = 0 ∧ v.size = u.size ∧ 36 ≤ u.size ∧ u.size ≤ s.size ∧ (∃ o : Nat, ((o : Nat) : Int) = at_ (L u) 0 % 16 * 4 ∧ o ≤ 60 ∧ o + 8 ≤ u.size ∧ v.extract 0 (o + 2) = u.extract 0 (o + 2) ∧ v.extract (o + 4) (o + 8) = u.extract (o + 4) (o + 8)) ∧
    (emData u).size = (emData s).size ∧ 28 ≤ (emData s).size ∧ emAt (L (emData s)) + 8 ≤ (emData s).size ∧ 8 ≤ (ipRest s).size ∧ 8 ≤ (ipRest u).size ∧ emWhy (L (emData s)) = 0 ∧ L (emData u) = emNew (L (emData s)) a b c d := by
  obtain ⟨H, P, R, hs, w, h9, h8, hk, hem, h1, e1, e2, e3, e4, w2, g8, g9, g12, g16, hz, k2, hdp, k3⟩ := em_two (oa := oa) (ob := ob) (oc := oc) (od := od) h hl hoa hoc ha hb hc hd
  obtain ⟨s1, s2, s3, s4, s5, s6⟩ := err_of R w h9 h8 hk hem
  obtain ⟨u1, u2, u3, u4, u5, u6⟩ := err_of [] w2 g9 (by omega) k2 k3
  rw [e4] at hu
  rw [e3] at hv
  rw [List.append_nil, hu] at u4 u5
  rw [← hs] at s4 s5
  obtain ⟨p1, p2, p3, _⟩ := emWhy_parts hem
  obtain ⟨m1, _⟩ := em_again hem ha hb hc hd _ rfl
  have hh := headNew_length (H := H) oa oc w.h20
  have h20 := w.h20; have h60 := w2.h60
  have hsz : s.size = H.length + P.length + R.length := by rw [hs, S_size, List.length_append, List.length_append]
  have husz : u.size = H.length + P.length := by rw [← hu, S_size, List.length_append, hh, hz]
  have hvsz : v.size = H.length + P.length := by rw [← hv, S_size, List.length_append, hh]
  have pd : (P.drop 8).length = P.length - 8 := List.length_drop
  have own := w2.own
  have ow : ((headNew H oa oc).length : Int) = at_ (L u) 0 % 16 * 4 := by
    rw [← own, ← hu, L_S]; unfold ipOwn; rw [at_left (by omega)]
  rw [s5, u5, L_S, L_S, hdp, S_size, S_size, m1, s4, u4, S_size, S_size]
  refine ⟨e2, e1, by omega, by omega, by omega, ⟨(headNew H oa oc).length, ow, by omega, by omega, ?_, ?_⟩, rfl, by omega, by omega, h8, by omega, hem, rfl⟩
  · refine L_inj ?_
    rw [L_to, L_to, ← hu, ← hv, L_S, L_S, List.take_length_add_append, List.take_length_add_append, low_take2 h8 hem]
  · refine L_inj ?_
    rw [L_extract, L_extract, ← hu, ← hv, L_S, L_S, List.drop_length_add_append, List.drop_length_add_append, show (headNew H oa oc).length + 8 - ((headNew H oa oc).length + 4) = 4 from by omega, low_mid h8 hem]
end Go.Proofs.YtjeaknipmdfkdaaGreatDoor
end

section
/- EmbedsRest walked. -/
set_option linter.unusedVariables false
set_option linter.unusedSimpArgs false
namespace Go.Proofs.YtjeaknipmdfkdaaGreatDoor
open Go.RowKit
attribute [local go_sem] Oper.semAt_some

set_option maxRecDepth 100000 in
set_option maxHeartbeats 4000000 in
theorem rest_long (s : ByteArray) (oa ob oc od a b c d : Int) (w : World) (T0 : Tabs w) (hl : (2500 : Int) < (s.size : Int)) :
    Calls Tryz.prog 5 #[.string s, .agg #[.int .u32 oa, .int .u16 ob, .int .u32 oc, .int .u16 od, .int .u32 a, .int .u16 b, .int .u32 c, .int .u16 d]] w (Ret (.bool true) w) := by
  have P5 := hide (fun W T => tolds W T); have TT := hide T0
  clear T0
  go_enter Tryz.func5, Tryz.ntmps5
  have d0 := Cells.new w #[.int .u32 oa, .int .u16 ob, .int .u32 oc, .int .u16 od, .int .u32 a, .int .u16 b, .int .u32 c, .int .u16 d] 30
  have l0 : Below w.heap.size w (w.alloc (.cells #[.int .u32 oa, .int .u16 ob, .int .u32 oc, .int .u16 od, .int .u32 a, .int .u16 b, .int .u32 c, .int .u16 d] 30)) := (fresh_below _ _)
  have L0 := hide l0; have D0 := hide d0
  clear l0 d0
  go_upto_region 1 with fail
  have l0 := L0.out; have d0 := D0.out
  clear L0 D0
  generalize (w.alloc (.cells #[.int .u32 oa, .int .u16 ob, .int .u32 oc, .int .u16 od, .int .u32 a, .int .u16 b, .int .u32 c, .int .u16 d] 30)) = wa at *
  obtain ⟨qd0_0, qd0_1, qd0_2, qd0_3, qd0_4, qd0_5, qd0_6, qd0_7⟩ := d0.q8
  have bb : Below wa.heap.size wa wa := Below.refl _ _
  have L0 := hide l0; have D0 := hide d0
  clear l0 d0
  go_wp2_with fail
  (with_reducible refine (P5.out _ (TT.out.below L0.out)).mono ?_)
  rintro e w1 ⟨rfl, b1⟩
  go_wp2_with fail
  go_ret
  exact ⟨rfl, bstep L0.out b1⟩
set_option maxRecDepth 100000 in
set_option maxHeartbeats 4000000 in
theorem rest_no (s : ByteArray) (oa ob oc od a b c d t0 t1 t2 t3 t4 : Int) (w : World) (T0 : Tabs w) (hl : ¬ (2500 : Int) < (s.size : Int))
    (p0 : ∀ W, Kinds W → Calls Tryz.prog 14 #[.string s, .int .u8 1] W (Ret (.tuple #[.agg #[.int .u8 t0, .int .u32 t1, .int .u16 t2, .int .u32 t3, .int .u16 t4], .bool false]) W)) :
    Calls Tryz.prog 5 #[.string s, .agg #[.int .u32 oa, .int .u16 ob, .int .u32 oc, .int .u16 od, .int .u32 a, .int .u16 b, .int .u32 c, .int .u16 d]] w (Ret (.bool true) w) := by
  have P0 := hide p0; have P5 := hide (fun W T => tolds W T); have TT := hide T0; have KK := hide (show Kinds w from T0.1)
  clear T0 p0
  go_enter Tryz.func5, Tryz.ntmps5
  have d0 := Cells.new w #[.int .u32 oa, .int .u16 ob, .int .u32 oc, .int .u16 od, .int .u32 a, .int .u16 b, .int .u32 c, .int .u16 d] 30
  have l0 : Below w.heap.size w (w.alloc (.cells #[.int .u32 oa, .int .u16 ob, .int .u32 oc, .int .u16 od, .int .u32 a, .int .u16 b, .int .u32 c, .int .u16 d] 30)) := (fresh_below _ _)
  have L0 := hide l0; have D0 := hide d0
  clear l0 d0
  go_upto_region 1 with fail
  have l0 := L0.out; have d0 := D0.out
  clear L0 D0
  generalize (w.alloc (.cells #[.int .u32 oa, .int .u16 ob, .int .u32 oc, .int .u16 od, .int .u32 a, .int .u16 b, .int .u32 c, .int .u16 d] 30)) = wa at *
  obtain ⟨qd0_0, qd0_1, qd0_2, qd0_3, qd0_4, qd0_5, qd0_6, qd0_7⟩ := d0.q8
  have bb : Below wa.heap.size wa wa := Below.refl _ _
  have L0 := hide l0; have D0 := hide d0
  clear l0 d0
  clear bb qd0_0 qd0_1 qd0_2 qd0_3 qd0_4 qd0_5 qd0_6 qd0_7
  go_upto_region 4 with (go_at_call 14; (with_reducible refine (P0.out _ (KK.out.below L0.out)).mono ?_); rintro e2 w2 ⟨rfl, b2⟩)
  have nn := Cells.new w2 #[.int .u8 t0, .int .u32 t1, .int .u16 t2, .int .u32 t3, .int .u16 t4] 33
  have bn : Below wa.heap.size wa (w2.alloc (.cells #[.int .u8 t0, .int .u32 t1, .int .u16 t2, .int .u32 t3, .int .u16 t4] 33)) := bstep b2 (fresh_below _ _)
  replace D0 := hide (Cells.below bn D0.out)
  replace L0 := hide (bstep L0.out bn)
  clear bn b2
  generalize w2.heap.size = g5 at nn ⊢
  generalize (w2.alloc (.cells #[.int .u8 t0, .int .u32 t1, .int .u16 t2, .int .u32 t3, .int .u16 t4] 33)) = wb at *
  have kg5 := Cells.lt nn
  have D5 := hide nn
  clear nn
  go_wp2_with fail
  (with_reducible refine (P5.out _ (TT.out.below L0.out)).mono ?_)
  rintro e w1 ⟨rfl, b1⟩
  go_wp2_with fail
  go_ret
  exact ⟨rfl, bstep L0.out b1⟩
set_option maxRecDepth 1000000 in
set_option maxHeartbeats 32000000 in
theorem rest_yes (s u v da db : ByteArray) (o o2 o4 o8 e e8 k k1 : Nat) (y x0 a0 a1 b0 b1 oa ob oc od a b c d t0 t1 t2 t3 t4 : Int) (w : World) (T0 : Tabs w) (hl : ¬ (2500 : Int) < (s.size : Int))
    (zv : v.size = u.size) (n36 : ¬ (u.size : Int) < 36) (i0 : 0 < u.size) (e0 : (((u[0]'i0).toNat : Nat) : Int) = y) (eb : wrap64 (wrap64 (bits .and .u8 y 15) * 4) = (o : Int)) (hus : u.size ≤ 2500)
    (w2 : IntKind.i64.wrap ((o : Int) + 2) = (o2 : Int)) (w4 : IntKind.i64.wrap ((o : Int) + 4) = (o4 : Int)) (w8 : IntKind.i64.wrap ((o : Int) + 8) = (o8 : Int)) (q8 : decide (u.size < o8) = false)
    (l2 : (o2 : Int) ≤ (u.size : Int)) (l4 : (o4 : Int) ≤ (o8 : Int)) (l8 : (o8 : Int) ≤ (u.size : Int)) (q1 : v.extract 0 o2 = u.extract 0 o2) (q2 : v.extract o4 o8 = u.extract o4 o8)
    (zb : db.size = da.size) (q28 : decide ((da.size : Int) < 28) = false) (we8 : IntKind.i64.wrap ((e : Int) + 8) = (e8 : Int)) (qe : decide (da.size < e8) = false) (he : e ≤ 60) (hk : k ≤ 200) (hds : da.size ≤ 2500)
    (i9 : 9 < da.size) (c9 : (((da[9]'i9).toNat : Nat) : Int) = x0)
    (hok : ∀ j : Nat, j < da.size → at_ (L da) j = at_ (L db) j ∨ (((12 ≤ j ∧ j < 20) ∨ (x0 ≠ 1 ∧ (e : Int) ≤ (j : Int) ∧ (j : Int) < (e : Int) + 4) ∨ (x0 = 1 ∧ (e : Int) + 4 ≤ (j : Int) ∧ (j : Int) < (e : Int) + 6)) ∨ j = 10 ∨ j = 11 ∨ (0 < (k : Int) ∧ ((j : Int) = (k : Int) ∨ (j : Int) = (k : Int) + 1))))
    (wk1 : IntKind.i64.wrap ((k : Int) + 1) = (k1 : Int))
    (hz : (x0 == 17) = false ∨ ((x0 == 17) = true ∧ ∃ (ik : k < da.size) (ik1 : k1 < da.size) (jk : k < db.size) (jk1 : k1 < db.size), ((((da[k]'ik).toNat : Nat) : Int) = a0 ∧ (((da[k1]'ik1).toNat : Nat) : Int) = a1 ∧ (((db[k]'jk).toNat : Nat) : Int) = b0 ∧ (((db[k1]'jk1).toNat : Nat) : Int) = b1) ∧
      ((a0 == 0) = false ∨ ((a0 == 0) = true ∧ (a1 == 0) = false) ∨ ((a0 == 0) = true ∧ (a1 == 0) = true ∧ (b0 != 0) = false ∧ (b1 != 0) = false))))
    (p0 : ∀ W, Kinds W → Calls Tryz.prog 14 #[.string s, .int .u8 1] W (Ret (.tuple #[.agg #[.int .u8 t0, .int .u32 t1, .int .u16 t2, .int .u32 t3, .int .u16 t4], .bool true]) W))
    (p1 : ∀ W, Kinds W → Calls Tryz.prog 11 #[.string s, .agg #[.int .u32 oa, .int .u16 ob, .int .u32 oc, .int .u16 od], .agg #[.int .u32 a, .int .u16 b, .int .u32 c, .int .u16 d]] W (Ret (.tuple #[.string u, .int .i64 0]) W))
    (p2 : ∀ W, Kinds W → Calls Tryz.prog 15 #[.string s, .agg #[.int .u32 oa, .int .u16 ob, .int .u32 oc, .int .u16 od]] W (Ret (.tuple #[.string v, .int .i64 0]) W))
    (p4 : ∀ W, Calls Tryz.prog 16 #[.string s] W (Ret (.string da) W)) (p5 : ∀ W, Calls Tryz.prog 16 #[.string u] W (Ret (.string db) W))
    (p6 : ∀ W, Calls Tryz.prog 17 #[.string da] W (Ret (.int .i64 (e : Int)) W)) (p7 : ∀ W, Calls Tryz.prog 18 #[.string da] W (Ret (.int .i64 (k : Int)) W)) :
    Calls Tryz.prog 5 #[.string s, .agg #[.int .u32 oa, .int .u16 ob, .int .u32 oc, .int .u16 od, .int .u32 a, .int .u16 b, .int .u32 c, .int .u16 d]] w (Ret (.bool true) w) := by
  have P0 := hide p0; have P1 := hide p1; have P2 := hide p2; have P4 := hide p4; have P5 := hide p5; have P6 := hide p6; have P7 := hide p7
  have PZ := hide (fun W T => tolds W T); have TT := hide T0; have KK := hide (show Kinds w from T0.1)
  have HOK := hide hok; have HZ := hide hz; have HB := hide (And.intro he (And.intro hk hds)); have C9 := hide c9; have WK := hide wk1
  have i0' : (0 : Int) < (u.size : Int) := by omega
  have n2 : o2 ≤ u.size := by omega
  have n4 : o4 ≤ o8 := by omega
  have n8 : o8 ≤ u.size := by omega
  clear T0 p0 p1 p2 p4 p5 p6 p7 hok hz he hk hds c9 wk1
  go_enter Tryz.func5, Tryz.ntmps5
  have d0 := Cells.new w #[.int .u32 oa, .int .u16 ob, .int .u32 oc, .int .u16 od, .int .u32 a, .int .u16 b, .int .u32 c, .int .u16 d] 30
  have l0 : Below w.heap.size w (w.alloc (.cells #[.int .u32 oa, .int .u16 ob, .int .u32 oc, .int .u16 od, .int .u32 a, .int .u16 b, .int .u32 c, .int .u16 d] 30)) := (fresh_below _ _)
  have L0 := hide l0; have D0 := hide d0
  clear l0 d0
  go_upto_region 1 with fail
  have l0 := L0.out; have d0 := D0.out
  clear L0 D0
  generalize (w.alloc (.cells #[.int .u32 oa, .int .u16 ob, .int .u32 oc, .int .u16 od, .int .u32 a, .int .u16 b, .int .u32 c, .int .u16 d] 30)) = wa at *
  obtain ⟨qd0_0, qd0_1, qd0_2, qd0_3, qd0_4, qd0_5, qd0_6, qd0_7⟩ := d0.q8
  have bb : Below wa.heap.size wa wa := Below.refl _ _
  have L0 := hide l0; have D0 := hide d0
  clear l0 d0
  clear bb qd0_0 qd0_1 qd0_2 qd0_3 qd0_4 qd0_5 qd0_6 qd0_7
  go_upto_region 4 with (go_at_call 14; (with_reducible refine (P0.out _ (KK.out.below L0.out)).mono ?_); rintro e2 w2 ⟨rfl, b2⟩)
  have nn := Cells.new w2 #[.int .u8 t0, .int .u32 t1, .int .u16 t2, .int .u32 t3, .int .u16 t4] 33
  have bn : Below wa.heap.size wa (w2.alloc (.cells #[.int .u8 t0, .int .u32 t1, .int .u16 t2, .int .u32 t3, .int .u16 t4] 33)) := bstep b2 (fresh_below _ _)
  replace D0 := hide (Cells.below bn D0.out)
  replace L0 := hide (bstep L0.out bn)
  clear bn b2
  generalize w2.heap.size = g5 at nn ⊢
  generalize (w2.alloc (.cells #[.int .u8 t0, .int .u32 t1, .int .u16 t2, .int .u32 t3, .int .u16 t4] 33)) = wb at *
  have kg5 := Cells.lt nn
  have D5 := hide nn
  clear nn
  clear D5 kg5
  have ud0 := D0.out
  obtain ⟨xud0_0, xud0_1, xud0_2, xud0_3, xud0_4, xud0_5, xud0_6, xud0_7⟩ := ud0.x8
  clear ud0
  go_upto_region 7 with (go_at_call 11; (with_reducible refine (P1.out _ (KK.out.below L0.out)).mono ?_); rintro e2 w2 ⟨rfl, b2⟩)
  clear xud0_0 xud0_1 xud0_2 xud0_3 xud0_4 xud0_5 xud0_6 xud0_7
  have bn := b2
  replace D0 := hide (Cells.below bn D0.out)
  replace L0 := hide (bstep L0.out bn)
  clear bn b2
  generalize w2 = wc at *
  have ud0 := D0.out
  obtain ⟨xud0_0, xud0_1, xud0_2, xud0_3, xud0_4, xud0_5, xud0_6, xud0_7⟩ := ud0.x8
  clear ud0
  go_upto_region 8 with (go_at_call 15; (with_reducible refine (P2.out _ (KK.out.below L0.out)).mono ?_); rintro e2 w2 ⟨rfl, b2⟩)
  clear xud0_0 xud0_1 xud0_2 xud0_3 xud0_4 xud0_5 xud0_6 xud0_7
  have bn := b2
  replace L0 := hide (bstep L0.out bn)
  clear bn b2
  generalize w2 = wd at *
  clear D0
  have bb : Below wd.heap.size wd wd := Below.refl _ _
  go_upto_region 12 with (first | (go_at_call 16; (with_reducible refine (P4.out _).mono ?_); rintro ep wp ⟨rfl, bp⟩; replace bb := bstep bb bp; clear bp) | (go_at_call 16; (with_reducible refine (P5.out _).mono ?_); rintro eq wq ⟨rfl, bq⟩; replace bb := bstep bb bq; clear bq))
  have sA : Below wd.heap.size wd wq.drew := Below.drew bb
  clear n36 e0 i0'
  focus
    refine wp_region_J [] (fun W => Below wd.heap.size wd W) (by kernel_rfl) (sA) (fun hS0 => ?_)
    refine tJ 0 rfl hS0 ?_
    (try simp only [Act.put, putS])
    refine tJ 1 rfl hS0 ?_
    (try simp only [Act.put, putS])
    refine tJ 2 rfl hS0 ?_
    (try simp only [Act.put, putS])
    refine tJ 3 rfl hS0 ?_
    (try simp only [Act.put, putS])
    refine tJ 4 rfl hS0 ?_
    (try simp only [Act.put, putS])
    refine tJ 5 rfl hS0 ?_
    (try simp only [Act.put, putS])
    refine tJ 6 rfl hS0 ?_
    (try simp only [Act.put, putS])
    refine tJ 7 rfl hS0 ?_
    (try simp only [Act.put, putS])
    refine tJ 8 rfl hS0 ?_
    (try simp only [Act.put, putS])
    refine tJ 9 rfl hS0 ?_
    (try simp only [Act.put, putS])
    refine tJ 10 rfl hS0 ?_
    (try simp only [Act.put, putS])
    refine tJ 11 rfl hS0 ?_
    (try simp only [Act.put, putS])
    refine tJ 12 rfl hS0 ?_
    (try simp only [Act.put, putS])
    refine tJ 13 rfl hS0 ?_
    (try simp only [Act.put, putS])
    refine tJ 14 rfl hS0 ?_
    (try simp only [Act.put, putS])
    refine tJ 15 rfl hS0 ?_
    (try simp only [Act.put, putS])
    refine tJ 16 rfl hS0 ?_
    (try simp only [Act.put, putS])
    refine tJ 17 rfl hS0 ?_
    (try simp only [Act.put, putS])
    refine tJ 18 rfl hS0 ?_
    (try simp only [Act.put, putS])
    refine tJ 19 rfl hS0 ?_
    (try simp only [Act.put, putS])
    refine tJ 20 rfl hS0 ?_
    (try simp only [Act.put, putS])
    refine tJ 21 rfl hS0 ?_
    (try simp only [Act.put, putS])
    refine tJ 22 rfl hS0 ?_
    (try simp only [Act.put, putS])
    refine tJ 23 rfl hS0 ?_
    (try simp only [Act.put, putS])
    refine tJ 24 rfl hS0 ?_
    (try simp only [Act.put, putS])
    refine tJ 25 rfl hS0 ?_
    (try simp only [Act.put, putS])
    refine tJ 26 rfl hS0 ?_
    (try simp only [Act.put, putS])
    refine tJ 27 rfl hS0 ?_
    (try simp only [Act.put, putS])
    refine tJ 28 rfl hS0 ?_
    (try simp only [Act.put, putS])
    refine tJ 29 rfl hS0 ?_
    (try simp only [Act.put, putS])
    refine tJ 30 rfl hS0 ?_
    (try simp only [Act.put, putS])
    refine tJ 31 rfl hS0 ?_
    (try simp only [Act.put, putS])
    refine tJ 32 rfl hS0 ?_
    (try simp only [Act.put, putS])
    refine tJ 33 rfl hS0 ?_
    (try simp only [Act.put, putS])
    refine tJ 34 rfl hS0 ?_
    (try simp only [Act.put, putS])
    refine tJ 35 rfl hS0 ?_
    (try simp only [Act.put, putS])
    refine tJ 36 rfl hS0 ?_
    (try simp only [Act.put, putS])
    refine tJ 37 rfl hS0 ?_
    (try simp only [Act.put, putS])
    refine tJ 38 rfl hS0 ?_
    (try simp only [Act.put, putS])
    refine tJ 39 rfl hS0 ?_
    (try simp only [Act.put, putS])
    refine tJ 40 rfl hS0 ?_
    (try simp only [Act.put, putS])
    refine tJ 41 rfl hS0 ?_
    (try simp only [Act.put, putS])
    refine tJ 42 rfl hS0 ?_
    (try simp only [Act.put, putS])
    refine tJ 43 rfl hS0 ?_
    (try simp only [Act.put, putS])
    refine tJ 44 rfl hS0 ?_
    (try simp only [Act.put, putS])
    refine tJ 47 rfl hS0 ?_
    (try simp only [Act.put, putS])
    refine tJ 48 rfl hS0 ?_
    (try simp only [Act.put, putS])
    refine rJ [45] ?_
    refine (AllReadyJ.cons rfl (fun K hK => ?_) AllReadyJ.nil)
    rw [if_pos (by kernel_rfl)]
    (try simp only [putG])
    (focus go_simp)
    (focus ((with_reducible refine (P6.out _).mono ?_); rintro e wr ⟨rfl, br⟩; have sq := bstep hS0 br))
    (focus (try go_wp2_with fail))
    refine hK.out _ _ ?hs (fun hS0 => ?_)
    case hs => (first | with_reducible exact hS0 | with_reducible exact sq)
    clear hK K
    (try simp only [Act.put, putS])
    refine tJ 46 rfl hS0 ?_
    (try simp only [Act.put, putS])
    refine tJ 49 rfl hS0 ?_
    (try simp only [Act.put, putS])
    refine tJ 50 rfl hS0 ?_
    (try simp only [Act.put, putS])
    refine wpAnyJ_done (by kernel_rfl) ?_ _
  clear sA sq q1 q2 q8 l2 l4 l8 n2 n4 n8 w2 w4 w8 q28 we8 qe bb
  have b0' := hS0
  clear hS0
  go_wp2_with (first | (go_at_call 17; (with_reducible refine (P6.out _).mono ?_); rintro ey wy ⟨rfl, by1⟩; replace b0' := bstep b0' by1; clear by1) | (go_at_call 18; (with_reducible refine (P7.out _).mono ?_); rintro ez wz ⟨rfl, bz⟩; replace b0' := bstep b0' bz; clear bz))
  go_loopg [16] da.size (fun k' p wr => ∃ j : Nat, j + k' = da.size ∧ p = .int .i64 (j : Int) ∧ Below wd.heap.size wd wr)
  case atStart => exact ⟨0, by omega, rfl, b0'⟩
  case round =>
    obtain ⟨j, hj, rfl, hL⟩ := hrel
    by_cases hlt : j < da.size
    · change Code.wp Tryz.prog restBody (Exit.then _ _) _ _
      refine rest_round (fun W => Below wd.heap.size wd W) da db j (e : Int) (k : Int) x0 (at_ (L da) j) (at_ (L db) j) _ _ _ _ _ _ _ _ _ _ _ _ _ _ _ _ _ _ _ _ _ _ _ _ _ _ _ _ _ _ _ _ _ _ _ _ _ _ _ _ _ _ _ _ _ _ _ _ _ _ _ _ _ _ _ _ _ _ _ _ _ _ _ _ _ _ _ _ _ _ _ _ _ _ _ _ _ _ _ _ _ _ _ _ _ _ _ _ _ _ _ _ _ _ _ _ _ _ _ _ _ _ _ _ _ _ _ _ _ _ _ _ _ _ _ _ _ _ _ _ _ _ _ _ _ _ _ _ _ _ _ _ _ _ _ _ _ _ _ _ _ _ _ _ _ _ _ _ _ _ _ _ _ _ _ _ _ _ _ _ _ _ _ _ _ _ _ _ _ _ _ _ _ _ _ _ _ _ _ _ _ _ _ _ _ _ _ _ _ _ _ _ _ _ _ _ _ _ _ _ _ _ _ _ _ _ _ _ _ _ _ _ _ _ _ _ _ _ _ _ _ _ _ _ _ _ _ _ _ _ _ _ _ _ wr _ _ hlt (by omega) (by omega) (by omega) i9 (by omega) (by have := HB.out; omega) (by have := HB.out; omega) (by have := HB.out; omega) C9.out (by rw [getElem_L da j hlt]; rfl) (by rw [getElem_L db j (by omega)]; rfl) (HOK.out j hlt) hL (fun W n h => below_drewN h n) ?_
      intro v17 v18 v129 v130 v131 v132 v133 v134 v135 v136 v137 v138 v139 v140 v141 v142 v143 v144 v145 v146 v147 v148 v149 v150 v151 v152 v153 v154 v155 v156 v157 v158 v159 v160 v161 v162 v163 v164 v165 v166 v167 v168 v169 v170 v171 v172 v173 v174 v175 v176 v177 v178 v179 v180 v181 v182 v183 v184 v185 v186 v187 v188 v189 v190 v191 v192 v193 v194 v195 v196 v197 v198 v199 v200 v201 v202 v203 v204 v205 v206 v207 v208 wx hS
      go_step
      go_roundg (gk - 1)
      case measure => omega
      case rel => exact ⟨j + 1, by omega, by push_cast; rfl, hS⟩
    · have hlt' : ¬ (j : Int) < (da.size : Int) := by omega
      have LL := hide (bstep L0.out hL)
      have i9' : (9 : Int) < (da.size : Int) := by omega
      have c9 := C9.out; have wk1 := WK.out
      clear hL hj hlt b0' L0
      have hz := HZ.out
      clear HZ HOK C9 WK
      rcases hz with hz | ⟨hz, ik, ik1, jk, jk1, ⟨f0, f1, f2, f3⟩, hz2 | ⟨hz2, hz3⟩ | ⟨hz2, hz3, hz4, hz5⟩⟩
      case inl =>
        go_wp2_with fail
        (with_reducible refine (PZ.out _ (TT.out.below LL.out)).mono ?_)
        rintro e w9 ⟨rfl, l9⟩
        go_wp2_with fail
        go_ret
        exact ⟨rfl, bstep LL.out l9⟩
      all_goals
        have g0 : (k : Int) < (da.size : Int) := by omega
        have g1 : (k1 : Int) < (da.size : Int) := by omega
        have g2 : (k : Int) < (db.size : Int) := by omega
        have g3 : (k1 : Int) < (db.size : Int) := by omega
        go_wp2_with fail
        (with_reducible refine (PZ.out _ (TT.out.below LL.out)).mono ?_)
        rintro e w9 ⟨rfl, l9⟩
        go_wp2_with fail
        go_ret
        exact ⟨rfl, bstep LL.out l9⟩
end Go.Proofs.YtjeaknipmdfkdaaGreatDoor
end
