/- Several texts of this claim, one behind the other. -/
import Derived.Test.YtjeaknipmdfkdaaGreatDoorK33

section
/- EmbedsRest: the joins. -/
set_option linter.unusedVariables false
set_option linter.unusedSimpArgs false
namespace Go.Proofs.YtjeaknipmdfkdaaGreatDoor
open Go.RowKit

set_option maxHeartbeats 2000000 in
theorem EmbedsRest_walk (s : ByteArray) (oa ob oc od a b c d : Int) (w : World) (T0 : Tabs w) (hs : s.size ≤ 140737488351232) (hoa : 0 ≤ oa ∧ oa ≤ 4294967295) (hob : 0 ≤ ob ∧ ob ≤ 65535) (hoc : 0 ≤ oc ∧ oc ≤ 4294967295) (hod : 0 ≤ od ∧ od ≤ 65535) (ha : 0 ≤ a ∧ a ≤ 4294967295) (hb : 0 ≤ b ∧ b ≤ 65535) (hc : 0 ≤ c ∧ c ≤ 4294967295) (hd : 0 ≤ d ∧ d ≤ 65535) :
    Calls Tryz.prog 5 #[.string s, .agg #[.int .u32 oa, .int .u16 ob, .int .u32 oc, .int .u16 od, .int .u32 a, .int .u16 b, .int .u32 c, .int .u16 d]] w (Ret (.bool true) w) := by
  by_cases hl : (2500 : Int) < (s.size : Int)
  · exact rest_long s oa ob oc od a b c d w T0 hl
  have p0 := fun W K => takenE s 1 W K hs
  by_cases ht : emsWhy s = 0 ∧ 1 < (seenOf s).l
  · have p1 := fun W K => e_Translate oa ob oc od a b c d s W K hoa hob hoc hod ha hb hc hd hs
    have p2 := fun W K => rw_Apply oa ob oc od s W K hoa hob hoc hod hs
    rw [tkOk_yes ht.1 ht.2] at p0
    obtain ⟨u, hu⟩ : ∃ u, trOut s oa ob oc od a b c d = u := ⟨_, rfl⟩
    obtain ⟨v, hv⟩ : ∃ v, rwOut s oa ob oc od = v := ⟨_, rfl⟩
    obtain ⟨e1, e2, e3, e4, e5, ⟨o, o1, o2, o3, o4, o5⟩, e6, e7, e8, e9, e10, e11, e12⟩ := em_rest (ob := ob) (od := od) ht.1 ht.2 hoa hoc ha hb hc hd u v hu hv
    rw [hu, e1] at p1
    rw [hv, e2] at p2
    have r1 := rest_size s; have r2 := rest_size u
    have p4 := fun W => dataE s (ipRest s) (emData s) W hs rfl e9 (by omega) rfl
    have p5 := fun W => dataE u (ipRest u) (emData u) W (by omega) rfl e10 (by omega) rfl
    have p6 := fun W => headE (emData s) W (by omega)
    have p7 := fun W => sumInE (emData s) W (by omega)
    have hdr : (emData s).size ≤ (ipRest s).size := by unfold emData; show ((ipRest s).extract 8 (ipRest s).size).size ≤ _; rw [ByteArray.size_extract]; omega
    have hk60 : emAt (L (emData s)) ≤ 60 := by unfold emAt emEnd; have := at_bd (L (emData s)) 0; omega
    have hL := L_length (emData s)
    have hy := at_bd (L u) 0
    have hkb : emSumIn (L (emData s)) ≤ 76 ∧ (at_ (L (emData s)) 9 = 17 → emSumIn (L (emData s)) = emAt (L (emData s)) + 6) := by
      unfold emSumIn
      refine ⟨?_, fun h => by rw [if_pos h]⟩
      split
      · omega
      · split
        · omega
        · split <;> omega
    have hok : ∀ j : Nat, j < (emData s).size → at_ (L (emData s)) j = at_ (L (emData u)) j ∨ (((12 ≤ j ∧ j < 20) ∨ (at_ (L (emData s)) 9 ≠ 1 ∧ ((emAt (L (emData s)) : Nat) : Int) ≤ (j : Int) ∧ (j : Int) < ((emAt (L (emData s)) : Nat) : Int) + 4) ∨ (at_ (L (emData s)) 9 = 1 ∧ ((emAt (L (emData s)) : Nat) : Int) + 4 ≤ (j : Int) ∧ (j : Int) < ((emAt (L (emData s)) : Nat) : Int) + 6)) ∨ j = 10 ∨ j = 11 ∨ (0 < ((emSumIn (L (emData s)) : Nat) : Int) ∧ ((j : Int) = ((emSumIn (L (emData s)) : Nat) : Int) ∨ (j : Int) = ((emSumIn (L (emData s)) : Nat) : Int) + 1))) := by
      intro j hj
      rcases em_at e11 a b c d (i := j) (by omega) with h | h
      · left; rw [e12]; exact h
      · right; omega
    have hz := fun (h9 : at_ (L (emData s)) 9 = 17) => em_zero e11 h9 a b c d
    rw [← e12] at hz
    refine rest_yes s u v (emData s) (emData u) o (o + 2) (o + 4) (o + 8) (emAt (L (emData s))) (emAt (L (emData s)) + 8) (emSumIn (L (emData s))) (emSumIn (L (emData s)) + 1) (at_ (L u) 0) (at_ (L (emData s)) 9) (at_ (L (emData s)) (emSumIn (L (emData s)))) (at_ (L (emData s)) (emSumIn (L (emData s)) + 1)) (at_ (L (emData u)) (emSumIn (L (emData s)))) (at_ (L (emData u)) (emSumIn (L (emData s)) + 1)) oa ob oc od a b c d _ _ _ _ _ w T0 hl
      e3 (by omega) (by omega) (by rw [getElem_L u 0 (by omega)]; rfl) ?_ (by omega)
      (by rw [IntKind.wrap_i64]; omega) (by rw [IntKind.wrap_i64]; omega) (by rw [IntKind.wrap_i64]; omega) (decide_eq_false (by omega))
      (by omega) (by omega) (by omega) o4 o5 e6 (decide_eq_false (by omega)) (by rw [IntKind.wrap_i64]; omega) (decide_eq_false (by omega)) hk60 (by omega) (by omega)
      (by omega) (by rw [getElem_L (emData s) 9 (by omega)]; rfl) hok (by rw [IntKind.wrap_i64]; omega) ?_ p0 p1 p2 p4 p5 p6 p7
    · rw [o1]
      have hb := at_bd (L u) 0
      generalize at_ (L u) 0 = y at *
      rw [u8_and15 y hb.1 (by omega)]
      unfold wrap64
      omega
    · by_cases h9 : at_ (L (emData s)) 9 = 17
      · refine Or.inr ⟨by simpa using h9, ?_⟩
        have hk6 := hkb.2 h9
        refine ⟨by omega, by omega, by omega, by omega, ⟨by rw [getElem_L _ _ (by omega)]; rfl, by rw [getElem_L _ _ (by omega)]; rfl, by rw [getElem_L _ _ (by omega)]; rfl, by rw [getElem_L _ _ (by omega)]; rfl⟩, ?_⟩
        by_cases z0 : at_ (L (emData s)) (emSumIn (L (emData s))) = 0
        · by_cases z1 : at_ (L (emData s)) (emSumIn (L (emData s)) + 1) = 0
          · obtain ⟨y0, y1⟩ := hz h9 z0 z1
            exact Or.inr (Or.inr ⟨by rw [z0]; rfl, by rw [z1]; rfl, by rw [y0]; rfl, by rw [y1]; rfl⟩)
          · exact Or.inr (Or.inl ⟨by rw [z0]; rfl, by simpa using z1⟩)
        · exact Or.inl (by simpa using z0)
      · exact Or.inl (by simpa using h9)
  · rw [tkOk_no ht] at p0
    exact rest_no s oa ob oc od a b c d _ _ _ _ _ w T0 hl p0
end Go.Proofs.YtjeaknipmdfkdaaGreatDoor
end
