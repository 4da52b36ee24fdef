/- The laws of layer 2 that ask the document's answer, walked. -/
import Derived.Test.YtcghhnehmddoeaaDoorRef02
import Derived.Deep.RegionHeld3
set_option linter.unusedVariables false
namespace Go.Proofs.YtcghhnehmddoeaaDoor
open Go.RowKit

/-- more texts than 8, or longer ones than 400 among the first 9 -/
def greatB (ss : List ByteArray) : Bool := (ss.take 9).any (fun s => decide (400 < s.size)) || decide (8 < ss.length)
theorem great_no {ss : List ByteArray} (h : greatB ss = false) : ss.length ≤ 8 ∧ ∀ s ∈ ss, s.size ≤ 400 := by
  unfold greatB at h
  simp only [Bool.or_eq_false_iff, decide_eq_false_iff_not] at h
  have hl : ss.length ≤ 8 := by omega
  refine ⟨hl, fun s hs => ?_⟩
  have := List.any_eq_false.1 h.1 s (by rw [List.take_of_length_le (by omega)]; exact hs)
  simpa using this

set_option maxHeartbeats 2000000 in
theorem summed (w : World) : Calls Tryd.prog 5 #[] w (Ret (.bool true) w) := by
  have v1 : add1 65535 1 = 1 := by decide
  have v2 : add1 65535 0 = 65535 := by decide
  have v3 : sumL ([].map L) = 65535 := by decide +kernel
  have v4 : sumL ([({ data := #[0, 1, 242, 3, 244, 245, 246, 247] } : ByteArray)].map L) = 8717 := by decide +kernel
  have v5 : sumL ([({ data := #[1] } : ByteArray)].map L) = 65279 := by decide +kernel
  have v6 : sumL ([({ data := #[1] } : ByteArray), { data := #[1] }].map L) = 65023 := by decide +kernel
  have v7 : holds ([].map L) = false := by decide +kernel
  have v8 : holds ([({ data := #[255, 255] } : ByteArray)].map L) = true := by decide +kernel
  have v9 : upd 8717 1 2 = 8716 := by decide
  have c1 := fun w => Add 65535 1 w (by omega) (by omega)
  have c2 := fun w => Add 65535 0 w (by omega) (by omega)
  have c3 := fun w => Sum none 0 0 [] w Row.nil (by simp) (by omega)
  have c4 := fun (w : World) => Sum (some ⟨w.heap.size, 0, none⟩) 1 1 [({ data := #[0, 1, 242, 3, 244, 245, 246, 247] } : ByteArray)] _ (Row.freshN w #[.string { data := #[0, 1, 242, 3, 244, 245, 246, 247] }] 9 _ _ rfl rfl) (by decide) (by omega)
  have c5 := fun (w : World) => Sum (some ⟨w.heap.size, 0, none⟩) 1 1 [({ data := #[1] } : ByteArray)] _ (Row.freshN w #[.string { data := #[1] }] 9 _ _ rfl rfl) (by decide) (by omega)
  have c6 := fun (w : World) => Sum (some ⟨w.heap.size, 0, none⟩) 2 2 [({ data := #[1] } : ByteArray), { data := #[1] }] _ (Row.freshN w #[.string { data := #[1] }, .string { data := #[1] }] 9 _ _ rfl rfl) (by decide) (by omega)
  have c7 := fun w => Holds none 0 0 [] w Row.nil (by simp) (by omega)
  have c8 := fun (w : World) => Holds (some ⟨w.heap.size, 0, none⟩) 1 1 [({ data := #[255, 255] } : ByteArray)] _ (Row.freshN w #[.string { data := #[255, 255] }] 9 _ _ rfl rfl) (by decide) (by omega)
  have c9 := fun w => Update 8717 1 2 w (by omega) (by omega) (by omega)
  rw [v1] at c1; rw [v2] at c2; rw [v3] at c3; rw [v4] at c4; rw [v5] at c5; rw [v6] at c6; rw [v7] at c7; rw [v8] at c8; rw [v9] at c9
  have C1 := hide c1; have C2 := hide c2; have C3 := hide c3; have C4 := hide c4; have C5 := hide c5; have C6 := hide c6; have C7 := hide c7; have C8 := hide c8; have C9 := hide c9
  clear c1 c2 c3 c4 c5 c6 c7 c8 c9 v1 v2 v3 v4 v5 v6 v7 v8 v9
  go_enter Tryd.func5, Tryd.ntmps5
  go_wp2_with fail
  refine (C1.out _).mono ?_
  rintro e w1 ⟨rfl, rfl⟩
  go_wp2_with fail
  refine (C2.out _).mono ?_
  rintro e w2 ⟨rfl, rfl⟩
  go_wp2_with fail
  refine (C3.out _).mono ?_
  rintro e w3 ⟨rfl, b3⟩
  go_wp2_with fail
  refine (C4.out _).mono ?_
  rintro e w4 ⟨rfl, b4⟩
  replace b4 := bstep (bstep b3 (fresh_below _ _)) b4
  go_wp2_with fail
  refine (C5.out _).mono ?_
  rintro e w5 ⟨rfl, b5⟩
  replace b5 := bstep (bstep b4 (fresh_below _ _)) b5
  go_wp2_with fail
  refine (C6.out _).mono ?_
  rintro e w6 ⟨rfl, b6⟩
  replace b6 := bstep (bstep b5 (fresh_below _ _)) b6
  go_wp2_with fail
  refine (C7.out _).mono ?_
  rintro e w7 ⟨rfl, b7⟩
  replace b7 := bstep b6 b7
  go_wp2_with fail
  refine (C8.out _).mono ?_
  rintro e w8 ⟨rfl, b8⟩
  replace b8 := bstep (bstep b7 (fresh_below _ _)) b8
  go_wp2_with fail
  refine (C9.out _).mono ?_
  rintro e w9 ⟨rfl, rfl⟩
  go_wp2_with fail
  go_ret
  exact ⟨rfl, b8⟩

end Go.Proofs.YtcghhnehmddoeaaDoor
