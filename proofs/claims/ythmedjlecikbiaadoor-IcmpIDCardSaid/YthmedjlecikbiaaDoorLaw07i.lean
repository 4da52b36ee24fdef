/- IcmpID: its walk of every text. -/
import Derived.Test.YthmedjlecikbiaaDoorLaw07h
import Derived.Test.YthmedjlecikbiaaDoorStr
set_option linter.unusedVariables false
namespace Go.Proofs.YthmedjlecikbiaaDoor
open Go.RowKit Go.Maps
attribute [local go_sem] Oper.semAt_some

theorem tl_nil : ({ data := #[] } : ByteArray).toList = [] := by rw [str_toList]; rfl
theorem tl_yes {s : ByteArray} (h : s = { data := #[] }) : (s.toList == []) = true := by rw [h, tl_nil]; rfl
theorem tl_no {s : ByteArray} (h : s ≠ { data := #[] }) : (s.toList == []) = false := by
  have := str_ne h
  rwa [tl_nil] at this
theorem Trim0_ret (s : ByteArray) (w : World) (hs : s.size ≤ 140737488351232) :
    Calls Tryd.prog 26 #[.string s, .string { data := #[0] }] w (Ret (.string (trim0 s)) w) :=
  (Trim0 s w hs).mono fun e w' h => ⟨h.1, by rcases h.2 with h2 | h2 <;> rw [h2]; exact Below.refl _ _; exact (Below.refl _ _).drew⟩

set_option maxHeartbeats 2000000 in
theorem IcmpID_far (s : ByteArray) (f : Bool) (id : Int) (w : World) (K0 : Kinds w) (hg : s.size < 8 ∨ 600 < s.size) :
    Calls Tryd.prog 7 #[.string s, .bool f, .int .u16 id] w (Ret (.bool true) w) := by
  have c0 := fun w k => echoed w k
  have KK := hide K0; have C0 := hide c0
  clear K0 c0
  by_cases g1 : s.size < 8
  · clear hg
    go_enter Tryd.func7, Tryd.ntmps7
    go_wp2_with fail
    (with_reducible refine (C0.out _ (KK.out.below (by (repeat' (first | with_reducible exact Below.refl _ _ | with_reducible refine Below.setCell ?_ (by first | exact Nat.le_refl _ | (dsimp only; omega)) _ | with_reducible refine bstep ?_ (fresh_below _ _) | with_reducible refine Below.drew ?_))))).mono ?_)
    rintro e w1 ⟨rfl, b1⟩
    replace b1 : Below w.heap.size w w1 := by (refine bstep ?_ b1); (repeat' (first | with_reducible exact Below.refl _ _ | with_reducible refine Below.setCell ?_ (by first | exact Nat.le_refl _ | (dsimp only; omega)) _ | with_reducible refine bstep ?_ (fresh_below _ _) | with_reducible refine Below.drew ?_))
    have z1 : w.heap.size ≤ w1.heap.size := b1.size
    go_wp2_with fail
    go_ret
    exact ⟨rfl, (by (repeat' (first | with_reducible exact b1 | with_reducible exact Below.refl _ _ | with_reducible refine Below.setCell ?_ (by first | exact Nat.le_refl _ | (dsimp only; omega)) _ | with_reducible refine bstep ?_ (fresh_below _ _) | with_reducible refine Below.drew ?_)))⟩
  have g2 : 600 < s.size := by omega
  clear hg
  go_enter Tryd.func7, Tryd.ntmps7
  go_wp2_with fail
  (with_reducible refine (C0.out _ (KK.out.below (by (repeat' (first | with_reducible exact Below.refl _ _ | with_reducible refine Below.setCell ?_ (by first | exact Nat.le_refl _ | (dsimp only; omega)) _ | with_reducible refine bstep ?_ (fresh_below _ _) | with_reducible refine Below.drew ?_))))).mono ?_)
  rintro e w1 ⟨rfl, b1⟩
  replace b1 : Below w.heap.size w w1 := by (refine bstep ?_ b1); (repeat' (first | with_reducible exact Below.refl _ _ | with_reducible refine Below.setCell ?_ (by first | exact Nat.le_refl _ | (dsimp only; omega)) _ | with_reducible refine bstep ?_ (fresh_below _ _) | with_reducible refine Below.drew ?_))
  have z1 : w.heap.size ≤ w1.heap.size := b1.size
  go_wp2_with fail
  go_ret
  exact ⟨rfl, (by (repeat' (first | with_reducible exact b1 | with_reducible exact Below.refl _ _ | with_reducible refine Below.setCell ?_ (by first | exact Nat.le_refl _ | (dsimp only; omega)) _ | with_reducible refine bstep ?_ (fresh_below _ _) | with_reducible refine Below.drew ?_)))⟩

set_option maxHeartbeats 4000000 in
theorem IcmpID_walk (s : ByteArray) (f : Bool) (id : Int) (w : World) (K0 : Kinds w) (hs : s.size ≤ 140737488351232) (hi : 0 ≤ id ∧ id ≤ 65535) :
    Calls Tryd.prog 7 #[.string s, .bool f, .int .u16 id] w (Ret (.bool true) w) := by
  by_cases hg : s.size < 8 ∨ 600 < s.size
  · exact IcmpID_far s f id w K0 hg
  have hsz : ∀ v : ByteArray, v.size = s.size → 8 ≤ v.size := fun v h => by omega
  have main : ∀ v : ByteArray, v.size = s.size → (f = true → ∀ w, Calls Tryd.prog 11 #[.string s] w (Ret (.string v) w)) → (f = false → v = s) →
      Calls Tryd.prog 7 #[.string s, .bool f, .int .u16 id] w (Ret (.bool true) w) := by
    intro v hv hp hq
    have h8 : 8 ≤ v.size := by omega
    obtain ⟨e1, e2, e3⟩ := msgNew_right v id h8 hi
    have ho := msgOf_ok (s := v) (by omega)
    have hoy := msgID_ok ho id
    have hqb : 0 ≤ get16 (L (msgOf v).r) 0 ∧ get16 (L (msgOf v).r) 0 ≤ 65535 := get16_bd _ _
    have hub := upd_bd (n := (msgOf v).n) (a := get16 (L (msgOf v).r) 0) (b := id) ho.2.2.1 hqb hi
    have hnew : (msgNew v id).Ok := ⟨hoy.1, hoy.2.1, hub, hoy.2.2.2.1, hoy.2.2.2.2⟩
    have hz4 : (msgOf v).r.size = 4 := by show (v.extract 4 8).size = 4; rw [ByteArray.size_extract]; omega
    have hr4 : (msgNew v id).r.size = 4 := by
      show (msgID (msgOf v) id).r.size = 4
      unfold msgID
      simp only
      rw [if_pos (by omega), S_size, lay_length (by rw [L_length]; omega), L_length, hz4]
    have p2 := fun w => i_Parse_yes v w (by omega) h8
    have p3 := fun w => i_WithID (msgOf v) id w ho hi
    have p4 := fun w => i_ID (msgOf v) w ho
    have p5 : ∀ w, Calls Tryd.prog 25 #[.int .u16 (msgOf v).n, .int .u16 (get16 (L (msgOf v).r) 0), .int .u16 id] w (Ret (.int .u16 (upd (msgOf v).n (get16 (L (msgOf v).r) 0) id)) w) := fun w => (Update (msgOf v).n (get16 (L (msgOf v).r) 0) id w ho.2.2.1 hqb hi).mono fun e w' h => ⟨h.1, by rw [← h.2]; exact Below.refl _ _⟩
    have p6 := fun w => i_Put_yes (msgNew v id) w hnew hr4
    have p7 := fun w => Trim0_ret v w (by omega)
    have p8 := fun w => Trim0_ret (S (msgPut (msgNew v id))) w (by omega)
    have p9 := fun w => i_Check (S (msgPut (msgNew v id))) w (by omega)
    have p10 := fun w => i_Check v w (by omega)
    have hz : (S (msgPut (msgNew v id))).size = s.size := by omega
    have q6 : (((S (msgPut (msgNew v id))).extract 6 s.size).toList == (v.extract 6 s.size).toList) = true := by
      rw [hz, hv] at e2
      rw [e2]; simp
    have hb9 : (decide (8 ≤ (S (msgPut (msgNew v id))).size) && holds [L (S (msgPut (msgNew v id)))]) = holds [L (S (msgPut (msgNew v id)))] := by
      rw [decide_eq_true (show 8 ≤ (S (msgPut (msgNew v id))).size by omega)]; rfl
    have hb10 : (decide (8 ≤ v.size) && holds [L v]) = holds [L v] := by rw [decide_eq_true h8]; rfl
    rw [hb9] at p9
    rw [hb10] at p10
    by_cases k1 : trim0 v = { data := #[] }
    · -- nothing but bytes 0: whether it is right is not asked
      cases f with
      | true => exact IcmpID_sA s v _ _ _ id w K0 (by omega) (by omega) _ _ _ _ _ _ _ _ _ _ _ _ (holds [L v]) hv (hp rfl) p2 p3 p4 p5 p6 p7 p8 p10 hz q6 (tl_yes k1)
      | false =>
        obtain rfl := hq rfl
        exact IcmpID_pA v _ _ _ id w K0 (by omega) (by omega) _ _ _ _ _ _ _ _ _ _ _ _ (holds [L v]) p2 p3 p4 p5 p6 p7 p8 p10 hz q6 (tl_yes k1)
    by_cases k2 : trim0 (S (msgPut (msgNew v id))) = { data := #[] }
    · cases f with
      | true => exact IcmpID_sB s v _ _ _ id w K0 (by omega) (by omega) _ _ _ _ _ _ _ _ _ _ _ _ (holds [L v]) hv (hp rfl) p2 p3 p4 p5 p6 p7 p8 p10 hz q6 ⟨tl_no k1, tl_yes k2⟩
      | false =>
        obtain rfl := hq rfl
        exact IcmpID_pB v _ _ _ id w K0 (by omega) (by omega) _ _ _ _ _ _ _ _ _ _ _ _ (holds [L v]) p2 p3 p4 p5 p6 p7 p8 p10 hz q6 ⟨tl_no k1, tl_yes k2⟩
    rw [e3 k1 k2] at p9
    cases f with
    | true => exact IcmpID_sC s v _ _ _ id w K0 (by omega) (by omega) _ _ _ _ _ _ _ _ _ _ _ _ (holds [L v]) hv (hp rfl) p2 p3 p4 p5 p6 p7 p8 p9 p10 hz q6 ⟨tl_no k1, tl_no k2⟩
    | false =>
      obtain rfl := hq rfl
      exact IcmpID_pC v _ _ _ id w K0 (by omega) (by omega) _ _ _ _ _ _ _ _ _ _ _ _ (holds [L v]) p2 p3 p4 p5 p6 p7 p8 p9 p10 hz q6 ⟨tl_no k1, tl_no k2⟩
  cases f with
  | true =>
    have hl : (icmpSeal (L s)).length = s.size := by
      unfold icmpSeal
      split
      · rw [L_length]
      · rw [lay_length (by rw [L_length]; omega), L_length]
    exact main (S (icmpSeal (L s))) (by rw [S_size, hl]) (fun _ w => i_Seal s w hs) (fun h => by cases h)
  | false => exact main s rfl (fun h => by cases h) (fun _ => rfl)
end Go.Proofs.YthmedjlecikbiaaDoor
