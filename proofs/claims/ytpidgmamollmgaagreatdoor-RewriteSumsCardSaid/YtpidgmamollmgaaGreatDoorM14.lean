/- Several texts of this claim, one behind the other. -/
import Derived.Test.YtpidgmamollmgaaGreatDoorM13

section
/- The document's answer for tcp (porterref06) over this program: what a text is as a segment. -/
set_option linter.unusedVariables false
set_option linter.unusedSimpArgs false
namespace Go.Proofs.YtpidgmamollmgaaGreatDoor
open Go.RowKit
attribute [local go_sem] Oper.semAt_some

theorem q_Get16 (s : ByteArray) (i : Nat) (w : World) (hs : s.size ≤ maxLen) (h : i + 2 ≤ s.size) :
    Calls Tryz.prog 97 #[.string s, .int .i64 i] w (fun e w' => e = .returned (.tuple #[.int .u16 (get16 (L s) i), .bool true]) ∧ w' = w) := by
  have h2 : i + 2 ≤ (L s).length := by rw [L_length]; exact h
  rw [get16_nat h2, ← ben2]
  obtain ⟨b1, b2⟩ := be16_bd (L s) i
  rw [← ben2] at b1 b2
  go_enter Tryz.func97, Tryz.ntmps97
  go_wp2_with fail
  refine (r_Get_in s i 2 _ hs (by omega) (by omega)).mono ?_
  rintro e w1 ⟨rfl, rfl⟩
  go_wp2_with fail
  go_ret2
  exact ⟨rfl, rfl⟩
theorem q_Get32 (s : ByteArray) (i : Nat) (w : World) (hs : s.size ≤ maxLen) (h : i + 4 ≤ s.size) :
    Calls Tryz.prog 98 #[.string s, .int .i64 i] w (fun e w' => e = .returned (.tuple #[.int .u32 (get32 (L s) i), .bool true]) ∧ w' = w) := by
  have h2 : i + 4 ≤ (L s).length := by rw [L_length]; exact h
  rw [get32_nat h2, ← ben4]
  go_enter Tryz.func98, Tryz.ntmps98
  go_wp2_with fail
  refine (r_Get_in s i 4 _ hs (by omega) (by omega)).mono ?_
  rintro e w1 ⟨rfl, rfl⟩
  go_wp2_with fail
  go_ret2
  exact ⟨rfl, rfl⟩
theorem r6_two (s : ByteArray) (i : Nat) (w : World) (hs : s.size ≤ maxLen) (h : i + 2 ≤ s.size) :
    Calls Tryz.prog 94 #[.string s, .int .i64 i] w (fun e w' => e = .returned (.int .u16 (get16 (L s) i)) ∧ w' = w) := by
  have c := fun w => q_Get16 s i w hs h
  obtain ⟨x, hx⟩ : ∃ x, x = get16 (L s) i := ⟨_, rfl⟩
  rw [← hx] at c ⊢
  have C := hide c
  clear c hx
  go_enter Tryz.func94, Tryz.ntmps94
  go_wp2_with fail
  (with_reducible refine (C.out _).mono ?_)
  rintro e w1 ⟨rfl, rfl⟩
  go_wp2_with fail
  go_ret
  exact ⟨rfl, rfl⟩
theorem r6_four (s : ByteArray) (i : Nat) (w : World) (hs : s.size ≤ maxLen) (h : i + 4 ≤ s.size) :
    Calls Tryz.prog 95 #[.string s, .int .i64 i] w (fun e w' => e = .returned (.int .u32 (get32 (L s) i)) ∧ w' = w) := by
  have c := fun w => q_Get32 s i w hs h
  obtain ⟨x, hx⟩ : ∃ x, x = get32 (L s) i := ⟨_, rfl⟩
  rw [← hx] at c ⊢
  have C := hide c
  clear c hx
  go_enter Tryz.func95, Tryz.ntmps95
  go_wp2_with fail
  (with_reducible refine (C.out _).mono ?_)
  rintro e w1 ⟨rfl, rfl⟩
  go_wp2_with fail
  go_ret
  exact ⟨rfl, rfl⟩

set_option maxHeartbeats 1000000 in
theorem r6_Parse_no (s : ByteArray) (w : World) (hs : s.size ≤ 140737488351232) (h : tcpIs s = false) :
    Calls Tryz.prog 43 #[.string s] w (Ret (.tuple #[.agg #[.int .u16 0, .int .u16 0, .int .u32 0, .int .u32 0, .int .u8 0, .int .u8 0, .int .u16 0, .int .u16 0, .int .u16 0, .string { data := #[] }], .string { data := #[] }, .bool false]) w) := by
  by_cases h8 : s.size < 20
  · have q2 : (s.size : Int) < 20 := by omega
    clear h
    go_enter Tryz.func43, Tryz.ntmps43
    go_wp2_with fail
    (try simp only [Exit.inBlock, Exit.then]); refine bodyPost_ret (by simp [results, Tryz.results43, go_sem]; try rfl) rfl ?_
    exact ⟨rfl, (by (repeat' (first | with_reducible exact Below.refl _ _ | with_reducible refine Below.setCell ?_ (by first | exact Nat.le_refl _ | (dsimp only; omega)) _ | with_reducible refine bstep ?_ (fresh_below _ _) | with_reducible refine Below.drew ?_)))⟩
  · have q2 : ¬ (s.size : Int) < 20 := by omega
    have e0 : (((s[12]'(by omega)).toNat : Nat) : Int) = at_ (L s) 12 := by rw [getElem_L s 12 (by omega)]; rfl
    have hb := at_bd (L s) 12
    have ho : tcpOwn (L s) < 20 ∨ (s.size : Int) < tcpOwn (L s) := by unfold tcpIs at h; simp at h; omega
    unfold tcpOwn at ho
    have i4 : (12 : Int) < (s.size : Int) := by omega
    have i5 : 12 < s.size := by omega
    obtain ⟨x, hx⟩ : ∃ x, x = at_ (L s) 12 := ⟨_, rfl⟩
    rw [← hx] at e0 hb ho
    clear hx h
    have hcase : x / 16 * 4 < 20 ∨ (¬ x / 16 * 4 < 20 ∧ (s.size : Int) < x / 16 * 4) := by omega
    clear ho
    rcases hcase with ho | ⟨ho1, ho2⟩
    all_goals
      go_enter Tryz.func43, Tryz.ntmps43
      go_wp2_with fail
      (try simp only [Exit.inBlock, Exit.then]); refine bodyPost_ret (by simp [results, Tryz.results43, go_sem]; try rfl) rfl ?_
      exact ⟨rfl, (by (repeat' (first | with_reducible exact Below.refl _ _ | with_reducible refine Below.setCell ?_ (by first | exact Nat.le_refl _ | (dsimp only; omega)) _ | with_reducible refine bstep ?_ (fresh_below _ _) | with_reducible refine Below.drew ?_)))⟩
set_option maxRecDepth 100000 in
set_option maxHeartbeats 2000000 in
theorem r6_Parse_yes (s : ByteArray) (w : World) (hs : s.size ≤ 140737488351232) (h : tcpIs s = true) :
    Calls Tryz.prog 43 #[.string s] w (Ret (.tuple #[.agg (segOf s).cells, .string (s.extract (tcpOwn (L s)).toNat s.size), .bool true]) w) := by
  have h1 : 20 ≤ s.size ∧ 20 ≤ tcpOwn (L s) ∧ tcpOwn (L s) ≤ s.size := by unfold tcpIs at h; simpa [and_assoc] using h
  obtain ⟨h20, o20, oN⟩ := h1
  have e0 : (((s[12]'(by omega)).toNat : Nat) : Int) = at_ (L s) 12 := by rw [getElem_L s 12 (by omega)]; rfl
  have e1 : (((s[13]'(by omega)).toNat : Nat) : Int) = at_ (L s) 13 := by rw [getElem_L s 13 (by omega)]; rfl
  have hb := at_bd (L s) 12
  have hb2 := at_bd (L s) 13
  have i4 : (12 : Int) < (s.size : Int) := by omega
  have i5 : 12 < s.size := by omega
  have i6 : (13 : Int) < (s.size : Int) := by omega
  have i7 : 13 < s.size := by omega
  have q2 : ¬ (s.size : Int) < 20 := by omega
  obtain ⟨v, hv⟩ : ∃ v, v = (segOf s).cells := ⟨_, rfl⟩
  rw [← hv]
  unfold tcpOwn at o20 oN ⊢
  obtain ⟨x, hx⟩ : ∃ x, x = at_ (L s) 12 := ⟨_, rfl⟩
  obtain ⟨y, hy⟩ : ∃ y, y = at_ (L s) 13 := ⟨_, rfl⟩
  rw [← hx] at e0 hb o20 oN ⊢
  rw [← hy] at e1 hb2
  have o1 : ¬ x / 16 * 4 < 20 := by omega
  have o2 : ¬ (s.size : Int) < x / 16 * 4 := by omega
  have HV := hide hv; have HX := hide hx; have HY := hide hy
  clear hv hx hy h
  obtain ⟨p0, hp0⟩ : ∃ p, p = get16 (L s) 0 := ⟨_, rfl⟩
  obtain ⟨p1, hp1⟩ : ∃ p, p = get16 (L s) 2 := ⟨_, rfl⟩
  obtain ⟨p2, hp2⟩ : ∃ p, p = get32 (L s) 4 := ⟨_, rfl⟩
  obtain ⟨p3, hp3⟩ : ∃ p, p = get32 (L s) 8 := ⟨_, rfl⟩
  obtain ⟨p4, hp4⟩ : ∃ p, p = get16 (L s) 14 := ⟨_, rfl⟩
  obtain ⟨p5, hp5⟩ : ∃ p, p = get16 (L s) 16 := ⟨_, rfl⟩
  obtain ⟨p6, hp6⟩ : ∃ p, p = get16 (L s) 18 := ⟨_, rfl⟩
  have c0 := fun W => r6_two s 0 W (by unfold maxLen; omega) (by omega)
  rw [show ((0 : Nat) : Int) = 0 from rfl, ← hp0] at c0
  have c1 := fun W => r6_two s 2 W (by unfold maxLen; omega) (by omega)
  rw [show ((2 : Nat) : Int) = 2 from rfl, ← hp1] at c1
  have c2 := fun W => r6_four s 4 W (by unfold maxLen; omega) (by omega)
  rw [show ((4 : Nat) : Int) = 4 from rfl, ← hp2] at c2
  have c3 := fun W => r6_four s 8 W (by unfold maxLen; omega) (by omega)
  rw [show ((8 : Nat) : Int) = 8 from rfl, ← hp3] at c3
  have c4 := fun W => r6_two s 14 W (by unfold maxLen; omega) (by omega)
  rw [show ((14 : Nat) : Int) = 14 from rfl, ← hp4] at c4
  have c5 := fun W => r6_two s 16 W (by unfold maxLen; omega) (by omega)
  rw [show ((16 : Nat) : Int) = 16 from rfl, ← hp5] at c5
  have c6 := fun W => r6_two s 18 W (by unfold maxLen; omega) (by omega)
  rw [show ((18 : Nat) : Int) = 18 from rfl, ← hp6] at c6
  have hend : v = #[.int .u16 p0, .int .u16 p1, .int .u32 p2, .int .u32 p3, .int .u8 (x % 16), .int .u8 y, .int .u16 p4, .int .u16 p5, .int .u16 p6, .string (s.extract 20 (x / 16 * 4).toNat)] := by rw [HV.out, HX.out, HY.out, hp0, hp1, hp2, hp3, hp4, hp5, hp6]; rfl
  have C0 := hide c0
  have C1 := hide c1
  have C2 := hide c2
  have C3 := hide c3
  have C4 := hide c4
  have C5 := hide c5
  have C6 := hide c6
  have HE := hide hend
  clear c0 c1 c2 c3 c4 c5 c6 hp0 hp1 hp2 hp3 hp4 hp5 hp6 hend HV HX HY
  go_enter Tryz.func43, Tryz.ntmps43
  have d0 := Cells.new w #[.int .u16 0, .int .u16 0, .int .u32 0, .int .u32 0, .int .u8 0, .int .u8 0, .int .u16 0, .int .u16 0, .int .u16 0, .string { data := #[] }] 92
  go_wp2_with fail
  refine' share (P := _) (fun key => ?main) ?rest
  case main =>
    refine wp_region_held_drew (S := fun _ => True) (by kernel_rfl) trivial (fun _ => ?_)
    refine wpAnyH_take (i := 0) (v := ?v0_1) rfl (by kernel_rfl) (by kernel_rfl) (by kernel_rfl) (fun _ _ _ h => h) (Or.inl (And.intro rfl ?q0_1)) trivial ?r0_1; (case q0_1 => (intro w _; (try dsimp only); (try go_simp); (try with_reducible rfl)))
    try simp only [Act.put, List.setIfInBounds_toArray, List.set_cons_zero, List.set_cons_succ]
    refine wpAnyH_take (i := 2) (v := ?v2_2) rfl (by kernel_rfl) (by kernel_rfl) (by kernel_rfl) (fun _ _ _ h => h) (Or.inl (And.intro rfl ?q2_2)) trivial ?r2_2; (case q2_2 => (intro w _; (try dsimp only); (try go_simp); (try with_reducible rfl)))
    try simp only [Act.put, List.setIfInBounds_toArray, List.set_cons_zero, List.set_cons_succ]
    refine wpAnyH_take (i := 4) (v := ?v4_3) rfl (by kernel_rfl) (by kernel_rfl) (by kernel_rfl) (fun _ _ _ h => h) (Or.inl (And.intro rfl ?q4_3)) trivial ?r4_3; (case q4_3 => (intro w _; (try dsimp only); (try go_simp); (try with_reducible rfl)))
    try simp only [Act.put, List.setIfInBounds_toArray, List.set_cons_zero, List.set_cons_succ]
    refine wpAnyH_take (i := 6) (v := ?v6_4) rfl (by kernel_rfl) (by kernel_rfl) (by kernel_rfl) (fun _ _ _ h => h) (Or.inl (And.intro rfl ?q6_4)) trivial ?r6_4; (case q6_4 => (intro w _; (try dsimp only); (try go_simp); (try with_reducible rfl)))
    try simp only [Act.put, List.setIfInBounds_toArray, List.set_cons_zero, List.set_cons_succ]
    refine wpAnyH_take (i := 8) (v := ?v8_5) rfl (by kernel_rfl) (by kernel_rfl) (by kernel_rfl) (fun _ _ _ h => h) (Or.inl (And.intro rfl ?q8_5)) trivial ?r8_5; (case q8_5 => (intro w _; (try dsimp only); (try go_simp); (try with_reducible rfl)))
    try simp only [Act.put, List.setIfInBounds_toArray, List.set_cons_zero, List.set_cons_succ]
    refine wpAnyH_take (i := 9) (v := ?v9_6) rfl (by kernel_rfl) (by kernel_rfl) (by kernel_rfl) (fun _ _ _ h => h) (Or.inl (And.intro rfl ?q9_6)) trivial ?r9_6; (case q9_6 => (intro w _; (try dsimp only); (try go_simp); (try with_reducible rfl)))
    try simp only [Act.put, List.setIfInBounds_toArray, List.set_cons_zero, List.set_cons_succ]
    refine wpAnyH_take (i := 10) (v := ?v10_7) rfl (by kernel_rfl) (by kernel_rfl) (by kernel_rfl) (fun _ _ _ h => h) (Or.inl (And.intro rfl ?q10_7)) trivial ?r10_7; (case q10_7 => (intro w _; (try dsimp only); (try go_simp); (try with_reducible rfl)))
    try simp only [Act.put, List.setIfInBounds_toArray, List.set_cons_zero, List.set_cons_succ]
    refine wpAnyH_take (i := 11) (v := ?v11_8) rfl (by kernel_rfl) (by kernel_rfl) (by kernel_rfl) (fun _ _ _ h => h) (Or.inl (And.intro rfl ?q11_8)) trivial ?r11_8; (case q11_8 => (intro w _; (try dsimp only); (try go_simp); (try with_reducible rfl)))
    try simp only [Act.put, List.setIfInBounds_toArray, List.set_cons_zero, List.set_cons_succ]
    refine wpAnyH_take (i := 12) (v := ?v12_9) rfl (by kernel_rfl) (by kernel_rfl) (by kernel_rfl) (fun _ _ _ h => h) (Or.inl (And.intro rfl ?q12_9)) trivial ?r12_9; (case q12_9 => (intro w _; (try dsimp only); (try go_simp); (try with_reducible rfl)))
    try simp only [Act.put, List.setIfInBounds_toArray, List.set_cons_zero, List.set_cons_succ]
    refine wpAnyH_take (i := 13) (v := ?v13_10) rfl (by kernel_rfl) (by kernel_rfl) (by kernel_rfl) (fun _ _ _ h => h) (Or.inl (And.intro rfl ?q13_10)) trivial ?r13_10; (case q13_10 => (intro w _; (try dsimp only); (try go_simp); (try with_reducible rfl)))
    try simp only [Act.put, List.setIfInBounds_toArray, List.set_cons_zero, List.set_cons_succ]
    refine wpAnyH_take (i := 15) (v := ?v15_11) rfl (by kernel_rfl) (by kernel_rfl) (by kernel_rfl) (fun _ _ _ h => h) (Or.inl (And.intro rfl ?q15_11)) trivial ?r15_11; (case q15_11 => (intro w _; (try dsimp only); (try go_simp); (try with_reducible rfl)))
    try simp only [Act.put, List.setIfInBounds_toArray, List.set_cons_zero, List.set_cons_succ]
    refine wpAnyH_take (i := 17) (v := ?v17_12) rfl (by kernel_rfl) (by kernel_rfl) (by kernel_rfl) (fun _ _ _ h => h) (Or.inl (And.intro rfl ?q17_12)) trivial ?r17_12; (case q17_12 => (intro w _; (try dsimp only); (try go_simp); (try with_reducible rfl)))
    try simp only [Act.put, List.setIfInBounds_toArray, List.set_cons_zero, List.set_cons_succ]
    refine wpAnyH_take (i := 19) (v := ?v19_13) rfl (by kernel_rfl) (by kernel_rfl) (by kernel_rfl) (fun _ _ _ h => h) (Or.inl (And.intro rfl ?q19_13)) trivial ?r19_13; (case q19_13 => (intro w _; (try dsimp only); (try go_simp); (try with_reducible rfl)))
    try simp only [Act.put, List.setIfInBounds_toArray, List.set_cons_zero, List.set_cons_succ]
    refine wpAnyH_take (i := 20) (v := ?v20_14) rfl (by kernel_rfl) (by kernel_rfl) (by kernel_rfl) (fun _ _ _ h => h) (Or.inl (And.intro rfl ?q20_14)) trivial ?r20_14; (case q20_14 => (intro w _; (try dsimp only); (try go_simp); (try with_reducible rfl)))
    try simp only [Act.put, List.setIfInBounds_toArray, List.set_cons_zero, List.set_cons_succ]
    refine wpAnyH_take (i := 21) (v := ?v21_15) rfl (by kernel_rfl) (by kernel_rfl) (by kernel_rfl) (fun _ _ _ h => h) (Or.inl (And.intro rfl ?q21_15)) trivial ?r21_15; (case q21_15 => (intro w _; (try dsimp only); (try go_simp); (try with_reducible rfl)))
    try simp only [Act.put, List.setIfInBounds_toArray, List.set_cons_zero, List.set_cons_succ]
    refine wpAnyH_ready (rs := [1, 23]) (by kernel_rfl) (by simp) ?_
    refine AllReadyH.cons rfl (fun K hK => ?_) (AllReadyH.cons rfl (fun K hK => ?_) AllReadyH.nil)
    · skip
      rw [if_pos (by rfl)]
      (try simp only [List.getElem_toArray, List.getElem_cons_succ, List.getElem_cons_zero])
      go_simp
      (with_reducible refine (C0.out _).mono ?_)
      rintro e wq ⟨rfl, rfl⟩
      (try rw [alloc_drewN])
      try go_wp2_with fail
      refine hK.out _ _ trivial (fun _ => ?_)
      clear hK K
      try simp only [Act.put, List.setIfInBounds_toArray, List.set_cons_zero, List.set_cons_succ]
      refine wpAnyH_ready (rs := [3, 23]) (by kernel_rfl) (by simp) ?_
      refine AllReadyH.cons rfl (fun K hK => ?_) (AllReadyH.cons rfl (fun K hK => ?_) AllReadyH.nil)
      · skip
        rw [if_pos (by rfl)]
        (try simp only [List.getElem_toArray, List.getElem_cons_succ, List.getElem_cons_zero])
        go_simp
        (with_reducible refine (C1.out _).mono ?_)
        rintro e wq ⟨rfl, rfl⟩
        (try rw [alloc_drewN])
        try go_wp2_with fail
        refine hK.out _ _ trivial (fun _ => ?_)
        clear hK K
        try simp only [Act.put, List.setIfInBounds_toArray, List.set_cons_zero, List.set_cons_succ]
        refine wpAnyH_ready (rs := [5, 23]) (by kernel_rfl) (by simp) ?_
        refine AllReadyH.cons rfl (fun K hK => ?_) (AllReadyH.cons rfl (fun K hK => ?_) AllReadyH.nil)
        · skip
          rw [if_pos (by rfl)]
          (try simp only [List.getElem_toArray, List.getElem_cons_succ, List.getElem_cons_zero])
          go_simp
          (with_reducible refine (C2.out _).mono ?_)
          rintro e wq ⟨rfl, rfl⟩
          (try rw [alloc_drewN])
          try go_wp2_with fail
          refine hK.out _ _ trivial (fun _ => ?_)
          clear hK K
          try simp only [Act.put, List.setIfInBounds_toArray, List.set_cons_zero, List.set_cons_succ]
          refine wpAnyH_ready (rs := [7, 23]) (by kernel_rfl) (by simp) ?_
          refine AllReadyH.cons rfl (fun K hK => ?_) (AllReadyH.cons rfl (fun K hK => ?_) AllReadyH.nil)
          · skip
            rw [if_pos (by rfl)]
            (try simp only [List.getElem_toArray, List.getElem_cons_succ, List.getElem_cons_zero])
            go_simp
            (with_reducible refine (C3.out _).mono ?_)
            rintro e wq ⟨rfl, rfl⟩
            (try rw [alloc_drewN])
            try go_wp2_with fail
            refine hK.out _ _ trivial (fun _ => ?_)
            clear hK K
            try simp only [Act.put, List.setIfInBounds_toArray, List.set_cons_zero, List.set_cons_succ]
            refine wpAnyH_ready (rs := [14, 23]) (by kernel_rfl) (by simp) ?_
            refine AllReadyH.cons rfl (fun K hK => ?_) (AllReadyH.cons rfl (fun K hK => ?_) AllReadyH.nil)
            · skip
              rw [if_pos (by rfl)]
              (try simp only [List.getElem_toArray, List.getElem_cons_succ, List.getElem_cons_zero])
              go_simp
              (with_reducible refine (C4.out _).mono ?_)
              rintro e wq ⟨rfl, rfl⟩
              (try rw [alloc_drewN])
              try go_wp2_with fail
              refine hK.out _ _ trivial (fun _ => ?_)
              clear hK K
              try simp only [Act.put, List.setIfInBounds_toArray, List.set_cons_zero, List.set_cons_succ]
              refine wpAnyH_ready (rs := [16, 23]) (by kernel_rfl) (by simp) ?_
              refine AllReadyH.cons rfl (fun K hK => ?_) (AllReadyH.cons rfl (fun K hK => ?_) AllReadyH.nil)
              · skip
                rw [if_pos (by rfl)]
                (try simp only [List.getElem_toArray, List.getElem_cons_succ, List.getElem_cons_zero])
                go_simp
                (with_reducible refine (C5.out _).mono ?_)
                rintro e wq ⟨rfl, rfl⟩
                (try rw [alloc_drewN])
                try go_wp2_with fail
                refine hK.out _ _ trivial (fun _ => ?_)
                clear hK K
                try simp only [Act.put, List.setIfInBounds_toArray, List.set_cons_zero, List.set_cons_succ]
                refine wpAnyH_ready (rs := [18, 23]) (by kernel_rfl) (by simp) ?_
                refine AllReadyH.cons rfl (fun K hK => ?_) (AllReadyH.cons rfl (fun K hK => ?_) AllReadyH.nil)
                · skip
                  rw [if_pos (by rfl)]
                  (try simp only [List.getElem_toArray, List.getElem_cons_succ, List.getElem_cons_zero])
                  go_simp
                  (with_reducible refine (C6.out _).mono ?_)
                  rintro e wq ⟨rfl, rfl⟩
                  (try rw [alloc_drewN])
                  try go_wp2_with fail
                  refine hK.out _ _ trivial (fun _ => ?_)
                  clear hK K
                  try simp only [Act.put, List.setIfInBounds_toArray, List.set_cons_zero, List.set_cons_succ]
                  refine wpAnyH_take (i := 22) (v := ?v22_16) rfl (by kernel_rfl) (by kernel_rfl) (by kernel_rfl) (fun _ _ _ h => h) (Or.inl (And.intro rfl ?q22_16)) trivial ?r22_16; (case q22_16 => (intro w _; (try dsimp only); (try go_simp); (try with_reducible rfl)))
                  try simp only [Act.put, List.setIfInBounds_toArray, List.set_cons_zero, List.set_cons_succ]
                  refine wpAnyH_ready (rs := [23]) (by kernel_rfl) (by simp) ?_
                  refine AllReadyH.cons rfl (fun K hK => ?_) AllReadyH.nil
                  rw [if_pos (by rfl)]
                  (try simp only [List.getElem_toArray, List.getElem_cons_succ, List.getElem_cons_zero])
                  go_simp
                  refine hK.out _ _ trivial (fun _ => ?_)
                  clear hK K
                  try simp only [Act.put, List.setIfInBounds_toArray, List.set_cons_zero, List.set_cons_succ]
                  refine wpAnyH_ready (rs := [24]) (by kernel_rfl) (by simp) ?_
                  refine AllReadyH.cons rfl (fun K hK => ?_) AllReadyH.nil
                  rw [if_pos (by rfl)]
                  (try simp only [List.getElem_toArray, List.getElem_cons_succ, List.getElem_cons_zero])
                  go_simp
                  refine hK.out _ _ trivial (fun _ => ?_)
                  clear hK K
                  try simp only [Act.put, List.setIfInBounds_toArray, List.set_cons_zero, List.set_cons_succ]
                  refine wpAnyH_done (by kernel_rfl) ?_ _
                  exact key
                · skip
                  rw [if_pos (by rfl)]
                  (try simp only [List.getElem_toArray, List.getElem_cons_succ, List.getElem_cons_zero])
                  go_simp
                  refine hK.out _ _ trivial (fun _ => ?_)
                  clear hK K
                  try simp only [Act.put, List.setIfInBounds_toArray, List.set_cons_zero, List.set_cons_succ]
                  refine wpAnyH_ready (rs := [18]) (by kernel_rfl) (by simp) ?_
                  refine AllReadyH.cons rfl (fun K hK => ?_) AllReadyH.nil
                  rw [if_pos (by rfl)]
                  (try simp only [List.getElem_toArray, List.getElem_cons_succ, List.getElem_cons_zero])
                  go_simp
                  (with_reducible refine (C6.out _).mono ?_)
                  rintro e wq ⟨rfl, rfl⟩
                  (try rw [alloc_drewN])
                  try go_wp2_with fail
                  refine hK.out _ _ trivial (fun _ => ?_)
                  clear hK K
                  try simp only [Act.put, List.setIfInBounds_toArray, List.set_cons_zero, List.set_cons_succ]
                  refine wpAnyH_take (i := 22) (v := ?v22_17) rfl (by kernel_rfl) (by kernel_rfl) (by kernel_rfl) (fun _ _ _ h => h) (Or.inl (And.intro rfl ?q22_17)) trivial ?r22_17; (case q22_17 => (intro w _; (try dsimp only); (try go_simp); (try with_reducible rfl)))
                  try simp only [Act.put, List.setIfInBounds_toArray, List.set_cons_zero, List.set_cons_succ]
                  refine wpAnyH_ready (rs := [24]) (by kernel_rfl) (by simp) ?_
                  refine AllReadyH.cons rfl (fun K hK => ?_) AllReadyH.nil
                  rw [if_pos (by rfl)]
                  (try simp only [List.getElem_toArray, List.getElem_cons_succ, List.getElem_cons_zero])
                  go_simp
                  refine hK.out _ _ trivial (fun _ => ?_)
                  clear hK K
                  try simp only [Act.put, List.setIfInBounds_toArray, List.set_cons_zero, List.set_cons_succ]
                  refine wpAnyH_done (by kernel_rfl) ?_ _
                  exact key
              · skip
                rw [if_pos (by rfl)]
                (try simp only [List.getElem_toArray, List.getElem_cons_succ, List.getElem_cons_zero])
                go_simp
                refine hK.out _ _ trivial (fun _ => ?_)
                clear hK K
                try simp only [Act.put, List.setIfInBounds_toArray, List.set_cons_zero, List.set_cons_succ]
                refine wpAnyH_ready (rs := [16]) (by kernel_rfl) (by simp) ?_
                refine AllReadyH.cons rfl (fun K hK => ?_) AllReadyH.nil
                rw [if_pos (by rfl)]
                (try simp only [List.getElem_toArray, List.getElem_cons_succ, List.getElem_cons_zero])
                go_simp
                (with_reducible refine (C5.out _).mono ?_)
                rintro e wq ⟨rfl, rfl⟩
                (try rw [alloc_drewN])
                try go_wp2_with fail
                refine hK.out _ _ trivial (fun _ => ?_)
                clear hK K
                try simp only [Act.put, List.setIfInBounds_toArray, List.set_cons_zero, List.set_cons_succ]
                refine wpAnyH_ready (rs := [18]) (by kernel_rfl) (by simp) ?_
                refine AllReadyH.cons rfl (fun K hK => ?_) AllReadyH.nil
                rw [if_pos (by rfl)]
                (try simp only [List.getElem_toArray, List.getElem_cons_succ, List.getElem_cons_zero])
                go_simp
                (with_reducible refine (C6.out _).mono ?_)
                rintro e wq ⟨rfl, rfl⟩
                (try rw [alloc_drewN])
                try go_wp2_with fail
                refine hK.out _ _ trivial (fun _ => ?_)
                clear hK K
                try simp only [Act.put, List.setIfInBounds_toArray, List.set_cons_zero, List.set_cons_succ]
                refine wpAnyH_take (i := 22) (v := ?v22_18) rfl (by kernel_rfl) (by kernel_rfl) (by kernel_rfl) (fun _ _ _ h => h) (Or.inl (And.intro rfl ?q22_18)) trivial ?r22_18; (case q22_18 => (intro w _; (try dsimp only); (try go_simp); (try with_reducible rfl)))
                try simp only [Act.put, List.setIfInBounds_toArray, List.set_cons_zero, List.set_cons_succ]
                refine wpAnyH_ready (rs := [24]) (by kernel_rfl) (by simp) ?_
                refine AllReadyH.cons rfl (fun K hK => ?_) AllReadyH.nil
                rw [if_pos (by rfl)]
                (try simp only [List.getElem_toArray, List.getElem_cons_succ, List.getElem_cons_zero])
                go_simp
                refine hK.out _ _ trivial (fun _ => ?_)
                clear hK K
                try simp only [Act.put, List.setIfInBounds_toArray, List.set_cons_zero, List.set_cons_succ]
                refine wpAnyH_done (by kernel_rfl) ?_ _
                exact key
            · skip
              rw [if_pos (by rfl)]
              (try simp only [List.getElem_toArray, List.getElem_cons_succ, List.getElem_cons_zero])
              go_simp
              refine hK.out _ _ trivial (fun _ => ?_)
              clear hK K
              try simp only [Act.put, List.setIfInBounds_toArray, List.set_cons_zero, List.set_cons_succ]
              refine wpAnyH_ready (rs := [14]) (by kernel_rfl) (by simp) ?_
              refine AllReadyH.cons rfl (fun K hK => ?_) AllReadyH.nil
              rw [if_pos (by rfl)]
              (try simp only [List.getElem_toArray, List.getElem_cons_succ, List.getElem_cons_zero])
              go_simp
              (with_reducible refine (C4.out _).mono ?_)
              rintro e wq ⟨rfl, rfl⟩
              (try rw [alloc_drewN])
              try go_wp2_with fail
              refine hK.out _ _ trivial (fun _ => ?_)
              clear hK K
              try simp only [Act.put, List.setIfInBounds_toArray, List.set_cons_zero, List.set_cons_succ]
              refine wpAnyH_ready (rs := [16]) (by kernel_rfl) (by simp) ?_
              refine AllReadyH.cons rfl (fun K hK => ?_) AllReadyH.nil
              rw [if_pos (by rfl)]
              (try simp only [List.getElem_toArray, List.getElem_cons_succ, List.getElem_cons_zero])
              go_simp
              (with_reducible refine (C5.out _).mono ?_)
              rintro e wq ⟨rfl, rfl⟩
              (try rw [alloc_drewN])
              try go_wp2_with fail
              refine hK.out _ _ trivial (fun _ => ?_)
              clear hK K
              try simp only [Act.put, List.setIfInBounds_toArray, List.set_cons_zero, List.set_cons_succ]
              refine wpAnyH_ready (rs := [18]) (by kernel_rfl) (by simp) ?_
              refine AllReadyH.cons rfl (fun K hK => ?_) AllReadyH.nil
              rw [if_pos (by rfl)]
              (try simp only [List.getElem_toArray, List.getElem_cons_succ, List.getElem_cons_zero])
              go_simp
              (with_reducible refine (C6.out _).mono ?_)
              rintro e wq ⟨rfl, rfl⟩
              (try rw [alloc_drewN])
              try go_wp2_with fail
              refine hK.out _ _ trivial (fun _ => ?_)
              clear hK K
              try simp only [Act.put, List.setIfInBounds_toArray, List.set_cons_zero, List.set_cons_succ]
              refine wpAnyH_take (i := 22) (v := ?v22_19) rfl (by kernel_rfl) (by kernel_rfl) (by kernel_rfl) (fun _ _ _ h => h) (Or.inl (And.intro rfl ?q22_19)) trivial ?r22_19; (case q22_19 => (intro w _; (try dsimp only); (try go_simp); (try with_reducible rfl)))
              try simp only [Act.put, List.setIfInBounds_toArray, List.set_cons_zero, List.set_cons_succ]
              refine wpAnyH_ready (rs := [24]) (by kernel_rfl) (by simp) ?_
              refine AllReadyH.cons rfl (fun K hK => ?_) AllReadyH.nil
              rw [if_pos (by rfl)]
              (try simp only [List.getElem_toArray, List.getElem_cons_succ, List.getElem_cons_zero])
              go_simp
              refine hK.out _ _ trivial (fun _ => ?_)
              clear hK K
              try simp only [Act.put, List.setIfInBounds_toArray, List.set_cons_zero, List.set_cons_succ]
              refine wpAnyH_done (by kernel_rfl) ?_ _
              exact key
          · skip
            rw [if_pos (by rfl)]
            (try simp only [List.getElem_toArray, List.getElem_cons_succ, List.getElem_cons_zero])
            go_simp
            refine hK.out _ _ trivial (fun _ => ?_)
            clear hK K
            try simp only [Act.put, List.setIfInBounds_toArray, List.set_cons_zero, List.set_cons_succ]
            refine wpAnyH_ready (rs := [7]) (by kernel_rfl) (by simp) ?_
            refine AllReadyH.cons rfl (fun K hK => ?_) AllReadyH.nil
            rw [if_pos (by rfl)]
            (try simp only [List.getElem_toArray, List.getElem_cons_succ, List.getElem_cons_zero])
            go_simp
            (with_reducible refine (C3.out _).mono ?_)
            rintro e wq ⟨rfl, rfl⟩
            (try rw [alloc_drewN])
            try go_wp2_with fail
            refine hK.out _ _ trivial (fun _ => ?_)
            clear hK K
            try simp only [Act.put, List.setIfInBounds_toArray, List.set_cons_zero, List.set_cons_succ]
            refine wpAnyH_ready (rs := [14]) (by kernel_rfl) (by simp) ?_
            refine AllReadyH.cons rfl (fun K hK => ?_) AllReadyH.nil
            rw [if_pos (by rfl)]
            (try simp only [List.getElem_toArray, List.getElem_cons_succ, List.getElem_cons_zero])
            go_simp
            (with_reducible refine (C4.out _).mono ?_)
            rintro e wq ⟨rfl, rfl⟩
            (try rw [alloc_drewN])
            try go_wp2_with fail
            refine hK.out _ _ trivial (fun _ => ?_)
            clear hK K
            try simp only [Act.put, List.setIfInBounds_toArray, List.set_cons_zero, List.set_cons_succ]
            refine wpAnyH_ready (rs := [16]) (by kernel_rfl) (by simp) ?_
            refine AllReadyH.cons rfl (fun K hK => ?_) AllReadyH.nil
            rw [if_pos (by rfl)]
            (try simp only [List.getElem_toArray, List.getElem_cons_succ, List.getElem_cons_zero])
            go_simp
            (with_reducible refine (C5.out _).mono ?_)
            rintro e wq ⟨rfl, rfl⟩
            (try rw [alloc_drewN])
            try go_wp2_with fail
            refine hK.out _ _ trivial (fun _ => ?_)
            clear hK K
            try simp only [Act.put, List.setIfInBounds_toArray, List.set_cons_zero, List.set_cons_succ]
            refine wpAnyH_ready (rs := [18]) (by kernel_rfl) (by simp) ?_
            refine AllReadyH.cons rfl (fun K hK => ?_) AllReadyH.nil
            rw [if_pos (by rfl)]
            (try simp only [List.getElem_toArray, List.getElem_cons_succ, List.getElem_cons_zero])
            go_simp
            (with_reducible refine (C6.out _).mono ?_)
            rintro e wq ⟨rfl, rfl⟩
            (try rw [alloc_drewN])
            try go_wp2_with fail
            refine hK.out _ _ trivial (fun _ => ?_)
            clear hK K
            try simp only [Act.put, List.setIfInBounds_toArray, List.set_cons_zero, List.set_cons_succ]
            refine wpAnyH_take (i := 22) (v := ?v22_20) rfl (by kernel_rfl) (by kernel_rfl) (by kernel_rfl) (fun _ _ _ h => h) (Or.inl (And.intro rfl ?q22_20)) trivial ?r22_20; (case q22_20 => (intro w _; (try dsimp only); (try go_simp); (try with_reducible rfl)))
            try simp only [Act.put, List.setIfInBounds_toArray, List.set_cons_zero, List.set_cons_succ]
            refine wpAnyH_ready (rs := [24]) (by kernel_rfl) (by simp) ?_
            refine AllReadyH.cons rfl (fun K hK => ?_) AllReadyH.nil
            rw [if_pos (by rfl)]
            (try simp only [List.getElem_toArray, List.getElem_cons_succ, List.getElem_cons_zero])
            go_simp
            refine hK.out _ _ trivial (fun _ => ?_)
            clear hK K
            try simp only [Act.put, List.setIfInBounds_toArray, List.set_cons_zero, List.set_cons_succ]
            refine wpAnyH_done (by kernel_rfl) ?_ _
            exact key
        · skip
          rw [if_pos (by rfl)]
          (try simp only [List.getElem_toArray, List.getElem_cons_succ, List.getElem_cons_zero])
          go_simp
          refine hK.out _ _ trivial (fun _ => ?_)
          clear hK K
          try simp only [Act.put, List.setIfInBounds_toArray, List.set_cons_zero, List.set_cons_succ]
          refine wpAnyH_ready (rs := [5]) (by kernel_rfl) (by simp) ?_
          refine AllReadyH.cons rfl (fun K hK => ?_) AllReadyH.nil
          rw [if_pos (by rfl)]
          (try simp only [List.getElem_toArray, List.getElem_cons_succ, List.getElem_cons_zero])
          go_simp
          (with_reducible refine (C2.out _).mono ?_)
          rintro e wq ⟨rfl, rfl⟩
          (try rw [alloc_drewN])
          try go_wp2_with fail
          refine hK.out _ _ trivial (fun _ => ?_)
          clear hK K
          try simp only [Act.put, List.setIfInBounds_toArray, List.set_cons_zero, List.set_cons_succ]
          refine wpAnyH_ready (rs := [7]) (by kernel_rfl) (by simp) ?_
          refine AllReadyH.cons rfl (fun K hK => ?_) AllReadyH.nil
          rw [if_pos (by rfl)]
          (try simp only [List.getElem_toArray, List.getElem_cons_succ, List.getElem_cons_zero])
          go_simp
          (with_reducible refine (C3.out _).mono ?_)
          rintro e wq ⟨rfl, rfl⟩
          (try rw [alloc_drewN])
          try go_wp2_with fail
          refine hK.out _ _ trivial (fun _ => ?_)
          clear hK K
          try simp only [Act.put, List.setIfInBounds_toArray, List.set_cons_zero, List.set_cons_succ]
          refine wpAnyH_ready (rs := [14]) (by kernel_rfl) (by simp) ?_
          refine AllReadyH.cons rfl (fun K hK => ?_) AllReadyH.nil
          rw [if_pos (by rfl)]
          (try simp only [List.getElem_toArray, List.getElem_cons_succ, List.getElem_cons_zero])
          go_simp
          (with_reducible refine (C4.out _).mono ?_)
          rintro e wq ⟨rfl, rfl⟩
          (try rw [alloc_drewN])
          try go_wp2_with fail
          refine hK.out _ _ trivial (fun _ => ?_)
          clear hK K
          try simp only [Act.put, List.setIfInBounds_toArray, List.set_cons_zero, List.set_cons_succ]
          refine wpAnyH_ready (rs := [16]) (by kernel_rfl) (by simp) ?_
          refine AllReadyH.cons rfl (fun K hK => ?_) AllReadyH.nil
          rw [if_pos (by rfl)]
          (try simp only [List.getElem_toArray, List.getElem_cons_succ, List.getElem_cons_zero])
          go_simp
          (with_reducible refine (C5.out _).mono ?_)
          rintro e wq ⟨rfl, rfl⟩
          (try rw [alloc_drewN])
          try go_wp2_with fail
          refine hK.out _ _ trivial (fun _ => ?_)
          clear hK K
          try simp only [Act.put, List.setIfInBounds_toArray, List.set_cons_zero, List.set_cons_succ]
          refine wpAnyH_ready (rs := [18]) (by kernel_rfl) (by simp) ?_
          refine AllReadyH.cons rfl (fun K hK => ?_) AllReadyH.nil
          rw [if_pos (by rfl)]
          (try simp only [List.getElem_toArray, List.getElem_cons_succ, List.getElem_cons_zero])
          go_simp
          (with_reducible refine (C6.out _).mono ?_)
          rintro e wq ⟨rfl, rfl⟩
          (try rw [alloc_drewN])
          try go_wp2_with fail
          refine hK.out _ _ trivial (fun _ => ?_)
          clear hK K
          try simp only [Act.put, List.setIfInBounds_toArray, List.set_cons_zero, List.set_cons_succ]
          refine wpAnyH_take (i := 22) (v := ?v22_21) rfl (by kernel_rfl) (by kernel_rfl) (by kernel_rfl) (fun _ _ _ h => h) (Or.inl (And.intro rfl ?q22_21)) trivial ?r22_21; (case q22_21 => (intro w _; (try dsimp only); (try go_simp); (try with_reducible rfl)))
          try simp only [Act.put, List.setIfInBounds_toArray, List.set_cons_zero, List.set_cons_succ]
          refine wpAnyH_ready (rs := [24]) (by kernel_rfl) (by simp) ?_
          refine AllReadyH.cons rfl (fun K hK => ?_) AllReadyH.nil
          rw [if_pos (by rfl)]
          (try simp only [List.getElem_toArray, List.getElem_cons_succ, List.getElem_cons_zero])
          go_simp
          refine hK.out _ _ trivial (fun _ => ?_)
          clear hK K
          try simp only [Act.put, List.setIfInBounds_toArray, List.set_cons_zero, List.set_cons_succ]
          refine wpAnyH_done (by kernel_rfl) ?_ _
          exact key
      · skip
        rw [if_pos (by rfl)]
        (try simp only [List.getElem_toArray, List.getElem_cons_succ, List.getElem_cons_zero])
        go_simp
        refine hK.out _ _ trivial (fun _ => ?_)
        clear hK K
        try simp only [Act.put, List.setIfInBounds_toArray, List.set_cons_zero, List.set_cons_succ]
        refine wpAnyH_ready (rs := [3]) (by kernel_rfl) (by simp) ?_
        refine AllReadyH.cons rfl (fun K hK => ?_) AllReadyH.nil
        rw [if_pos (by rfl)]
        (try simp only [List.getElem_toArray, List.getElem_cons_succ, List.getElem_cons_zero])
        go_simp
        (with_reducible refine (C1.out _).mono ?_)
        rintro e wq ⟨rfl, rfl⟩
        (try rw [alloc_drewN])
        try go_wp2_with fail
        refine hK.out _ _ trivial (fun _ => ?_)
        clear hK K
        try simp only [Act.put, List.setIfInBounds_toArray, List.set_cons_zero, List.set_cons_succ]
        refine wpAnyH_ready (rs := [5]) (by kernel_rfl) (by simp) ?_
        refine AllReadyH.cons rfl (fun K hK => ?_) AllReadyH.nil
        rw [if_pos (by rfl)]
        (try simp only [List.getElem_toArray, List.getElem_cons_succ, List.getElem_cons_zero])
        go_simp
        (with_reducible refine (C2.out _).mono ?_)
        rintro e wq ⟨rfl, rfl⟩
        (try rw [alloc_drewN])
        try go_wp2_with fail
        refine hK.out _ _ trivial (fun _ => ?_)
        clear hK K
        try simp only [Act.put, List.setIfInBounds_toArray, List.set_cons_zero, List.set_cons_succ]
        refine wpAnyH_ready (rs := [7]) (by kernel_rfl) (by simp) ?_
        refine AllReadyH.cons rfl (fun K hK => ?_) AllReadyH.nil
        rw [if_pos (by rfl)]
        (try simp only [List.getElem_toArray, List.getElem_cons_succ, List.getElem_cons_zero])
        go_simp
        (with_reducible refine (C3.out _).mono ?_)
        rintro e wq ⟨rfl, rfl⟩
        (try rw [alloc_drewN])
        try go_wp2_with fail
        refine hK.out _ _ trivial (fun _ => ?_)
        clear hK K
        try simp only [Act.put, List.setIfInBounds_toArray, List.set_cons_zero, List.set_cons_succ]
        refine wpAnyH_ready (rs := [14]) (by kernel_rfl) (by simp) ?_
        refine AllReadyH.cons rfl (fun K hK => ?_) AllReadyH.nil
        rw [if_pos (by rfl)]
        (try simp only [List.getElem_toArray, List.getElem_cons_succ, List.getElem_cons_zero])
        go_simp
        (with_reducible refine (C4.out _).mono ?_)
        rintro e wq ⟨rfl, rfl⟩
        (try rw [alloc_drewN])
        try go_wp2_with fail
        refine hK.out _ _ trivial (fun _ => ?_)
        clear hK K
        try simp only [Act.put, List.setIfInBounds_toArray, List.set_cons_zero, List.set_cons_succ]
        refine wpAnyH_ready (rs := [16]) (by kernel_rfl) (by simp) ?_
        refine AllReadyH.cons rfl (fun K hK => ?_) AllReadyH.nil
        rw [if_pos (by rfl)]
        (try simp only [List.getElem_toArray, List.getElem_cons_succ, List.getElem_cons_zero])
        go_simp
        (with_reducible refine (C5.out _).mono ?_)
        rintro e wq ⟨rfl, rfl⟩
        (try rw [alloc_drewN])
        try go_wp2_with fail
        refine hK.out _ _ trivial (fun _ => ?_)
        clear hK K
        try simp only [Act.put, List.setIfInBounds_toArray, List.set_cons_zero, List.set_cons_succ]
        refine wpAnyH_ready (rs := [18]) (by kernel_rfl) (by simp) ?_
        refine AllReadyH.cons rfl (fun K hK => ?_) AllReadyH.nil
        rw [if_pos (by rfl)]
        (try simp only [List.getElem_toArray, List.getElem_cons_succ, List.getElem_cons_zero])
        go_simp
        (with_reducible refine (C6.out _).mono ?_)
        rintro e wq ⟨rfl, rfl⟩
        (try rw [alloc_drewN])
        try go_wp2_with fail
        refine hK.out _ _ trivial (fun _ => ?_)
        clear hK K
        try simp only [Act.put, List.setIfInBounds_toArray, List.set_cons_zero, List.set_cons_succ]
        refine wpAnyH_take (i := 22) (v := ?v22_22) rfl (by kernel_rfl) (by kernel_rfl) (by kernel_rfl) (fun _ _ _ h => h) (Or.inl (And.intro rfl ?q22_22)) trivial ?r22_22; (case q22_22 => (intro w _; (try dsimp only); (try go_simp); (try with_reducible rfl)))
        try simp only [Act.put, List.setIfInBounds_toArray, List.set_cons_zero, List.set_cons_succ]
        refine wpAnyH_ready (rs := [24]) (by kernel_rfl) (by simp) ?_
        refine AllReadyH.cons rfl (fun K hK => ?_) AllReadyH.nil
        rw [if_pos (by rfl)]
        (try simp only [List.getElem_toArray, List.getElem_cons_succ, List.getElem_cons_zero])
        go_simp
        refine hK.out _ _ trivial (fun _ => ?_)
        clear hK K
        try simp only [Act.put, List.setIfInBounds_toArray, List.set_cons_zero, List.set_cons_succ]
        refine wpAnyH_done (by kernel_rfl) ?_ _
        exact key
    · skip
      rw [if_pos (by rfl)]
      (try simp only [List.getElem_toArray, List.getElem_cons_succ, List.getElem_cons_zero])
      go_simp
      refine hK.out _ _ trivial (fun _ => ?_)
      clear hK K
      try simp only [Act.put, List.setIfInBounds_toArray, List.set_cons_zero, List.set_cons_succ]
      refine wpAnyH_ready (rs := [1]) (by kernel_rfl) (by simp) ?_
      refine AllReadyH.cons rfl (fun K hK => ?_) AllReadyH.nil
      rw [if_pos (by rfl)]
      (try simp only [List.getElem_toArray, List.getElem_cons_succ, List.getElem_cons_zero])
      go_simp
      (with_reducible refine (C0.out _).mono ?_)
      rintro e wq ⟨rfl, rfl⟩
      (try rw [alloc_drewN])
      try go_wp2_with fail
      refine hK.out _ _ trivial (fun _ => ?_)
      clear hK K
      try simp only [Act.put, List.setIfInBounds_toArray, List.set_cons_zero, List.set_cons_succ]
      refine wpAnyH_ready (rs := [3]) (by kernel_rfl) (by simp) ?_
      refine AllReadyH.cons rfl (fun K hK => ?_) AllReadyH.nil
      rw [if_pos (by rfl)]
      (try simp only [List.getElem_toArray, List.getElem_cons_succ, List.getElem_cons_zero])
      go_simp
      (with_reducible refine (C1.out _).mono ?_)
      rintro e wq ⟨rfl, rfl⟩
      (try rw [alloc_drewN])
      try go_wp2_with fail
      refine hK.out _ _ trivial (fun _ => ?_)
      clear hK K
      try simp only [Act.put, List.setIfInBounds_toArray, List.set_cons_zero, List.set_cons_succ]
      refine wpAnyH_ready (rs := [5]) (by kernel_rfl) (by simp) ?_
      refine AllReadyH.cons rfl (fun K hK => ?_) AllReadyH.nil
      rw [if_pos (by rfl)]
      (try simp only [List.getElem_toArray, List.getElem_cons_succ, List.getElem_cons_zero])
      go_simp
      (with_reducible refine (C2.out _).mono ?_)
      rintro e wq ⟨rfl, rfl⟩
      (try rw [alloc_drewN])
      try go_wp2_with fail
      refine hK.out _ _ trivial (fun _ => ?_)
      clear hK K
      try simp only [Act.put, List.setIfInBounds_toArray, List.set_cons_zero, List.set_cons_succ]
      refine wpAnyH_ready (rs := [7]) (by kernel_rfl) (by simp) ?_
      refine AllReadyH.cons rfl (fun K hK => ?_) AllReadyH.nil
      rw [if_pos (by rfl)]
      (try simp only [List.getElem_toArray, List.getElem_cons_succ, List.getElem_cons_zero])
      go_simp
      (with_reducible refine (C3.out _).mono ?_)
      rintro e wq ⟨rfl, rfl⟩
      (try rw [alloc_drewN])
      try go_wp2_with fail
      refine hK.out _ _ trivial (fun _ => ?_)
      clear hK K
      try simp only [Act.put, List.setIfInBounds_toArray, List.set_cons_zero, List.set_cons_succ]
      refine wpAnyH_ready (rs := [14]) (by kernel_rfl) (by simp) ?_
      refine AllReadyH.cons rfl (fun K hK => ?_) AllReadyH.nil
      rw [if_pos (by rfl)]
      (try simp only [List.getElem_toArray, List.getElem_cons_succ, List.getElem_cons_zero])
      go_simp
      (with_reducible refine (C4.out _).mono ?_)
      rintro e wq ⟨rfl, rfl⟩
      (try rw [alloc_drewN])
      try go_wp2_with fail
      refine hK.out _ _ trivial (fun _ => ?_)
      clear hK K
      try simp only [Act.put, List.setIfInBounds_toArray, List.set_cons_zero, List.set_cons_succ]
      refine wpAnyH_ready (rs := [16]) (by kernel_rfl) (by simp) ?_
      refine AllReadyH.cons rfl (fun K hK => ?_) AllReadyH.nil
      rw [if_pos (by rfl)]
      (try simp only [List.getElem_toArray, List.getElem_cons_succ, List.getElem_cons_zero])
      go_simp
      (with_reducible refine (C5.out _).mono ?_)
      rintro e wq ⟨rfl, rfl⟩
      (try rw [alloc_drewN])
      try go_wp2_with fail
      refine hK.out _ _ trivial (fun _ => ?_)
      clear hK K
      try simp only [Act.put, List.setIfInBounds_toArray, List.set_cons_zero, List.set_cons_succ]
      refine wpAnyH_ready (rs := [18]) (by kernel_rfl) (by simp) ?_
      refine AllReadyH.cons rfl (fun K hK => ?_) AllReadyH.nil
      rw [if_pos (by rfl)]
      (try simp only [List.getElem_toArray, List.getElem_cons_succ, List.getElem_cons_zero])
      go_simp
      (with_reducible refine (C6.out _).mono ?_)
      rintro e wq ⟨rfl, rfl⟩
      (try rw [alloc_drewN])
      try go_wp2_with fail
      refine hK.out _ _ trivial (fun _ => ?_)
      clear hK K
      try simp only [Act.put, List.setIfInBounds_toArray, List.set_cons_zero, List.set_cons_succ]
      refine wpAnyH_take (i := 22) (v := ?v22_23) rfl (by kernel_rfl) (by kernel_rfl) (by kernel_rfl) (fun _ _ _ h => h) (Or.inl (And.intro rfl ?q22_23)) trivial ?r22_23; (case q22_23 => (intro w _; (try dsimp only); (try go_simp); (try with_reducible rfl)))
      try simp only [Act.put, List.setIfInBounds_toArray, List.set_cons_zero, List.set_cons_succ]
      refine wpAnyH_ready (rs := [24]) (by kernel_rfl) (by simp) ?_
      refine AllReadyH.cons rfl (fun K hK => ?_) AllReadyH.nil
      rw [if_pos (by rfl)]
      (try simp only [List.getElem_toArray, List.getElem_cons_succ, List.getElem_cons_zero])
      go_simp
      refine hK.out _ _ trivial (fun _ => ?_)
      clear hK K
      try simp only [Act.put, List.setIfInBounds_toArray, List.set_cons_zero, List.set_cons_succ]
      refine wpAnyH_done (by kernel_rfl) ?_ _
      exact key
  case rest =>
    have hmod : x.tmod 16 = x % 16 := Int.tmod_eq_emod_of_nonneg (by omega)
    simp only [hmod]
    have h4 : Cells ((w.alloc (.cells #[.int .u16 0, .int .u16 0, .int .u32 0, .int .u32 0, .int .u8 0, .int .u8 0, .int .u16 0, .int .u16 0, .int .u16 0, .string { data := #[] }] 92)).alloc (.cells #[.int .u16 p0, .int .u16 p1, .int .u32 p2, .int .u32 p3, .int .u8 (x % 16), .int .u8 y, .int .u16 p4, .int .u16 p5, .int .u16 p6, .string (s.extract 20 (x / 16 * 4).toNat)] 92)).drew (w.heap.size + 1) #[.int .u16 p0, .int .u16 p1, .int .u32 p2, .int .u32 p3, .int .u8 (x % 16), .int .u8 y, .int .u16 p4, .int .u16 p5, .int .u16 p6, .string (s.extract 20 (x / 16 * 4).toNat)] 92 := by
      have := Cells.new (w.alloc (.cells #[.int .u16 0, .int .u16 0, .int .u32 0, .int .u32 0, .int .u8 0, .int .u8 0, .int .u16 0, .int .u16 0, .int .u16 0, .string { data := #[] }] 92)) #[.int .u16 p0, .int .u16 p1, .int .u32 p2, .int .u32 p3, .int .u8 (x % 16), .int .u8 y, .int .u16 p4, .int .u16 p5, .int .u16 p6, .string (s.extract 20 (x / 16 * 4).toNat)] 92
      rw [show (w.alloc (.cells #[.int .u16 0, .int .u16 0, .int .u32 0, .int .u32 0, .int .u8 0, .int .u8 0, .int .u16 0, .int .u16 0, .int .u16 0, .string { data := #[] }] 92)).heap.size = w.heap.size + 1 from by simp] at this
      exact this
    have r4 : Cells ((w.alloc (.cells #[.int .u16 0, .int .u16 0, .int .u32 0, .int .u32 0, .int .u8 0, .int .u8 0, .int .u16 0, .int .u16 0, .int .u16 0, .string { data := #[] }] 92)).alloc (.cells #[.int .u16 p0, .int .u16 p1, .int .u32 p2, .int .u32 p3, .int .u8 (x % 16), .int .u8 y, .int .u16 p4, .int .u16 p5, .int .u16 p6, .string (s.extract 20 (x / 16 * 4).toNat)] 92)).drew w.heap.size #[.int .u16 0, .int .u16 0, .int .u32 0, .int .u32 0, .int .u8 0, .int .u8 0, .int .u16 0, .int .u16 0, .int .u16 0, .string { data := #[] }] 92 := Cells.alloc d0 (.cells #[.int .u16 p0, .int .u16 p1, .int .u32 p2, .int .u32 p3, .int .u8 (x % 16), .int .u8 y, .int .u16 p4, .int .u16 p5, .int .u16 p6, .string (s.extract 20 (x / 16 * 4).toNat)] 92)
    have b4 : Below w.heap.size w ((w.alloc (.cells #[.int .u16 0, .int .u16 0, .int .u32 0, .int .u32 0, .int .u8 0, .int .u8 0, .int .u16 0, .int .u16 0, .int .u16 0, .string { data := #[] }] 92)).alloc (.cells #[.int .u16 p0, .int .u16 p1, .int .u32 p2, .int .u32 p3, .int .u8 (x % 16), .int .u8 y, .int .u16 p4, .int .u16 p5, .int .u16 p6, .string (s.extract 20 (x / 16 * 4).toNat)] 92)).drew := (by (repeat' (first | with_reducible exact Below.refl _ _ | with_reducible refine Below.setCell ?_ (by first | exact Nat.le_refl _ | (dsimp only; omega)) _ | with_reducible refine bstep ?_ (fresh_below _ _) | with_reducible refine Below.drew ?_)))
    clear d0 C0 C1 C2 C3 C4 C5 C6
    generalize ((w.alloc (.cells #[.int .u16 0, .int .u16 0, .int .u32 0, .int .u32 0, .int .u8 0, .int .u8 0, .int .u16 0, .int .u16 0, .int .u16 0, .string { data := #[] }] 92)).alloc (.cells #[.int .u16 p0, .int .u16 p1, .int .u32 p2, .int .u32 p3, .int .u8 (x % 16), .int .u8 y, .int .u16 p4, .int .u16 p5, .int .u16 p6, .string (s.extract 20 (x / 16 * 4).toNat)] 92)).drew = w4 at *
    have xh4_0 : w4.cell? ⟨w.heap.size + 1, 0, none⟩ = some (.int .u16 p0) := h4.at_ 0
    have xh4_1 : w4.cell? ⟨w.heap.size + 1, 1, none⟩ = some (.int .u16 p1) := h4.at_ 1
    have xh4_2 : w4.cell? ⟨w.heap.size + 1, 2, none⟩ = some (.int .u32 p2) := h4.at_ 2
    have xh4_3 : w4.cell? ⟨w.heap.size + 1, 3, none⟩ = some (.int .u32 p3) := h4.at_ 3
    have xh4_4 : w4.cell? ⟨w.heap.size + 1, 4, none⟩ = some (.int .u8 (x % 16)) := h4.at_ 4
    have xh4_5 : w4.cell? ⟨w.heap.size + 1, 5, none⟩ = some (.int .u8 y) := h4.at_ 5
    have xh4_6 : w4.cell? ⟨w.heap.size + 1, 6, none⟩ = some (.int .u16 p4) := h4.at_ 6
    have xh4_7 : w4.cell? ⟨w.heap.size + 1, 7, none⟩ = some (.int .u16 p5) := h4.at_ 7
    have xh4_8 : w4.cell? ⟨w.heap.size + 1, 8, none⟩ = some (.int .u16 p6) := h4.at_ 8
    have xh4_9 : w4.cell? ⟨w.heap.size + 1, 9, none⟩ = some (.string (s.extract 20 (x / 16 * 4).toNat)) := h4.at_ 9
    have hx : w4.cell? ⟨w.heap.size, 0, none⟩ = some (.int .u16 0) := r4.at_ 0
    have xr4_0 : w4.cell? ⟨w.heap.size, 0, none⟩ = some (.int .u16 0) := r4.at_ 0
    have xr4_1 : w4.cell? ⟨w.heap.size, 1, none⟩ = some (.int .u16 0) := r4.at_ 1
    have xr4_2 : w4.cell? ⟨w.heap.size, 2, none⟩ = some (.int .u32 0) := r4.at_ 2
    have xr4_3 : w4.cell? ⟨w.heap.size, 3, none⟩ = some (.int .u32 0) := r4.at_ 3
    have xr4_4 : w4.cell? ⟨w.heap.size, 4, none⟩ = some (.int .u8 0) := r4.at_ 4
    have xr4_5 : w4.cell? ⟨w.heap.size, 5, none⟩ = some (.int .u8 0) := r4.at_ 5
    have xr4_6 : w4.cell? ⟨w.heap.size, 6, none⟩ = some (.int .u16 0) := r4.at_ 6
    have xr4_7 : w4.cell? ⟨w.heap.size, 7, none⟩ = some (.int .u16 0) := r4.at_ 7
    have xr4_8 : w4.cell? ⟨w.heap.size, 8, none⟩ = some (.int .u16 0) := r4.at_ 8
    have xr4_9 : w4.cell? ⟨w.heap.size, 9, none⟩ = some (.string { data := #[] }) := r4.at_ 9
    have yr4_0 : w4.frozen? ⟨w.heap.size, 0, none⟩ = false := r4.free 0
    have yr4_1 : w4.frozen? ⟨w.heap.size, 1, none⟩ = false := r4.free 1
    have yr4_2 : w4.frozen? ⟨w.heap.size, 2, none⟩ = false := r4.free 2
    have yr4_3 : w4.frozen? ⟨w.heap.size, 3, none⟩ = false := r4.free 3
    have yr4_4 : w4.frozen? ⟨w.heap.size, 4, none⟩ = false := r4.free 4
    have yr4_5 : w4.frozen? ⟨w.heap.size, 5, none⟩ = false := r4.free 5
    have yr4_6 : w4.frozen? ⟨w.heap.size, 6, none⟩ = false := r4.free 6
    have yr4_7 : w4.frozen? ⟨w.heap.size, 7, none⟩ = false := r4.free 7
    have yr4_8 : w4.frozen? ⟨w.heap.size, 8, none⟩ = false := r4.free 8
    have yr4_9 : w4.frozen? ⟨w.heap.size, 9, none⟩ = false := r4.free 9
    go_wp2_with fail
    have fS := hide (fun (X : World) (hX : Cells X (w.heap.size + 1) #[.int .u16 p0, .int .u16 p1, .int .u32 p2, .int .u32 p3, .int .u8 (x % 16), .int .u8 y, .int .u16 p4, .int .u16 p5, .int .u16 p6, .string (s.extract 20 (x / 16 * 4).toNat)] 92) => (show World.cell? X ⟨w.heap.size + 1, 0, none⟩ = some (.int .u16 p0) ∧ World.cell? X ⟨w.heap.size + 1, 1, none⟩ = some (.int .u16 p1) ∧ World.cell? X ⟨w.heap.size + 1, 2, none⟩ = some (.int .u32 p2) ∧ World.cell? X ⟨w.heap.size + 1, 3, none⟩ = some (.int .u32 p3) ∧ World.cell? X ⟨w.heap.size + 1, 4, none⟩ = some (.int .u8 (x % 16)) ∧ World.cell? X ⟨w.heap.size + 1, 5, none⟩ = some (.int .u8 y) ∧ World.cell? X ⟨w.heap.size + 1, 6, none⟩ = some (.int .u16 p4) ∧ World.cell? X ⟨w.heap.size + 1, 7, none⟩ = some (.int .u16 p5) ∧ World.cell? X ⟨w.heap.size + 1, 8, none⟩ = some (.int .u16 p6) ∧ World.cell? X ⟨w.heap.size + 1, 9, none⟩ = some (.string (s.extract 20 (x / 16 * 4).toNat)) from ⟨hX.at_ 0, hX.at_ 1, hX.at_ 2, hX.at_ 3, hX.at_ 4, hX.at_ 5, hX.at_ 6, hX.at_ 7, hX.at_ 8, hX.at_ 9⟩))
    have H4 := hide h4
    have oZ : (0 : Int) ≤ x / 16 * 4 := by omega
    go_region_held3 (fun zW => World.cell? zW ⟨w.heap.size + 1, 0, none⟩ = some (.int .u16 p0) ∧ World.cell? zW ⟨w.heap.size + 1, 1, none⟩ = some (.int .u16 p1) ∧ World.cell? zW ⟨w.heap.size + 1, 2, none⟩ = some (.int .u32 p2) ∧ World.cell? zW ⟨w.heap.size + 1, 3, none⟩ = some (.int .u32 p3) ∧ World.cell? zW ⟨w.heap.size + 1, 4, none⟩ = some (.int .u8 (x % 16)) ∧ World.cell? zW ⟨w.heap.size + 1, 5, none⟩ = some (.int .u8 y) ∧ World.cell? zW ⟨w.heap.size + 1, 6, none⟩ = some (.int .u16 p4) ∧ World.cell? zW ⟨w.heap.size + 1, 7, none⟩ = some (.int .u16 p5) ∧ World.cell? zW ⟨w.heap.size + 1, 8, none⟩ = some (.int .u16 p6) ∧ World.cell? zW ⟨w.heap.size + 1, 9, none⟩ = some (.string (s.extract 20 (x / 16 * 4).toNat))) (((try dsimp only); with_reducible refine fS.out _ ?_; (repeat' (first | with_reducible exact H4.out | with_reducible refine Cells.drew ?_ | with_reducible refine Cells.other ?_ (Nat.succ_ne_self _) _ _))))
      (fail)
    go_wp2
    have r5 := (Cells.put10 r4 (.int .u16 p0) (.int .u16 p1) (.int .u32 p2) (.int .u32 p3) (.int .u8 (x % 16)) (.int .u8 y) (.int .u16 p4) (.int .u16 p5) (.int .u16 p6) (.string (s.extract 20 (x / 16 * 4).toNat))).drew
    have b5 := (Below.put10 b4 (Nat.le_refl w.heap.size) (.int .u16 p0) (.int .u16 p1) (.int .u32 p2) (.int .u32 p3) (.int .u8 (x % 16)) (.int .u8 y) (.int .u16 p4) (.int .u16 p5) (.int .u16 p6) (.string (s.extract 20 (x / 16 * 4).toNat))).drew
    have HE1 := hide r5; have HB5 := hide b5
    generalize ((((((((((w4.setCell ⟨w.heap.size, 0, none⟩ (.int .u16 p0)).setCell ⟨w.heap.size, 1, none⟩ (.int .u16 p1)).setCell ⟨w.heap.size, 2, none⟩ (.int .u32 p2)).setCell ⟨w.heap.size, 3, none⟩ (.int .u32 p3)).setCell ⟨w.heap.size, 4, none⟩ (.int .u8 (x % 16))).setCell ⟨w.heap.size, 5, none⟩ (.int .u8 y)).setCell ⟨w.heap.size, 6, none⟩ (.int .u16 p4)).setCell ⟨w.heap.size, 7, none⟩ (.int .u16 p5)).setCell ⟨w.heap.size, 8, none⟩ (.int .u16 p6)).setCell ⟨w.heap.size, 9, none⟩ (.string (s.extract 20 (x / 16 * 4).toNat))).drew = W5 at *
    have r6 := HE1.out
    clear r5 b5 r4 h4 H4 HE1 hx fS
    have xr6_0 : W5.cell? ⟨w.heap.size, 0, none⟩ = some (.int .u16 p0) := r6.at_ 0
    have xr6_1 : W5.cell? ⟨w.heap.size, 1, none⟩ = some (.int .u16 p1) := r6.at_ 1
    have xr6_2 : W5.cell? ⟨w.heap.size, 2, none⟩ = some (.int .u32 p2) := r6.at_ 2
    have xr6_3 : W5.cell? ⟨w.heap.size, 3, none⟩ = some (.int .u32 p3) := r6.at_ 3
    have xr6_4 : W5.cell? ⟨w.heap.size, 4, none⟩ = some (.int .u8 (x % 16)) := r6.at_ 4
    have xr6_5 : W5.cell? ⟨w.heap.size, 5, none⟩ = some (.int .u8 y) := r6.at_ 5
    have xr6_6 : W5.cell? ⟨w.heap.size, 6, none⟩ = some (.int .u16 p4) := r6.at_ 6
    have xr6_7 : W5.cell? ⟨w.heap.size, 7, none⟩ = some (.int .u16 p5) := r6.at_ 7
    have xr6_8 : W5.cell? ⟨w.heap.size, 8, none⟩ = some (.int .u16 p6) := r6.at_ 8
    have xr6_9 : W5.cell? ⟨w.heap.size, 9, none⟩ = some (.string (s.extract 20 (x / 16 * 4).toNat)) := r6.at_ 9
    (try simp only [Exit.inBlock, Exit.then]); refine bodyPost_ret (by simp [results, Tryz.results43, go_sem, *]; try rfl) rfl ?_
    exact ⟨by rw [HE.out], HB5.out⟩
end Go.Proofs.YtpidgmamollmgaaGreatDoor
end

section
/- The document's answer for tcp (porterref06) over this program: a segment's bytes. -/
set_option linter.unusedVariables false
namespace Go.Proofs.YtpidgmamollmgaaGreatDoor
open Go.RowKit
attribute [local go_sem] Oper.semAt_some

theorem byt_eq (a b : Int) (h0 : 0 ≤ a) (h1 : 0 ≤ b) (h : a % 256 = b % 256) : byt a = byt b := by
  apply UInt8.toNat_inj.1
  rw [byt_toNat, byt_toNat]; omega
/-- the fifth word's bytes by the document -/
theorem off_bytes (s d q k l f wd n u : Int) (o : ByteArray) (hl : 0 ≤ l ∧ l ≤ 15) (hf : 0 ≤ f ∧ f ≤ 255) (ho : o.size ≤ 40) (h4 : o.size % 4 = 0) :
    put16 (Seg.mk s d q k l f wd n u o).off = [byt (80 + 4 * (o.size : Int) + l), byt f] := by
  have e1 : (Seg.mk s d q k l f wd n u o).off / 256 = 80 + 4 * (o.size : Int) + l := by unfold Seg.off; simp only; omega
  have e2 : byt (Seg.mk s d q k l f wd n u o).off = byt f := byt_eq _ _ (by unfold Seg.off; simp only; omega) hf.1 (by unfold Seg.off; simp only; omega)
  unfold put16
  rw [e1, e2]

set_option maxHeartbeats 1000000 in
theorem r6_Put_no (s d q k l f wd n u : Int) (o p : ByteArray) (w : World) (hl : 0 ≤ l ∧ l ≤ 255) (ho : o.size ≤ 140737488351232) (h : (Seg.mk s d q k l f wd n u o).may = false) :
    Calls Tryz.prog 73 #[.agg #[.int .u16 s, .int .u16 d, .int .u32 q, .int .u32 k, .int .u8 l, .int .u8 f, .int .u16 wd, .int .u16 n, .int .u16 u, .string o], .string p] w (Ret (.tuple #[.string { data := #[] }, .int .i64 2]) w) := by
  have hcase : (40 : Int) < o.size ∨ (¬ (40 : Int) < o.size ∧ (o.size : Int) % 4 ≠ 0) ∨ (¬ (40 : Int) < o.size ∧ (o.size : Int) % 4 = 0 ∧ 15 < l) := by
    unfold Seg.may at h; simp at h; omega
  clear h
  rcases hcase with h1 | ⟨h1, h2⟩ | ⟨h1, h2, h3⟩
  · go_enter Tryz.func73, Tryz.ntmps73
    go_wp2_with fail
    go_ret2
    exact ⟨rfl, (by (repeat' (first | with_reducible exact Below.refl _ _ | with_reducible refine Below.setCell ?_ (by first | exact Nat.le_refl _ | (dsimp only; omega)) _ | with_reducible refine bstep ?_ (fresh_below _ _) | with_reducible refine Below.drew ?_)))⟩
  · have q1 : decide ((0 : Int) < (o.size : Int) % 4) = true := by simp; omega
    go_enter Tryz.func73, Tryz.ntmps73
    go_wp2_with fail
    go_ret2
    exact ⟨rfl, (by (repeat' (first | with_reducible exact Below.refl _ _ | with_reducible refine Below.setCell ?_ (by first | exact Nat.le_refl _ | (dsimp only; omega)) _ | with_reducible refine bstep ?_ (fresh_below _ _) | with_reducible refine Below.drew ?_)))⟩
  · have q1 : decide ((0 : Int) < (o.size : Int) % 4) = false := by simp; omega
    clear h2
    go_enter Tryz.func73, Tryz.ntmps73
    go_wp2_with fail
    go_ret2
    exact ⟨rfl, (by (repeat' (first | with_reducible exact Below.refl _ _ | with_reducible refine Below.setCell ?_ (by first | exact Nat.le_refl _ | (dsimp only; omega)) _ | with_reducible refine bstep ?_ (fresh_below _ _) | with_reducible refine Below.drew ?_)))⟩

set_option maxRecDepth 100000 in
set_option maxHeartbeats 2000000 in
theorem r6_Put_yes (s d q k l f wd n u : Int) (o p : ByteArray) (w : World) (hk : (Seg.mk s d q k l f wd n u o).Ok) (hp : p.size ≤ 140737488351232) (h : (Seg.mk s d q k l f wd n u o).may = true) :
    Calls Tryz.prog 73 #[.agg #[.int .u16 s, .int .u16 d, .int .u32 q, .int .u32 k, .int .u8 l, .int .u8 f, .int .u16 wd, .int .u16 n, .int .u16 u, .string o], .string p] w (Ret (.tuple #[.string (S ((Seg.mk s d q k l f wd n u o).put p)), .int .i64 0]) w) := by
  obtain ⟨hs, hd, hq, hkk, ⟨l0, l1⟩, ⟨f0, f1⟩, hw, hn, hu, ho⟩ := hk
  simp only at hs hd hq hkk l0 l1 f0 f1 hw hn hu ho
  unfold Seg.may at h
  simp only [Bool.and_eq_true, decide_eq_true_eq] at h
  obtain ⟨⟨h1, h2⟩, h3⟩ := h
  have hoff := off_bytes s d q k l f wd n u o ⟨l0, h3⟩ ⟨f0, f1⟩ h1 h2
  have hend : S (putW [s, d]) ++ S (put32 q) ++ S (put32 k) ++ S [byt (80 + 4 * (o.size : Int) + l), byt f] ++ S (putW [wd, n, u]) ++ o ++ p = S ((Seg.mk s d q k l f wd n u o).put p) := by
    apply L_inj
    rw [← hoff]
    simp only [L_append, L_S, Seg.put, Seg.head, List.append_assoc, putW, List.flatMap_cons, List.flatMap_nil, List.append_nil]
  have hl1 : ∀ x ∈ [s, d], 0 ≤ x ∧ x ≤ 65535 := by
    intro x hx
    simp only [List.mem_cons, List.not_mem_nil, or_false] at hx
    rcases hx with rfl | rfl <;> omega
  have hl2 : ∀ x ∈ [wd, n, u], 0 ≤ x ∧ x ≤ 65535 := by
    intro x hx
    simp only [List.mem_cons, List.not_mem_nil, or_false] at hx
    rcases hx with rfl | rfl | rfl <;> omega
  have f1' := fun (A : Option Addr) (W : World) (hr : Row W W.heap.size A 2 (ints16 [s, d])) => r_Word A 2 2 [s, d] W hr hl1 (by omega)
  have f2' := fun (A : Option Addr) (W : World) (hr : Row W W.heap.size A 3 (ints16 [wd, n, u])) => r_Word A 3 3 [wd, n, u] W hr hl2 (by omega)
  have f3 := fun W => r_Put32 q W hq.1 hq.2
  have f4 := fun W => r_Put32 k W hkk.1 hkk.2
  obtain ⟨sa, hsa⟩ : ∃ sa, sa = S (putW [s, d]) := ⟨_, rfl⟩
  obtain ⟨sq, hsq⟩ : ∃ sq, sq = S (put32 q) := ⟨_, rfl⟩
  obtain ⟨sk, hsk⟩ : ∃ sk, sk = S (put32 k) := ⟨_, rfl⟩
  obtain ⟨sf, hsf⟩ : ∃ sf, sf = S [byt (80 + 4 * (o.size : Int) + l), byt f] := ⟨_, rfl⟩
  obtain ⟨sz, hsz⟩ : ∃ sz, sz = S (putW [wd, n, u]) := ⟨_, rfl⟩
  have a1 : sa.size = 4 := by rw [hsa]; rfl
  have a2 : sq.size = 4 := by rw [hsq]; rfl
  have a3 : sk.size = 4 := by rw [hsk]; rfl
  have a4 : sf.size = 2 := by rw [hsf]; rfl
  have a5 : sz.size = 6 := by rw [hsz]; rfl
  rw [← hsa, ← hsq, ← hsk, ← hsf, ← hsz] at hend
  rw [← hsa] at f1'; rw [← hsz] at f2'; rw [← hsq] at f3; rw [← hsk] at f4
  have cv : ∀ (W : World) (b : Nat), W.cell? ⟨b, 0, none⟩ = some (.int .u8 (80 + 4 * (o.size : Int) + l)) → W.cell? ⟨b, 1, none⟩ = some (.int .u8 f) → (convert 86 9 (.slice (some ⟨b, 0, none⟩) 2 2)).run Tryz.prog W = .ok (.string sf) W := fun W b h0 h1 => by
    rw [hsf]
    exact run_convert_bytes_arg (P := Tryz.prog) W 86 5 Tryz.underlying86 Tryz.underlying5 b 0 2 2 [80 + 4 * (o.size : Int) + l, f] rfl
      (fun i hi => by
        match i, hi with
        | 0, _ => exact h0
        | 1, _ => exact h1) 9 Tryz.underlying9
  have b5 : (sa ++ sq).size = 8 := by rw [ByteArray.size_append, a1, a2]
  have b6 : (sa ++ sq ++ sk).size = 12 := by rw [ByteArray.size_append, b5, a3]
  have b7 : (sa ++ sq ++ sk ++ sf).size = 14 := by rw [ByteArray.size_append, b6, a4]
  have b8 : (sa ++ sq ++ sk ++ sf ++ sz).size = 20 := by rw [ByteArray.size_append, b7, a5]
  have b9 : (sa ++ sq ++ sk ++ sf ++ sz ++ o).size = 20 + o.size := by rw [ByteArray.size_append, b8]
  have m1 : decide ((0 : Int) < (o.size : Int) % 4) = false := by simp; omega
  have m2 : ¬ (40 : Int) < (o.size : Int) := by omega
  have F1 := hide f1'; have F2 := hide f2'; have F3 := hide f3; have F4 := hide f4; have HE := hide hend
  clear f1' f2' f3 f4 hend hsa hsq hsk hsf hsz hl1 hl2 hs hd hq hkk hw hn hu hoff
  go_enter Tryz.func73, Tryz.ntmps73
  have d0 := Cells.new w #[.int .u16 s, .int .u16 d, .int .u32 q, .int .u32 k, .int .u8 l, .int .u8 f, .int .u16 wd, .int .u16 n, .int .u16 u, .string o] 92
  go_wp2_with fail
  have SK := hide (fun (zX zY : World) (zh : (Below w.heap.size w zX ∧ zX.cell? ⟨w.heap.size, 0, none⟩ = some (.int .u16 s) ∧ zX.cell? ⟨w.heap.size, 1, none⟩ = some (.int .u16 d) ∧ zX.cell? ⟨w.heap.size, 2, none⟩ = some (.int .u32 q) ∧ zX.cell? ⟨w.heap.size, 3, none⟩ = some (.int .u32 k) ∧ zX.cell? ⟨w.heap.size, 4, none⟩ = some (.int .u8 l) ∧ zX.cell? ⟨w.heap.size, 5, none⟩ = some (.int .u8 f) ∧ zX.cell? ⟨w.heap.size, 6, none⟩ = some (.int .u16 wd) ∧ zX.cell? ⟨w.heap.size, 7, none⟩ = some (.int .u16 n) ∧ zX.cell? ⟨w.heap.size, 8, none⟩ = some (.int .u16 u) ∧ zX.cell? ⟨w.heap.size, 9, none⟩ = some (.string o) ∧ True)) (zb : Below zX.heap.size zX zY) => (show (Below w.heap.size w zY ∧ zY.cell? ⟨w.heap.size, 0, none⟩ = some (.int .u16 s) ∧ zY.cell? ⟨w.heap.size, 1, none⟩ = some (.int .u16 d) ∧ zY.cell? ⟨w.heap.size, 2, none⟩ = some (.int .u32 q) ∧ zY.cell? ⟨w.heap.size, 3, none⟩ = some (.int .u32 k) ∧ zY.cell? ⟨w.heap.size, 4, none⟩ = some (.int .u8 l) ∧ zY.cell? ⟨w.heap.size, 5, none⟩ = some (.int .u8 f) ∧ zY.cell? ⟨w.heap.size, 6, none⟩ = some (.int .u16 wd) ∧ zY.cell? ⟨w.heap.size, 7, none⟩ = some (.int .u16 n) ∧ zY.cell? ⟨w.heap.size, 8, none⟩ = some (.int .u16 u) ∧ zY.cell? ⟨w.heap.size, 9, none⟩ = some (.string o) ∧ True) from ⟨bstep zh.1 zb, cellAt zb zh.2.1, cellAt zb zh.2.2.1, cellAt zb zh.2.2.2.1, cellAt zb zh.2.2.2.2.1, cellAt zb zh.2.2.2.2.2.1, cellAt zb zh.2.2.2.2.2.2.1, cellAt zb zh.2.2.2.2.2.2.2.1, cellAt zb zh.2.2.2.2.2.2.2.2.1, cellAt zb zh.2.2.2.2.2.2.2.2.2.1, cellAt zb zh.2.2.2.2.2.2.2.2.2.2.1, trivial⟩))
  have FS := hide (fun (zX : World) (zh : (Below w.heap.size w zX ∧ zX.cell? ⟨w.heap.size, 0, none⟩ = some (.int .u16 s) ∧ zX.cell? ⟨w.heap.size, 1, none⟩ = some (.int .u16 d) ∧ zX.cell? ⟨w.heap.size, 2, none⟩ = some (.int .u32 q) ∧ zX.cell? ⟨w.heap.size, 3, none⟩ = some (.int .u32 k) ∧ zX.cell? ⟨w.heap.size, 4, none⟩ = some (.int .u8 l) ∧ zX.cell? ⟨w.heap.size, 5, none⟩ = some (.int .u8 f) ∧ zX.cell? ⟨w.heap.size, 6, none⟩ = some (.int .u16 wd) ∧ zX.cell? ⟨w.heap.size, 7, none⟩ = some (.int .u16 n) ∧ zX.cell? ⟨w.heap.size, 8, none⟩ = some (.int .u16 u) ∧ zX.cell? ⟨w.heap.size, 9, none⟩ = some (.string o) ∧ True)) => zh.1)
  have GS := hide (fun (zX : World) (zh : (Below w.heap.size w zX ∧ zX.cell? ⟨w.heap.size, 0, none⟩ = some (.int .u16 s) ∧ zX.cell? ⟨w.heap.size, 1, none⟩ = some (.int .u16 d) ∧ zX.cell? ⟨w.heap.size, 2, none⟩ = some (.int .u32 q) ∧ zX.cell? ⟨w.heap.size, 3, none⟩ = some (.int .u32 k) ∧ zX.cell? ⟨w.heap.size, 4, none⟩ = some (.int .u8 l) ∧ zX.cell? ⟨w.heap.size, 5, none⟩ = some (.int .u8 f) ∧ zX.cell? ⟨w.heap.size, 6, none⟩ = some (.int .u16 wd) ∧ zX.cell? ⟨w.heap.size, 7, none⟩ = some (.int .u16 n) ∧ zX.cell? ⟨w.heap.size, 8, none⟩ = some (.int .u16 u) ∧ zX.cell? ⟨w.heap.size, 9, none⟩ = some (.string o) ∧ True)) => zh)
  have hS0 : (Below w.heap.size w (w.alloc (.cells #[.int .u16 s, .int .u16 d, .int .u32 q, .int .u32 k, .int .u8 l, .int .u8 f, .int .u16 wd, .int .u16 n, .int .u16 u, .string o] 92)) ∧ (w.alloc (.cells #[.int .u16 s, .int .u16 d, .int .u32 q, .int .u32 k, .int .u8 l, .int .u8 f, .int .u16 wd, .int .u16 n, .int .u16 u, .string o] 92)).cell? ⟨w.heap.size, 0, none⟩ = some (.int .u16 s) ∧ (w.alloc (.cells #[.int .u16 s, .int .u16 d, .int .u32 q, .int .u32 k, .int .u8 l, .int .u8 f, .int .u16 wd, .int .u16 n, .int .u16 u, .string o] 92)).cell? ⟨w.heap.size, 1, none⟩ = some (.int .u16 d) ∧ (w.alloc (.cells #[.int .u16 s, .int .u16 d, .int .u32 q, .int .u32 k, .int .u8 l, .int .u8 f, .int .u16 wd, .int .u16 n, .int .u16 u, .string o] 92)).cell? ⟨w.heap.size, 2, none⟩ = some (.int .u32 q) ∧ (w.alloc (.cells #[.int .u16 s, .int .u16 d, .int .u32 q, .int .u32 k, .int .u8 l, .int .u8 f, .int .u16 wd, .int .u16 n, .int .u16 u, .string o] 92)).cell? ⟨w.heap.size, 3, none⟩ = some (.int .u32 k) ∧ (w.alloc (.cells #[.int .u16 s, .int .u16 d, .int .u32 q, .int .u32 k, .int .u8 l, .int .u8 f, .int .u16 wd, .int .u16 n, .int .u16 u, .string o] 92)).cell? ⟨w.heap.size, 4, none⟩ = some (.int .u8 l) ∧ (w.alloc (.cells #[.int .u16 s, .int .u16 d, .int .u32 q, .int .u32 k, .int .u8 l, .int .u8 f, .int .u16 wd, .int .u16 n, .int .u16 u, .string o] 92)).cell? ⟨w.heap.size, 5, none⟩ = some (.int .u8 f) ∧ (w.alloc (.cells #[.int .u16 s, .int .u16 d, .int .u32 q, .int .u32 k, .int .u8 l, .int .u8 f, .int .u16 wd, .int .u16 n, .int .u16 u, .string o] 92)).cell? ⟨w.heap.size, 6, none⟩ = some (.int .u16 wd) ∧ (w.alloc (.cells #[.int .u16 s, .int .u16 d, .int .u32 q, .int .u32 k, .int .u8 l, .int .u8 f, .int .u16 wd, .int .u16 n, .int .u16 u, .string o] 92)).cell? ⟨w.heap.size, 7, none⟩ = some (.int .u16 n) ∧ (w.alloc (.cells #[.int .u16 s, .int .u16 d, .int .u32 q, .int .u32 k, .int .u8 l, .int .u8 f, .int .u16 wd, .int .u16 n, .int .u16 u, .string o] 92)).cell? ⟨w.heap.size, 8, none⟩ = some (.int .u16 u) ∧ (w.alloc (.cells #[.int .u16 s, .int .u16 d, .int .u32 q, .int .u32 k, .int .u8 l, .int .u8 f, .int .u16 wd, .int .u16 n, .int .u16 u, .string o] 92)).cell? ⟨w.heap.size, 9, none⟩ = some (.string o) ∧ True) := ⟨(by (repeat' (first | with_reducible exact Below.refl _ _ | with_reducible refine Below.setCell ?_ (by first | exact Nat.le_refl _ | (dsimp only; omega)) _ | with_reducible refine bstep ?_ (fresh_below _ _) | with_reducible refine Below.drew ?_))), d0.at_ 0, d0.at_ 1, d0.at_ 2, d0.at_ 3, d0.at_ 4, d0.at_ 5, d0.at_ 6, d0.at_ 7, d0.at_ 8, d0.at_ 9, trivial⟩
  go_region_held_law (fun w' => (Below w.heap.size w w' ∧ w'.cell? ⟨w.heap.size, 0, none⟩ = some (.int .u16 s) ∧ w'.cell? ⟨w.heap.size, 1, none⟩ = some (.int .u16 d) ∧ w'.cell? ⟨w.heap.size, 2, none⟩ = some (.int .u32 q) ∧ w'.cell? ⟨w.heap.size, 3, none⟩ = some (.int .u32 k) ∧ w'.cell? ⟨w.heap.size, 4, none⟩ = some (.int .u8 l) ∧ w'.cell? ⟨w.heap.size, 5, none⟩ = some (.int .u8 f) ∧ w'.cell? ⟨w.heap.size, 6, none⟩ = some (.int .u16 wd) ∧ w'.cell? ⟨w.heap.size, 7, none⟩ = some (.int .u16 n) ∧ w'.cell? ⟨w.heap.size, 8, none⟩ = some (.int .u16 u) ∧ w'.cell? ⟨w.heap.size, 9, none⟩ = some (.string o) ∧ True)) (first | assumption | exact SK.out _ _ hS0 (Below.refl _ _).drew | exact SK.out _ _ hS0 (fresh_below _ _).drew | exact SK.out _ _ (by assumption) (fresh_below _ _) | (refine SK.out _ _ ?_ (by assumption); assumption))
    (first | (go_at_call 57; (with_reducible refine (F1.out _ _ (by (repeat' (first | with_reducible refine Row.drawn ?_ | with_reducible exact Row.freshAt _ _ _ _ _ _ (by simp) rfl rfl | (with_reducible refine Row.up ?_ (fresh_below _ _)) | (with_reducible refine Row.up ?_ (by with_reducible assumption)))))).mono ?_); rintro e wq ⟨rfl, bq⟩) | (go_at_call 100; (with_reducible refine (F3.out _).mono ?_); rintro e wq ⟨rfl, bq⟩) | (go_at_call 100; (with_reducible refine (F4.out _).mono ?_); rintro e wq ⟨rfl, bq⟩))
  all_goals
    have gs := GS.out _ (by assumption)
    obtain ⟨gb, g0, g1, g2, g3, g4, g5, g6, g7, g8, g9, _⟩ := gs
    go_wp2_with fail
    have kb : Below w.heap.size w (wq.alloc (.cells #[.int .u8 (80 + 4 * (o.size : Int) + l), .int .u8 f] 5)) := bstep gb (fresh_below _ _)
    have k6 : (wq.alloc (.cells #[.int .u8 (80 + 4 * (o.size : Int) + l), .int .u8 f] 5)).cell? ⟨w.heap.size, 6, none⟩ = some (.int .u16 wd) := cellAt (fresh_below _ _) g6
    have k7 : (wq.alloc (.cells #[.int .u8 (80 + 4 * (o.size : Int) + l), .int .u8 f] 5)).cell? ⟨w.heap.size, 7, none⟩ = some (.int .u16 n) := cellAt (fresh_below _ _) g7
    have k8 : (wq.alloc (.cells #[.int .u8 (80 + 4 * (o.size : Int) + l), .int .u8 f] 5)).cell? ⟨w.heap.size, 8, none⟩ = some (.int .u16 u) := cellAt (fresh_below _ _) g8
    have k9 : (wq.alloc (.cells #[.int .u8 (80 + 4 * (o.size : Int) + l), .int .u8 f] 5)).cell? ⟨w.heap.size, 9, none⟩ = some (.string o) := cellAt (fresh_below _ _) g9
    clear g0 g1 g2 g3 g4 g5 g6 g7 g8 g9 gb
    generalize wq.alloc (.cells #[.int .u8 (80 + 4 * (o.size : Int) + l), .int .u8 f] 5) = W2 at *
    have bkb := kb
    have SK := hide (fun (zX zY : World) (zh : (Below w.heap.size w zX ∧ zX.cell? ⟨w.heap.size, 6, none⟩ = some (.int .u16 wd) ∧ zX.cell? ⟨w.heap.size, 7, none⟩ = some (.int .u16 n) ∧ zX.cell? ⟨w.heap.size, 8, none⟩ = some (.int .u16 u) ∧ zX.cell? ⟨w.heap.size, 9, none⟩ = some (.string o) ∧ True)) (zb : Below zX.heap.size zX zY) => (show (Below w.heap.size w zY ∧ zY.cell? ⟨w.heap.size, 6, none⟩ = some (.int .u16 wd) ∧ zY.cell? ⟨w.heap.size, 7, none⟩ = some (.int .u16 n) ∧ zY.cell? ⟨w.heap.size, 8, none⟩ = some (.int .u16 u) ∧ zY.cell? ⟨w.heap.size, 9, none⟩ = some (.string o) ∧ True) from ⟨bstep zh.1 zb, cellAt zb zh.2.1, cellAt zb zh.2.2.1, cellAt zb zh.2.2.2.1, cellAt zb zh.2.2.2.2.1, trivial⟩))
    have FS := hide (fun (zX : World) (zh : (Below w.heap.size w zX ∧ zX.cell? ⟨w.heap.size, 6, none⟩ = some (.int .u16 wd) ∧ zX.cell? ⟨w.heap.size, 7, none⟩ = some (.int .u16 n) ∧ zX.cell? ⟨w.heap.size, 8, none⟩ = some (.int .u16 u) ∧ zX.cell? ⟨w.heap.size, 9, none⟩ = some (.string o) ∧ True)) => zh.1)
    have GS := hide (fun (zX : World) (zh : (Below w.heap.size w zX ∧ zX.cell? ⟨w.heap.size, 6, none⟩ = some (.int .u16 wd) ∧ zX.cell? ⟨w.heap.size, 7, none⟩ = some (.int .u16 n) ∧ zX.cell? ⟨w.heap.size, 8, none⟩ = some (.int .u16 u) ∧ zX.cell? ⟨w.heap.size, 9, none⟩ = some (.string o) ∧ True)) => zh)
    have hS0 : (Below w.heap.size w W2 ∧ W2.cell? ⟨w.heap.size, 6, none⟩ = some (.int .u16 wd) ∧ W2.cell? ⟨w.heap.size, 7, none⟩ = some (.int .u16 n) ∧ W2.cell? ⟨w.heap.size, 8, none⟩ = some (.int .u16 u) ∧ W2.cell? ⟨w.heap.size, 9, none⟩ = some (.string o) ∧ True) := ⟨(by (repeat' (first | with_reducible exact bkb | with_reducible exact Below.refl _ _ | with_reducible refine Below.setCell ?_ (by first | exact Nat.le_refl _ | (dsimp only; omega)) _ | with_reducible refine bstep ?_ (fresh_below _ _) | with_reducible refine Below.drew ?_))), k6, k7, k8, k9, trivial⟩
    go_region_held_law (fun w' => (Below w.heap.size w w' ∧ w'.cell? ⟨w.heap.size, 6, none⟩ = some (.int .u16 wd) ∧ w'.cell? ⟨w.heap.size, 7, none⟩ = some (.int .u16 n) ∧ w'.cell? ⟨w.heap.size, 8, none⟩ = some (.int .u16 u) ∧ w'.cell? ⟨w.heap.size, 9, none⟩ = some (.string o) ∧ True)) (first | assumption | exact SK.out _ _ hS0 (Below.refl _ _).drew | exact SK.out _ _ hS0 (fresh_below _ _).drew | exact SK.out _ _ (by assumption) (fresh_below _ _) | (refine SK.out _ _ ?_ (by assumption); assumption))
      (first | (go_at_call 57; (with_reducible refine (F2.out _ _ (by (repeat' (first | with_reducible refine Row.drawn ?_ | with_reducible exact Row.freshAt _ _ _ _ _ _ (by simp) rfl rfl | (with_reducible refine Row.up ?_ (fresh_below _ _)) | (with_reducible refine Row.up ?_ (by with_reducible assumption)))))).mono ?_); rintro e wq ⟨rfl, bq⟩))
    all_goals
      go_wp2
      go_ret2
      exact ⟨ret_two (v_str HE.out) rfl, (by first | exact FS.out _ (by assumption) | exact bstep (FS.out _ (by assumption)) (fresh_below _ _) | exact bstep (bstep (FS.out _ (by assumption)) (fresh_below _ _)) (fresh_below _ _))⟩
end Go.Proofs.YtpidgmamollmgaaGreatDoor
end
