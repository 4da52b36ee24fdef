/- Several texts of this claim, one behind the other. -/
import Derived.Test.YtilfcikhipadpaaDoorM6

section
/- rules: slices.Insert at rules, in the middle, there is room. -/
set_option linter.unusedVariables false
set_option linter.unusedSimpArgs false
namespace Go.Proofs.YtilfcikhipadpaaDoor
open Go.RowKit Go.Lib
attribute [local go_sem] Oper.semAt_some
section
variable {P : Program}
/-- a copy whose run is known, in a walk -/
theorem wp_copy_runR (w : World) {o : Oper} {a : Act} {K : Act → World → Prop} {Q : Exit → Act → World → Prop} (d s : Operand) (t t' : TypeId)
    (ho : o.op = .call { callee := .builtin .copy, args := #[d, s], argTypes := #[t, t'] }) (v u : Value) (hd : a.eval d = v) (hs : a.eval s = u) {v' : Value} {w' : World}
    (hr : (Builtin.copy_ #[t, t'] o.type #[v, u]).run P w = .ok v' w') (h : K (a.put o.dst v') w') : o.wp P a w K Q := by
  unfold Oper.wp execOp
  simp only [ho, resolve, invoke, builtin, Sem.run_bind, Sem.run_pure, Result.andThen_ok, List.map_toArray, List.map_cons, List.map_nil, hd, hs, hr]
  exact h
theorem wpList_copy_runR (w : World) {ops : Array Oper} {rest : List Oper} {o : Oper} {a : Act} {Q : Exit → Act → World → Prop} (hgd : o.guard = none) (d s : Operand) (t t' : TypeId)
    (ho : o.op = .call { callee := .builtin .copy, args := #[d, s], argTypes := #[t, t'] }) (v u : Value) (hd : a.eval d = v) (hs : a.eval s = u) {v' : Value} {w' : World}
    (hr : (Builtin.copy_ #[t, t'] o.type #[v, u]).run P w = .ok v' w') (h : wpList P ops Q rest (a.put o.dst v') w') : wpList P ops Q (o :: rest) a w :=
  wpList_plain hgd fun _ hK => wp_copy_runR w d s t t' ho v u hd hs hr (hK _ _ h)
/-- .. and as one step of a region that draws -/
theorem step_copy_runR {ops : Array Oper} {o : Oper} {a : Act} {w : World} {K : Act → World → Prop} {Q : Exit → Act → World → Prop} {E : Prop}
    (hg : o.guard = none) (d x : Operand) (dT sT : TypeId) (hop : o.op = Op.call { callee := Callee.builtin Builtin.copy, args := #[d, x], argTypes := #[dT, sT] })
    (v u : Value) (hd : a.eval d = v) (hx : a.eval x = u) {v' : Value} {w' : World} (hr : (Builtin.copy_ #[dT, sT] o.type #[v, u]).run P w = .ok v' w') (hK : K (a.put o.dst v') w') :
    if Region.wanted o (yielded ops a.tmps) = true then Oper.wp P o a w K Q else E := by
  have hw : Region.wanted o (yielded ops a.tmps) = true := by simp [Region.wanted, hg]
  rw [if_pos hw]
  unfold Oper.wp
  simp [execOp, hop, resolve, invoke, builtin, hd, hx, hr, Result.andThen]
  exact hK
end

theorem size11 : (Tryd.prog.info? 77).map (·.size) = some 11 := by
  obtain ⟨i0, hi0, hz0, hzs, hzb⟩ := info_parts tRu
  rw [hi0]; simp [hzs]

theorem run_overlapsR (w : World) (vb g o lb cb kB : Nat) (tA tB : TypeId) (hvb : vb ≠ g) (hsa : w.shape? vb = some (tA, 11)) (hsb : w.shape? g = some (tB, kB)) (hkB : kB ≠ 0) (hfa : w.frozen? ⟨vb, 0, none⟩ = false) (hfe : w.frozen? ⟨vb, 11, none⟩ = false) :
    (callFunc 46 #[.slice (some ⟨vb, 0, none⟩) 1 1, .slice (some ⟨g, o, none⟩) lb cb]).run Tryd.prog w = .ok (.value (.bool false)) w := by
  rw [run_callFunc_extern (fn := Tryd.f46) (by kernel_rfl) (by kernel_rfl) (by kernel_rfl) (by kernel_rfl) (e := Extern.SlicesOverlaps.overlaps #[87, 87] #[4]) (by kernel_rfl),
    Lib.run_overlaps_apart w 87 4 77 tSl 11 (by intro w; kernel_rfl) ⟨vb, 0, none⟩ ⟨g, o, none⟩ 1 1 lb cb hvb tA tB 11 kB hsa hsb hkB hfa hfe]
  rfl

set_option maxHeartbeats 4000000 in
set_option maxRecDepth 100000 in
theorem Insert_shift0 (g c i n vb : Nat) (X R : List Value) (cur : Array Value) (w : World) (hi : i < n) (hroom : n + 1 ≤ c) (hn : n ≤ 1000) (hc63 : c ≤ 9223372036854775807) (hvb : vb ≠ g)
    (hX : X.length = n * 11) (hR : R.length = 11) (h1X : ∀ v ∈ X, v.oneCell' = true) (h1R : ∀ v ∈ R, v.oneCell' = true)
    (hcur : Cells w g cur 77) (hcs : cur.size = c * 11) (hcX : cur.toList.take (n * 11) = X) (hr : Cells w vb R.toArray 77) :
    Calls Tryd.prog 35 #[.slice (some ⟨g, 0, none⟩) n c, .int .i64 i, .slice (some ⟨vb, 0, none⟩) 1 1] w fun e w' => e = .returned (.slice (some ⟨g, 0, none⟩) (n + 1) c) ∧ w' = (w.drew.setCells g ((i + 1) * 11) (X.drop (i * 11))).setCells g (i * 11) R := by
  have mixed : Tryd.prog.follows Departure.mixedOrders = true := by kernel_rfl
  have hz1 : ¬ ((i : Int) = (n : Int)) := by omega
  have hcc : ∀ j v, X[j]? = some v → w.cell? ⟨g, j, none⟩ = some v := fun j u hu => by
    rw [Lib.cell_of_heap hcur]
    rw [← hcX, List.getElem?_take] at hu
    split at hu
    · simpa using hu
    · cases hu
  have hsm : ∀ j, j < c * 11 → (w.cell? ⟨g, j, none⟩).isSome = true := fun j hj => by
    rw [Lib.cell_of_heap hcur, Array.getElem?_eq_getElem (by omega)]; rfl
  have hfz : ∀ j, w.frozen? ⟨g, j, none⟩ = false := fun j => Cells.free hcur j
  have hvs : ∀ j v, R[j]? = some v → w.cell? ⟨vb, j, none⟩ = some v := fun j u hu => by
    rw [Lib.cell_of_heap hr]; simpa using hu
  have hsa : w.shape? vb = some (77, 11) := by
    unfold World.shape?
    rw [show w.heap[vb]? = _ from hr]; simp [hR]
  have hsb : w.shape? g = some (77, c * 11) := by
    unfold World.shape?
    rw [show w.heap[g]? = _ from hcur]; simp [hcs]
  have hov : ∀ o lb cb, (callFunc 46 #[.slice (some ⟨vb, 0, none⟩) 1 1, .slice (some ⟨g, o, none⟩) lb cb]).run Tryd.prog w = .ok (.value (.bool false)) w := fun o lb cb =>
    run_overlapsR w vb g o lb cb (c * 11) _ _ hvb hsa hsb (by omega) (Cells.free hr 0) (Cells.free hr 11)
  have hdl : (X.drop (i * 11)).length = (n - i) * 11 := by rw [List.length_drop, hX]; omega
  have hw1 : IntKind.i64.wrap ((i : Int) + 1) = (i : Int) + 1 := by rw [IntKind.wrap_i64]; omega
  have hw2 : IntKind.i64.wrap ((n : Int) + 1) = (n : Int) + 1 := by rw [IntKind.wrap_i64]; omega
  have hb1 : (0 : Int) ≤ (i : Int) + 1 := by omega
  have hin : i ≤ n := by omega
  have htn : ((i : Int) + 1).toNat = i + 1 := by omega
  have htm : ((n : Int) + 1).toNat = n + 1 := by omega
  have hb2 : ¬ (c = i + 1) := by omega
  have hb3 : (i : Int) ≤ (n : Int) + 1 := by omega
  have hb4 : ¬ (c = i) := by omega
  have hcp1 : ∀ ty dc sc, (Builtin.copy_ #[87, 87] ty #[.slice (some ⟨g, (i + 1) * 11, none⟩) (n - i) dc, .slice (some ⟨g, i * 11, none⟩) (n + 1 - i) sc]).run Tryd.prog w.drew = .ok (goInt (Nat.min (n + 1 - i) (n - i))) (w.drew.setCells g ((i + 1) * 11) (X.drop (i * 11))) := fun ty dc sc =>
    run_copy_k w.drew _ _ ty 77 11 g ((i + 1) * 11) (n - i) dc ⟨g, i * 11, none⟩ (n + 1 - i) sc (X.drop (i * 11)) tSl size11 (by rw [hdl]; simp only [Nat.min_def]; split <;> omega)
      (fun j v hj => by rw [Addr.add_lit]; exact hcc (i * 11 + j) v (by rwa [List.getElem?_drop] at hj))
      (fun j hj => hsm _ (by omega)) (fun j hj => hfz _) (fun v hv => h1X v (List.mem_of_mem_drop hv))
  obtain ⟨W1, hW1⟩ : ∃ W1, W1 = w.drew.setCells g ((i + 1) * 11) (X.drop (i * 11)) := ⟨_, rfl⟩
  obtain ⟨cs1, hc1, hs1, _⟩ := Cells.setCells_ (X.drop (i * 11)) ((i + 1) * 11) cur w.drew hcur (by omega)
  rw [← hW1] at hc1
  have hsp1 : ∀ k, k < c * 11 → (W1.cell? ⟨g, k, none⟩).isSome = true := fun k hk => by
    rw [Lib.cell_of_heap hc1, Array.getElem?_eq_getElem (by omega)]; rfl
  have hcp2 : ∀ (W : World), (∀ x, W.cell? x = W1.cell? x) → (∀ x, W.frozen? x = W1.frozen? x) → ∀ ty dc, (Builtin.copy_ #[87, 87] ty #[.slice (some ⟨g, i * 11, none⟩) (n + 1 - i) dc, .slice (some ⟨vb, 0, none⟩) 1 1]).run Tryd.prog W = .ok (goInt (Nat.min 1 (n + 1 - i))) (W.setCells g (i * 11) R) := fun W hWc hWf ty dc =>
    run_copy_k W _ _ ty 77 11 g (i * 11) (n + 1 - i) dc ⟨vb, 0, none⟩ 1 1 R tSl size11 (by rw [hR]; simp only [Nat.min_def]; split <;> omega)
      (fun j v hj => by
        rw [Addr.add_lit, hWc, hW1, World.cell?_setCells_out g _ _ _ _ (fun h _ => absurd h hvb), Nat.zero_add]
        exact hvs j v hj)
      (fun j hj => by rw [hWc]; exact hsp1 _ (by omega)) (fun j hj => by rw [hWf]; exact Cells.free hc1 _) h1R
  rw [← hW1] at hcp1
  clear hcc hsm hfz hvs hsa hsb hdl hsp1 hc1 hcur hr hcs hcX hX hR h1X h1R hs1
  go_enter Tryd.func35, Tryd.ntmps35
  go_wp2_with (simp only [hov])
  go_region_law_o (refine step_copy_runR rfl _ _ 87 87 rfl _ _ (by simp [Act.eval, Act.put]) (by simp [Act.eval, Act.put]) (hcp1 _ _ _) ?_)
  go_wp2_with (at_builtin; refine wpList_copy_runR _ rfl _ _ 87 87 rfl _ _ rfl rfl (hcp2 _ (fun _ => rfl) (fun _ => rfl) _ _) ?_)
  go_ret
  first | exact ⟨rfl, rfl⟩ | exact ⟨rfl, by rw [hW1]⟩
end Go.Proofs.YtilfcikhipadpaaDoor
end

section
/- rules: slices.Insert at rules, in the middle, there is no room. -/
set_option linter.unusedVariables false
set_option linter.unusedSimpArgs false
namespace Go.Proofs.YtilfcikhipadpaaDoor
open Go.RowKit Go.Lib
attribute [local go_sem] Oper.semAt_some

set_option maxHeartbeats 4000000 in
set_option maxRecDepth 100000 in
theorem Insert_grow0 (g i n vb : Nat) (X R : List Value) (cur : Array Value) (w : World) (hi : i < n) (hn : n ≤ 1000)
    (hX : X.length = n * 11) (hR : R.length = 11) (h1X : ∀ v ∈ X, v.oneCell' = true) (h1R : ∀ v ∈ R, v.oneCell' = true)
    (hcur : Cells w g cur 77) (hcs : cur.size = n * 11) (hcX : cur.toList.take (n * 11) = X) (hr : Cells w vb R.toArray 77) :
    Calls Tryd.prog 35 #[.slice (some ⟨g, 0, none⟩) n n, .int .i64 i, .slice (some ⟨vb, 0, none⟩) 1 1] w fun e w' => ∃ G, n + 1 ≤ G ∧ G ≤ maxLen ∧ e = .returned (.slice (some ⟨w.heap.size, 0, none⟩) (n + 1) G) ∧
      w' = (((w.alloc (.cells ((X.take (i * 11)).toArray ++ Builtin.zeroCells zRu.cells (n + 1 - i) ++ Builtin.zeroCells zRu.cells (G - (n + 1))) 77)).drew.setCells w.heap.size (i * 11) R).drew).setCells w.heap.size ((i + 1) * 11) (X.drop (i * 11)) := by
  obtain ⟨i0, hi0, hz0, hzs, hzb⟩ := info_parts tRu
  have mixed : Tryd.prog.follows Departure.mixedOrders = true := by kernel_rfl
  have hz2 : ¬ ((i : Int) = (n : Int)) := by omega
  have hcs' : ∀ j v, X[j]? = some v → w.cell? ⟨g, j, none⟩ = some v := fun j u hu => by
    rw [Lib.cell_of_heap hcur]
    rw [← hcX, List.getElem?_take] at hu
    split at hu
    · simpa using hu
    · cases hu
  have hvs : ∀ j v, R[j]? = some v → w.cell? ⟨vb, j, none⟩ = some v := fun j u hu => by
    rw [Lib.cell_of_heap hr]; simpa using hu
  have hbw : g < w.heap.size := Cells.lt hcur
  have hvw : vb < w.heap.size := Cells.lt hr
  have hkk : (n : Int) + 1 - (i : Int) = ((n + 1 - i : Nat) : Int) := by omega
  have hik : i + (n + 1 - i) = n + 1 := by omega
  have hold : (Builtin.firstCells i0.size i (.slice (some ⟨g, 0, none⟩) i n)).run Tryd.prog w.drew = .ok (X.take (i * 11)).toArray w.drew := by
    rw [hzs]
    exact run_firstCells_some w.drew 11 i ⟨g, 0, none⟩ i n (X.take (i * 11)) (by rw [List.length_take]; omega) (fun j v hj => by
      rw [Addr.add_lit]
      rw [List.getElem?_take] at hj
      split at hj
      · rw [Nat.zero_add]; exact hcs' j v hj
      · cases hj)
  have hrz : ∀ ty, (Builtin.append_ #[87, 3] ty #[.slice (some ⟨g, 0, none⟩) i n, .int .i64 ((n : Int) + 1 - (i : Int))]).run Tryd.prog w =
      .ok (.slice (some ⟨w.heap.size, 0, none⟩) (n + 1) (grownCap w (n + 1) n 77)) (w.drew.alloc (.cells ((X.take (i * 11)).toArray ++ Builtin.zeroCells zRu.cells (n + 1 - i) ++ Builtin.zeroCells zRu.cells (grownCap w (n + 1) n 77 - (n + 1))) 77)) := fun ty => by
    have h := Lib.run_append_grow_zeros w 87 3 ty 77 i0 zRu .i64 .i64 tSl (by kernel_rfl) hi0 hz0 (some ⟨g, 0, none⟩) i n (X.take (i * 11)) hold (n + 1 - i) (by omega) (by omega) (by omega) (by omega) (by rw [hzb]; omega) (by rw [hzb, hik]; exact growslice_fits (by omega) (by omega))
    rw [hik] at h
    rw [hkk]
    exact h
  obtain ⟨G, hG⟩ : ∃ G, G = grownCap w (n + 1) n 77 := ⟨_, rfl⟩
  obtain ⟨ROW, hROW⟩ : ∃ ROW : Array Value, ROW = (X.take (i * 11)).toArray ++ Builtin.zeroCells zRu.cells (n + 1 - i) ++ Builtin.zeroCells zRu.cells (G - (n + 1)) := ⟨_, rfl⟩
  rw [← hG] at hrz
  rw [← hROW] at hrz
  have hGn : n + 1 ≤ G := by rw [hG]; exact grownCap_ge w _ _ _
  have hGm : G ≤ maxLen := by rw [hG]; exact grownCap_le_maxLen w _ _ _ (by unfold maxLen; omega)
  have hRl : ROW.size = G * 11 := by
    rw [hROW]
    simp only [Array.size_append, List.size_toArray, List.length_take, hX, size_zeroCells, zRu_cells]
    omega
  obtain ⟨W1, hW1⟩ : ∃ W1, W1 = w.drew.alloc (.cells ROW 77) := ⟨_, rfl⟩
  rw [← hW1] at hrz
  have hN : ∀ j, j < G * 11 → (W1.cell? ⟨w.heap.size, j, none⟩).isSome = true := fun j hj => by
    rw [hW1, World.cell?_alloc_at (w := w.drew) ROW _ w.heap.size j rfl, Array.getElem?_eq_getElem (by omega)]; rfl
  have hNf : ∀ j, W1.frozen? ⟨w.heap.size, j, none⟩ = false := fun j => by rw [hW1]; exact World.frozen?_alloc_at (w := w.drew) ROW _ w.heap.size j rfl
  have hOb : ∀ j v, w.cell? ⟨g, j, none⟩ = some v → W1.cell? ⟨g, j, none⟩ = some v := fun j v h => by rw [hW1, World.cell?_alloc_past (w := w.drew) _ g j hbw]; exact h
  have hOv : ∀ j v, w.cell? ⟨vb, j, none⟩ = some v → W1.cell? ⟨vb, j, none⟩ = some v := fun j v h => by rw [hW1, World.cell?_alloc_past (w := w.drew) _ vb j hvw]; exact h
  have hcpA : ∀ (W : World), (∀ x, W.cell? x = W1.cell? x) → (∀ x, W.frozen? x = W1.frozen? x) → ∀ ty dc, (Builtin.copy_ #[87, 87] ty #[.slice (some ⟨w.heap.size, i * 11, none⟩) (n + 1 - i) dc, .slice (some ⟨vb, 0, none⟩) 1 1]).run Tryd.prog W = .ok (goInt (Nat.min 1 (n + 1 - i))) (W.setCells w.heap.size (i * 11) R) := fun W hWc hWf ty dc =>
    run_copy_k W _ _ ty 77 11 w.heap.size (i * 11) (n + 1 - i) dc ⟨vb, 0, none⟩ 1 1 R tSl size11 (by rw [hR]; simp only [Nat.min_def]; split <;> omega)
      (fun j v hj => by rw [Addr.add_lit, hWc, Nat.zero_add]; exact hOv _ v (hvs j v hj))
      (fun j hj => by rw [hWc]; exact hN _ (by omega)) (fun j hj => by rw [hWf]; exact hNf _) h1R
  have hG63 : G ≤ 9223372036854775807 := by unfold maxLen at hGm; omega
  have hGi : ¬ (G = i) := by omega
  have hGim : ¬ (G = i + 1) := by omega
  have hci : ¬ (n = i) := by omega
  have hbN : g ≠ w.heap.size := by omega
  have hdl : (X.drop (i * 11)).length = (n - i) * 11 := by rw [List.length_drop, hX]; omega
  have hset : ∀ k, k < G * 11 → ((W1.setCells w.heap.size (i * 11) R).cell? ⟨w.heap.size, k, none⟩).isSome = true := fun k hk => by
    obtain ⟨cs1, hc1, hs1, _⟩ := Cells.setCells_ (w := W1) (b := w.heap.size) (T := 77) R (i * 11) ROW (by rw [hW1]; exact Cells.new w.drew ROW 77) (by omega)
    rw [Lib.cell_of_heap hc1, Array.getElem?_eq_getElem (by omega)]; rfl
  have hcpB : ∀ (W : World), (∀ x, W.cell? x = (W1.setCells w.heap.size (i * 11) R).cell? x) → (∀ x, W.frozen? x = (W1.setCells w.heap.size (i * 11) R).frozen? x) → ∀ ty dc sc, (Builtin.copy_ #[87, 87] ty #[.slice (some ⟨w.heap.size, (i + 1) * 11, none⟩) (n - i) dc, .slice (some ⟨g, i * 11, none⟩) (n - i) sc]).run Tryd.prog W = .ok (goInt (Nat.min (n - i) (n - i))) (W.setCells w.heap.size ((i + 1) * 11) (X.drop (i * 11))) := fun W hWc hWf ty dc sc =>
    run_copy_k W _ _ ty 77 11 w.heap.size ((i + 1) * 11) (n - i) dc ⟨g, i * 11, none⟩ (n - i) sc (X.drop (i * 11)) tSl size11 (by rw [hdl]; simp only [Nat.min_def]; split <;> omega)
      (fun j v hj => by
        rw [Addr.add_lit, hWc, World.cell?_setCells_out _ _ _ _ _ (fun h _ => absurd h hbN)]
        exact hOb _ v (hcs' (i * 11 + j) v (by rwa [List.getElem?_drop] at hj)))
      (fun j hj => by rw [hWc]; exact hset _ (by omega))
      (fun j hj => by rw [hWf, World.frozen?_setCells]; exact hNf _) (fun v hv => h1X v (List.mem_of_mem_drop hv))
  subst hW1
  have hE1 : ∀ x, ((w.alloc (.cells ROW 77)).drew).cell? x = (w.drew.alloc (.cells ROW 77)).cell? x := fun x => rfl
  have hE2 : ∀ x, ((w.alloc (.cells ROW 77)).drew).frozen? x = (w.drew.alloc (.cells ROW 77)).frozen? x := fun x => rfl
  have hF1 : ∀ x, (((w.alloc (.cells ROW 77)).drew.setCells w.heap.size (i * 11) R).drew).cell? x = ((w.drew.alloc (.cells ROW 77)).setCells w.heap.size (i * 11) R).cell? x := fun x => rfl
  have hF2 : ∀ x, (((w.alloc (.cells ROW 77)).drew.setCells w.heap.size (i * 11) R).drew).frozen? x = ((w.drew.alloc (.cells ROW 77)).setCells w.heap.size (i * 11) R).frozen? x := fun x => rfl
  have hw1 : IntKind.i64.wrap ((i : Int) + 1) = (i : Int) + 1 := by rw [IntKind.wrap_i64]; omega
  have hw2 : IntKind.i64.wrap ((n : Int) + 1) = (n : Int) + 1 := by rw [IntKind.wrap_i64]; omega
  have hw3 : IntKind.i64.wrap ((n : Int) + 1 - i) = (n : Int) + 1 - i := by rw [IntKind.wrap_i64]; omega
  have hb1 : (0 : Int) ≤ (i : Int) + 1 := by omega
  have hin : i ≤ n := by omega
  have htn : ((i : Int) + 1).toNat = i + 1 := by omega
  have hb3 : (i : Int) ≤ (n : Int) := by omega
  have KEY := hide (⟨hROW, hGn, hGm⟩ : _ ∧ _ ∧ _)
  clear hkk hik hold hROW hG hRl hcur hcs hcX hX hR hr h1X h1R hN hNf hset hGn hGm hOb hOv hvs hcs' hdl
  go_enter Tryd.func35, Tryd.ntmps35
  go_wp2_with (first
    | (at_builtin; refine Lib.wpList_append_run _ rfl _ _ _ _ rfl _ _ rfl rfl _ _ (hrz _) ?_)
    | (at_builtin; refine wpList_copy_runR _ rfl _ _ 87 87 rfl _ _ rfl rfl (hcpA _ hE1 hE2 _ _) ?_)
    | (at_builtin; refine wpList_copy_runR _ rfl _ _ 87 87 rfl _ _ rfl rfl (hcpB _ (fun _ => rfl) (fun _ => rfl) _ _ _) ?_))
  go_region_law_o (refine step_copy_runR rfl _ _ 87 87 rfl (.slice (some ⟨w.heap.size, (i + 1) * 11, none⟩) (n - i) (G - (i + 1))) (.slice (some ⟨g, i * 11, none⟩) (n - i) (n - i)) (by simp [Act.eval, Act.put]) (by simp [Act.eval, Act.put]) (hcpB _ hF1 hF2 3 (G - (i + 1)) (n - i)) ?_)
  go_wp2
  go_ret
  exact ⟨G, KEY.out.2.1, KEY.out.2.2, rfl, by rw [← KEY.out.1]⟩
end Go.Proofs.YtilfcikhipadpaaDoor
end
