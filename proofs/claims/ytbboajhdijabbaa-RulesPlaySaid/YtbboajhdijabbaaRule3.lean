/- rules: rows of rules in memory; IndexFunc, ContainsFunc over them. -/
import Derived.Test.YtbboajhdijabbaaRule2
import Derived.Deep.LoopGhost
import Derived.Shelf.RegionOpenPlain
set_option linter.unusedVariables false
set_option linter.unusedSimpArgs false
namespace Go.Proofs.Ytbboajhdijabbaa
open Go.RowKit
attribute [local go_sem] Oper.semAt_some

/-- the cells of rules, one behind the other -/
def cellsOf (l : List Rule) : List Value := l.flatMap fun r => r.cells.toList
theorem cells11 (r : Rule) : r.cells.toList.length = 11 := rfl
theorem cellsOf_length (l : List Rule) : (cellsOf l).length = l.length * 11 := by
  induction l with
  | nil => rfl
  | cons a t ih => simp only [cellsOf, List.flatMap_cons, List.length_append, cells11, List.length_cons] at ih ⊢; omega
theorem cellsOf_append (a b : List Rule) : cellsOf (a ++ b) = cellsOf a ++ cellsOf b := by simp [cellsOf]
theorem cellsOf_take (l : List Rule) (n : Nat) : (cellsOf l).take (n * 11) = cellsOf (l.take n) := by
  induction l generalizing n with
  | nil => simp [cellsOf]
  | cons a t ih =>
    cases n with
    | zero => simp [cellsOf]
    | succ n =>
      have := ih n
      simp only [cellsOf, List.flatMap_cons, List.take_succ_cons] at this ⊢
      rw [List.take_append, cells11, List.take_of_length_le (by rw [cells11]; omega), show (n + 1) * 11 - 11 = n * 11 by omega, this]
theorem cellsOf_drop (l : List Rule) (n : Nat) : (cellsOf l).drop (n * 11) = cellsOf (l.drop n) := by
  induction l generalizing n with
  | nil => simp [cellsOf]
  | cons a t ih =>
    cases n with
    | zero => simp [cellsOf]
    | succ n =>
      have := ih n
      simp only [cellsOf, List.flatMap_cons, List.drop_succ_cons] at this ⊢
      rw [List.drop_append, cells11, List.drop_of_length_le (by rw [cells11]; omega), show (n + 1) * 11 - 11 = n * 11 by omega, this, List.nil_append]
theorem cellsOf_at {l : List Rule} {j i : Nat} (h : j < l.length) (hi : i < 11) : (cellsOf l)[j * 11 + i]? = (l[j]).cells.toList[i]? := by
  have h1 : (cellsOf l)[j * 11 + i]? = ((cellsOf l).drop (j * 11))[i]? := by rw [List.getElem?_drop]
  rw [h1, cellsOf_drop, List.drop_eq_getElem_cons h]
  simp only [cellsOf, List.flatMap_cons]
  rw [List.getElem?_append_left (by rw [cells11]; exact hi)]

/-- a slice of rules -/
def RR (W : World) (v : Value) (l : List Rule) : Prop := W.ownsRow 0 30 11 v l.length (cellsOf l)
theorem RR.nil (W : World) : RR W (.slice none 0 0) [] := ⟨rfl, Or.inl ⟨rfl, rfl⟩⟩
theorem RR.row {W : World} {v : Value} {l : List Rule} (h : RR W v l) {g : Nat} (k : v.ownBlock = some g) : g < W.heap.size := (World.ownsRow.lt h g k).2
theorem RR.same {W W' : World} {v : Value} {l : List Rule} (h : RR W v l) (k : ∀ g, v.ownBlock = some g → W'.heap[g]? = W.heap[g]?) : RR W' v l := by
  refine ⟨h.1, ?_⟩
  rcases h.2 with hn | ⟨g, cap, cur, hv, hb, hg, r⟩
  · exact Or.inl hn
  · exact Or.inr ⟨g, cap, cur, hv, hb, (k g (by rw [hv]; rfl)).trans hg, r⟩
theorem RR.below {W W' : World} {v : Value} {l : List Rule} (h : RR W v l) (k : Below W.heap.size W W') : RR W' v l := h.same fun g hg => k.block g (h.row hg)
theorem RR.cell {W : World} {v : Value} {l : List Rule} (h : RR W v l) (hn : l ≠ []) : ∃ g cap, v = .slice (some ⟨g, 0, none⟩) l.length cap ∧ g < W.heap.size ∧ l.length ≤ cap ∧ cap ≤ maxLen ∧ ∀ i u, (cellsOf l)[i]? = some u → W.cell? ⟨g, i, none⟩ = some u := by
  rcases h.2 with ⟨_, h0⟩ | ⟨g, cap, cur, hv, hb, hg, h1, h2, h3, h4⟩
  · exact absurd (List.length_eq_zero_iff.1 h0) hn
  · refine ⟨g, cap, hv, (Array.getElem?_eq_some_iff.1 hg).1, h1, h2, fun i u hu => ?_⟩
    rw [Lib.cell_of_heap hg]
    rw [← h4, List.getElem?_take] at hu
    split at hu
    · simpa using hu
    · cases hu

/-- the first place at which something holds, or -1 -/
def fidx (p : Rule → Bool) (l : List Rule) : Int := if l.any p = true then (l.findIdx p : Int) else -1
theorem fidx_hit {p : Rule → Bool} {l : List Rule} {k : Nat} (h : k < l.length) (hk : p l[k] = true) (hj : ∀ j (hj : j < k), p (l[j]'(by omega)) = false) : fidx p l = k := by
  unfold fidx
  rw [if_pos (List.any_eq_true.2 ⟨l[k], List.getElem_mem h, hk⟩), (List.findIdx_eq h).2 ⟨hk, hj⟩]
theorem fidx_miss {p : Rule → Bool} {l : List Rule} (hj : ∀ j (hj : j < l.length), p l[j] = false) : fidx p l = -1 := by
  unfold fidx
  rw [if_neg]
  rw [List.any_eq_true]
  rintro ⟨r, hr, hp⟩
  obtain ⟨j, hj2, rfl⟩ := List.getElem_of_mem hr
  rw [hj j hj2] at hp
  cases hp

set_option maxRecDepth 100000 in
set_option maxHeartbeats 4000000 in
theorem IndexFuncR (p : Rule → Bool) (g : Nat) (lb : Array Value) (eg : ∀ args w, (callFunc g args).run Try.prog w = .ok (.enter g args) w) (b c : Nat) (l : List Rule) (w : World)
    (hp : ∀ W r, r ∈ l → Below w.heap.size w W → Calls Try.prog g (#[.agg r.cells] ++ lb) W fun e w' => e = .returned (.bool (p r)) ∧ Below w.heap.size w w') (hbig : l.length ≤ 9223372036854775807) (hb : b < w.heap.size)
    (hc : ∀ i u, (cellsOf l)[i]? = some u → w.cell? ⟨b, i, none⟩ = some u) :
    Calls Try.prog 62 #[.slice (some ⟨b, 0, none⟩) l.length c, .func (.func g) #[] lb] w fun e w' => e = .returned (.int .i64 (fidx p l)) ∧ Below w.heap.size w w' := by
  obtain ⟨n, hn⟩ : ∃ n, n = l.length := ⟨_, rfl⟩
  obtain ⟨iv, hiv⟩ : ∃ iv, iv = fidx p l := ⟨_, rfl⟩
  rw [← hiv, ← hn]
  rw [← hn] at hbig
  have HN := hide hn; have HI := hide hiv; have HP := hide hp; have HC := hide hc; have HB := hide hb
  clear hn hiv hp hc hb
  go_enter Try.func62, Try.ntmps62
  go_wp2_with fail
  go_loopg [5, 8] n (fun gg _ s8 wr => ∃ kk : Nat, kk ≤ n ∧ n - kk ≤ gg ∧ s8 = .int .i64 kk ∧ Aside (Below w.heap.size w wr) ∧ Aside (∀ j (hj : j < kk) (hl : j < l.length), p l[j] = false))
  case atStart => exact ⟨0, Nat.zero_le _, by omega, rfl, Below.refl _ w, fun j hj => absurd hj (Nat.not_lt_zero _)⟩
  case round =>
    obtain ⟨kk, hkk, hg, rfl, BW, A⟩ := hrel
    by_cases hlt : kk < n
    · have hltz : (kk : Int) < (n : Int) := by omega
      have hl : kk < l.length := by have := HN.out; omega
      have hcall := HP.out wr l[kk] (List.getElem_mem hl) BW.out
      have hq : ∀ i u, (l[kk]).cells.toList[i]? = some u → i < 11 → wr.cell? ⟨b, kk * 11 + i, none⟩ = some u := fun i u hu hi => by
        rw [BW.out.cell (p := ⟨b, kk * 11 + i, none⟩) HB.out]
        exact HC.out _ _ (by rw [cellsOf_at hl hi]; exact hu)
      generalize hr : l[kk] = r at *
      have y0 : wr.cell? ⟨b, kk * 11, none⟩ = some (.int .i64 r.k) := hq 0 _ rfl (by omega)
      have y1 : wr.cell? ⟨b, kk * 11 + 1, none⟩ = some (.int .u8 r.p) := hq 1 _ rfl (by omega)
      have y2 : wr.cell? ⟨b, kk * 11 + 2, none⟩ = some (.int .u32 r.sa) := hq 2 _ rfl (by omega)
      have y3 : wr.cell? ⟨b, kk * 11 + 3, none⟩ = some (.int .i64 r.sb) := hq 3 _ rfl (by omega)
      have y4 : wr.cell? ⟨b, kk * 11 + 4, none⟩ = some (.int .u32 r.da) := hq 4 _ rfl (by omega)
      have y5 : wr.cell? ⟨b, kk * 11 + 5, none⟩ = some (.int .i64 r.db) := hq 5 _ rfl (by omega)
      have y6 : wr.cell? ⟨b, kk * 11 + 6, none⟩ = some (.int .u32 r.e) := hq 6 _ rfl (by omega)
      have y7 : wr.cell? ⟨b, kk * 11 + 7, none⟩ = some (.int .u16 r.f) := hq 7 _ rfl (by omega)
      have y8 : wr.cell? ⟨b, kk * 11 + 8, none⟩ = some (.int .u16 r.t) := hq 8 _ rfl (by omega)
      have y9 : wr.cell? ⟨b, kk * 11 + 9, none⟩ = some (.int .u32 r.ia) := hq 9 _ rfl (by omega)
      have y10 : wr.cell? ⟨b, kk * 11 + 10, none⟩ = some (.int .u16 r.ip) := hq 10 _ rfl (by omega)
      have HR := hide hr
      clear hq hr
      obtain ⟨q, hqq⟩ : ∃ q, q = p r := ⟨_, rfl⟩
      rw [← hqq] at hcall
      have HQ := hide hqq
      clear hqq
      cases q with
      | true =>
        unfold Rule.cells at hcall
        go_wp2_with (go_at_fn g; refine hcall.mono ?_; rintro e w' ⟨rfl, hb'⟩)
        go_ret
        refine ⟨?_, hb'⟩
        rw [HI.out, fidx_hit hl (by rw [HR.out]; exact HQ.out.symm) (fun j hj => A.out j hj (by omega))]
        rfl
      | false =>
        unfold Rule.cells at hcall
        go_wp2_with (go_at_fn g; refine hcall.mono ?_; rintro e w' ⟨rfl, hb'⟩)
        go_roundg (n - (kk + 1))
        case measure => omega
        case rel =>
          refine ⟨kk + 1, by omega, by omega, by go_num, hb', (show Aside _ from fun j hj hl => ?_)⟩
          by_cases e : j = kk
          · subst e
            rw [HR.out]; exact HQ.out.symm
          · exact A.out j (by omega) hl
    · have hltz : ¬ (kk : Int) < (n : Int) := by omega
      have : kk = n := by omega
      subst this
      go_wp2_with fail
      go_ret
      refine ⟨?_, BW.out⟩
      rw [HI.out, fidx_miss (fun j hj => A.out j (by rw [HN.out]; exact hj) hj)]
      rfl

theorem fidx_any (p : Rule → Bool) (l : List Rule) : decide (0 ≤ fidx p l) = l.any p := by
  unfold fidx
  split
  · rename_i h; rw [h]; simp
  · rename_i h; simp only [Bool.not_eq_true] at h; rw [h]; rfl
theorem IndexFuncE (A : Option Addr) (c : Nat) (f : Value) (w : World) :
    Calls Try.prog 62 #[.slice A 0 c, f] w (Ret (.int .i64 (-1)) w) := by
  go_enter Try.func62, Try.ntmps62
  go_wp2_with fail
  go_loopg [8] 1 (fun gg s8 wr => s8 = .int .i64 0 ∧ wr = w)
  case atStart => exact ⟨rfl, rfl⟩
  case round =>
    obtain ⟨rfl, rfl⟩ := hrel
    go_wp2_with fail
    go_ret
    exact ⟨rfl, Below.refl _ _⟩
/-- slices.IndexFunc over a slice of rules -/
theorem IndexFuncRR (p : Rule → Bool) (g : Nat) (lb : Array Value) (eg : ∀ args w, (callFunc g args).run Try.prog w = .ok (.enter g args) w) (v : Value) (l : List Rule) (w : World) (hv : RR w v l)
    (hp : ∀ W r, r ∈ l → Below w.heap.size w W → Calls Try.prog g (#[.agg r.cells] ++ lb) W fun e w' => e = .returned (.bool (p r)) ∧ Below w.heap.size w w') (hbig : l.length ≤ 9223372036854775807) :
    Calls Try.prog 62 #[v, .func (.func g) #[] lb] w (Ret (.int .i64 (fidx p l)) w) := by
  by_cases hl : l = []
  · subst hl
    rw [show fidx p [] = -1 from rfl]
    rcases hv.2 with h | ⟨g, cap, cur, h, _⟩
    · rw [h.1]; exact IndexFuncE _ _ _ w
    · rw [h]; exact IndexFuncE _ _ _ w
  · obtain ⟨b, cap, rfl, hb, h1, h2, hc⟩ := hv.cell hl
    exact IndexFuncR p g lb eg b cap l w hp hbig hb hc
theorem ContainsFuncRR (p : Rule → Bool) (g : Nat) (lb : Array Value) (eg : ∀ args w, (callFunc g args).run Try.prog w = .ok (.enter g args) w) (v : Value) (l : List Rule) (w : World) (hv : RR w v l)
    (hp : ∀ W r, r ∈ l → Below w.heap.size w W → Calls Try.prog g (#[.agg r.cells] ++ lb) W fun e w' => e = .returned (.bool (p r)) ∧ Below w.heap.size w w') (hbig : l.length ≤ 9223372036854775807) :
    Calls Try.prog 42 #[v, .func (.func g) #[] lb] w (Ret (.bool (l.any p)) w) := by
  have c1 := IndexFuncRR p g lb eg v l w hv hp hbig
  obtain ⟨q, hq⟩ : ∃ q, q = l.any p := ⟨_, rfl⟩
  rw [← hq]
  rw [← fidx_any] at hq
  generalize fidx p l = iv at *
  have C1 := hide c1; have HQ := hide hq
  clear c1 hq hp hv
  go_enter Try.func42, Try.ntmps42
  go_wp2_with fail
  (with_reducible refine (C1.out).mono ?_)
  rintro e w2 ⟨rfl, b2⟩
  go_wp2_with fail
  go_ret
  exact ⟨by rw [HQ.out]; rfl, b2⟩
end Go.Proofs.Ytbboajhdijabbaa
