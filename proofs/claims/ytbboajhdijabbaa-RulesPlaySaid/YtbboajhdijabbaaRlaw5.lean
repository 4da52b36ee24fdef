/- rules: rows of drafts; the table that is filled. -/
import Derived.Test.YtbboajhdijabbaaRlaw2
set_option linter.unusedVariables false
set_option linter.unusedSimpArgs false
namespace Go.Proofs.Ytbboajhdijabbaa
open Go.RowKit Go.Lib
attribute [local go_sem] Oper.semAt_some

structure Draft where
  a0 : Int
  a1 : Int
  a2 : Int
  a3 : Int
  a4 : Int
  a5 : Int
structure Draft.Ok (d : Draft) : Prop where
  h0 : 0 ≤ d.a0 ∧ d.a0 ≤ 255
  h1 : 0 ≤ d.a1 ∧ d.a1 ≤ 255
  h2 : 0 ≤ d.a2 ∧ d.a2 ≤ 255
  h3 : 0 ≤ d.a3 ∧ d.a3 ≤ 255
  h4 : 0 ≤ d.a4 ∧ d.a4 ≤ 255
  h5 : 0 ≤ d.a5 ∧ d.a5 ≤ 255
def Draft.cells (d : Draft) : Array Value := #[.int .u8 d.a0, .int .u8 d.a1, .int .u8 d.a2, .int .u8 d.a3, .int .u8 d.a4, .int .u8 d.a5]
def Draft.rule (d : Draft) : Rule := dRule d.a0 d.a1 d.a2 d.a3 d.a4 d.a5
theorem Draft.rule_ok {d : Draft} (h : d.Ok) : d.rule.Ok := dRule_ok h.h0 h.h1 h.h2 h.h3 h.h4 h.h5
theorem Draft.rule_may {d : Draft} (h : d.Ok) : mayR 167772160 8 d.rule = true := dRule_may h.h0 h.h1 h.h2 h.h3 h.h4 h.h5
theorem l_DRule (w : World) (d : Draft) (h : d.Ok) : Calls Try.prog 27 #[.agg d.cells] w (Ret (.agg d.rule.cells) w) := l_Rule w _ _ _ _ _ _ h.h0 h.h1 h.h2 h.h3 h.h4 h.h5
/-- a slice of drafts in memory -/
def DRow (w : World) (A : Option Addr) (ds : List Draft) : Prop := ∀ i (hi : i < ds.length), ∃ g o, A = some (⟨g, o, none⟩ : Addr) ∧ g < w.heap.size ∧ ∀ j u, (ds[i]).cells[j]? = some u → w.cell? ⟨g, o + i * 6 + j, none⟩ = some u
theorem DRow.only {w W : World} {A : Option Addr} {ds : List Draft} {X : Nat → Prop} (h : DRow w A ds) (k : Only X w W) (hx : ∀ g, g < w.heap.size → ¬ X g) : DRow W A ds := fun i hi => by
  obtain ⟨g, o, h1, h2, h3⟩ := h i hi
  refine ⟨g, o, h1, Nat.lt_of_lt_of_le h2 k.size, fun j u hu => ?_⟩
  rw [← h3 j u hu]
  exact World.cell?_of_block (w := w) (k.block g h2 (hx g h2))
theorem DRow.below {w W : World} {A : Option Addr} {ds : List Draft} (h : DRow w A ds) (k : Below w.heap.size w W) : DRow W A ds := h.only (Only.of_below (X := fun _ => False) k (Nat.le_refl _)) fun _ _ h => h

/-- a table's rules: at most 32, each may be, and no two clash -/
structure Good (l : List Rule) : Prop where
  len : l.length ≤ 32
  ok : ∀ r ∈ l, r.Ok
  may : ∀ r ∈ l, mayR 167772160 8 r = true
  apart : l.Pairwise fun x y => clashR (wholeR 151587081 x) (wholeR 151587081 y) = false ∨ clashR (wholeR 151587081 y) (wholeR 151587081 x) = false
theorem Good.nil : Good [] := ⟨by decide, (fun _ h => by cases h), (fun _ h => by cases h), List.Pairwise.nil⟩
theorem addC_codes {l : List Rule} {r : Rule} {i : Nat} (hm : mayR 167772160 8 r = true) (hi : i ≤ l.length) : addC 151587081 167772160 8 l i r = 0 ∨ addC 151587081 167772160 8 l i r = 5 ∨ addC 151587081 167772160 8 l i r = 11 := by
  unfold addC
  rw [if_neg (by rw [hm]; decide), if_neg (by omega)]
  split
  · exact Or.inr (Or.inl rfl)
  · split
    · exact Or.inr (Or.inr rfl)
    · exact Or.inl rfl
theorem addC_zero {l : List Rule} {r : Rule} {i : Int} (h : addC 151587081 167772160 8 l i r = 0) : mayR 167772160 8 r = true ∧ 0 ≤ i ∧ i ≤ l.length ∧ l.length < 32 ∧ ∀ x ∈ l, clashR (wholeR 151587081 x) (wholeR 151587081 r) = false := by
  unfold addC at h
  split at h
  · cases h
  · rename_i hm
    split at h
    · cases h
    · split at h
      · cases h
      · split at h
        · cases h
        · rename_i hc
          refine ⟨by simpa using hm, by omega, by omega, by omega, fun x hx => ?_⟩
          rw [Bool.not_eq_true, List.any_eq_false] at hc
          simpa using hc x hx
theorem Good.add {l : List Rule} {r : Rule} {i : Int} (h : Good l) (hr : r.Ok) : Good (addL 151587081 167772160 8 l i r) := by
  unfold addL
  split
  · rename_i hz
    obtain ⟨h1, h2, h3, h4, h5⟩ := addC_zero hz
    have hmem : ∀ x, x ∈ l.take i.toNat ++ r :: l.drop i.toNat → x = r ∨ x ∈ l := fun x hx => by
      rcases List.mem_append.1 hx with h | h
      · exact Or.inr (List.mem_of_mem_take h)
      · rcases List.mem_cons.1 h with h | h
        · exact Or.inl h
        · exact Or.inr (List.mem_of_mem_drop h)
    refine ⟨by simp only [List.length_append, List.length_take, List.length_cons, List.length_drop]; omega, fun x hx => ?_, fun x hx => ?_, ?_⟩
    · rcases hmem x hx with e | e
      · rw [e]; exact hr
      · exact h.ok x e
    · rcases hmem x hx with e | e
      · rw [e]; exact h1
      · exact h.may x e
    · have hp := h.apart
      rw [← List.take_append_drop i.toNat l, List.pairwise_append] at hp
      rw [List.pairwise_append]
      refine ⟨hp.1, List.pairwise_cons.2 ⟨fun y hy => Or.inr (h5 y (List.mem_of_mem_drop hy)), hp.2.1⟩, fun x hx y hy => ?_⟩
      rcases List.mem_cons.1 hy with e | e
      · rw [e]; exact Or.inl (h5 x (List.mem_of_mem_take hx))
      · exact hp.2.2 x hx y e
  · exact h
theorem Good.sub {l m : List Rule} (h : Good l) (hs : m.Sublist l) : Good m :=
  ⟨Nat.le_trans hs.length_le h.len, fun r hr => h.ok r (hs.subset hr), fun r hr => h.may r (hs.subset hr), h.apart.sublist hs⟩
theorem Good.del {l : List Rule} (h : Good l) (i : Int) : Good (delL l i) := by
  unfold delL
  split
  · exact h
  · refine h.sub ?_
    conv => rhs; rw [← List.take_append_drop i.toNat l]
    refine List.Sublist.append (List.Sublist.refl _) ?_
    rw [← List.drop_drop]
    exact List.drop_sublist _ _
/-- the rules of a table to which drafts were added -/
def fillL (ds : List Draft) : List Rule := ds.foldl (fun l d => addL 151587081 167772160 8 l l.length d.rule) []
theorem fillL_snoc (ds : List Draft) (k : Nat) (hk : k < ds.length) : fillL (ds.take (k + 1)) = addL 151587081 167772160 8 (fillL (ds.take k)) (fillL (ds.take k)).length ds[k].rule := by
  unfold fillL
  rw [List.take_succ_eq_append_getElem hk, List.foldl_append]
  rfl
theorem fillL_good (ds : List Draft) (h : ∀ d ∈ ds, d.Ok) : Good (fillL ds) := by
  have key : ∀ (ds : List Draft) (l : List Rule), Good l → (∀ d ∈ ds, d.Ok) → Good (ds.foldl (fun l d => addL 151587081 167772160 8 l l.length d.rule) l) := by
    intro ds
    induction ds with
    | nil => intro l hl _; exact hl
    | cons d t ih => intro l hl hd; exact ih _ (hl.add (Draft.rule_ok (hd d List.mem_cons_self))) fun x hx => hd x (List.mem_cons_of_mem _ hx)
  exact key ds [] Good.nil h
end Go.Proofs.Ytbboajhdijabbaa
