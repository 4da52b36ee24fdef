/- rules: the law's filled. -/
import Derived.Test.YtbboajhdijabbaaRlaw5
import Derived.Test.YtbboajhdijabbaaRule21
set_option linter.unusedVariables false
set_option linter.unusedSimpArgs false
namespace Go.Proofs.Ytbboajhdijabbaa
open Go.RowKit Go.Lib
attribute [local go_sem] Oper.semAt_some

theorem h_ListLen {w0 : World} {v0 : Value} {B : Nat} {o ip b : Int} {l : List Rule} (n : Nat) (hn : n = l.length) (hl : l.length ≤ 1000) (W : World) (h : Held w0 v0 B o ip b l W) :
    Calls Try.prog 22 #[.pointer (some ⟨B, 0, none⟩)] W fun e W' => ∃ A c, e = .returned (.slice A n c) ∧ Below W.heap.size W W' := by
  subst hn
  exact (h_List hl W h).mono fun e W' ⟨A, c, he, _, hb, _⟩ => ⟨A, c, he, hb⟩

/-- what filled leaves -/
def Filled (w : World) (l : List Rule) (e : Ending) (W : World) : Prop := ∃ B v, e = .returned (.tuple #[.pointer (some ⟨B, 0, none⟩), .bool true]) ∧ TS W B 151587081 167772160 8 l v ∧ (∀ g, v.ownBlock = some g → w.heap.size ≤ g) ∧ Below w.heap.size w W ∧ w.heap.size ≤ B

set_option maxHeartbeats 8000000 in
set_option maxRecDepth 100000 in
theorem l_filled (w : World) (A : Option Addr) (n c : Nat) (ds : List Draft) (hn : n = ds.length) (hrow : DRow w A ds) (hd : ∀ d ∈ ds, d.Ok) (hl : n ≤ 1000) :
    Calls Try.prog 20 #[.slice A n c] w (Filled w (fillL ds)) := by
  have c0 := fun W => l_tens W
  have c1 := fun W => t_New W 151587081 167772160 8 (by decide) (by decide)
  simp only [new_ok, if_true] at c1
  have hn63 : (n : Int) ≤ 1000 := by omega
  have hnn : (0 : Int) ≤ (n : Int) := by omega
  have C0 := hide c0; have C1 := hide c1; have HN := hide hn; have HR := hide hrow; have HD := hide hd
  clear c0 c1 hn hrow hd hl
  go_enter Try.func20, Try.ntmps20
  go_upto_region 2 with (first | (go_at_call 30; refine (C0.out _).mono ?_; rintro e w1 ⟨rfl, b1⟩) | (go_at_call 9; refine (C1.out _).mono ?_; rintro e w2 ⟨B, rfl, ts, b2, hB⟩))
  have L2 := hide (bstep b1 b2)
  have hB2 := hide (Nat.le_trans b1.size hB)
  have H2 := hide (Held.start ts)
  clear ts b1 b2 hB
  go_upto_region 5 with fail
  go_wp2_with fail
  go_loopg [6, 7, 8] n (fun gg si _ _ wr => ∃ kk : Nat, kk ≤ n ∧ n - kk ≤ gg ∧ si = .int .i64 kk ∧ Aside (Held w2 (.slice none 0 0) B 151587081 167772160 8 (fillL (ds.take kk)) wr))
  case atStart => exact ⟨0, Nat.zero_le _, by omega, rfl, H2.out⟩
  case round =>
    obtain ⟨kk, hkk, hg, rfl, HW⟩ := hrel
    by_cases hlt : kk < n
    · have hltz : (kk : Int) < (n : Int) := by omega
      have hl : kk < ds.length := by have := HN.out; omega
      obtain ⟨g, o, rfl, hg0, hcell⟩ := HR.out kk hl
      have hdk : (ds[kk]).Ok := HD.out _ (List.getElem_mem hl)
      have hgood : Good (fillL (ds.take kk)) := fillL_good _ fun d h => HD.out d (List.mem_of_mem_take h)
      have hsnoc := fillL_snoc ds kk hl
      obtain ⟨d, hdd⟩ : ∃ d, d = ds[kk] := ⟨_, rfl⟩
      rw [← hdd] at hcell hdk hsnoc
      obtain ⟨L, hL⟩ : ∃ L, L = fillL (ds.take kk) := ⟨_, rfl⟩
      rw [← hL] at hgood hsnoc HW
      obtain ⟨m, hm⟩ : ∃ m, m = L.length := ⟨_, rfl⟩
      have hm32 : m ≤ 32 := by have := hgood.len; omega
      have hcodes := addC_codes (l := L) (r := d.rule) (i := L.length) (Draft.rule_may hdk) (Nat.le_refl _)
      obtain ⟨L', hL'⟩ : ∃ L', L' = addL 151587081 167772160 8 L L.length d.rule := ⟨_, rfl⟩
      rw [← hL'] at hsnoc
      have hgood' : Good L' := by rw [hL']; exact hgood.add (Draft.rule_ok hdk)
      have hlen : (addC 151587081 167772160 8 L L.length d.rule = 0 → L'.length = m + 1) ∧ (addC 151587081 167772160 8 L L.length d.rule ≠ 0 → L'.length = m) := by
        rw [hL', hm]
        unfold addL
        refine ⟨fun h => ?_, fun h => ?_⟩
        · rw [if_pos h]; simp
        · rw [if_neg h]
      have ca := fun W (h : Held w2 (.slice none 0 0) B 151587081 167772160 8 L W) => h_Add L.length d.rule (by omega) (Draft.rule_ok hdk) (by have := hgood.len; omega) W h
      rw [← hL', ← hm] at ca
      rw [← hm] at hlen hcodes
      generalize addC 151587081 167772160 8 L m d.rule = rc at *
      have cd := fun W => l_DRule W d hdk
      have cm := fun W (h : Held w2 (.slice none 0 0) B 151587081 167772160 8 L W) => h_ListLen m hm (by have := hgood.len; omega) W h
      have hRow : ∀ j u, d.cells[j]? = some u → ∀ W', Below wr.heap.size wr W' → World.cell? W' ⟨g, o + kk * 6 + j, none⟩ = some u := fun j u hu W' hW => by
        rw [← hcell j u hu]
        refine World.cell?_of_block (w := w) ?_
        have hx : Only (fun k => k = B ∨ (Value.slice none 0 0).ownBlock = some k) w2 W' := Only.then HW.out.only hW
        show W'.heap[g]? = w.heap[g]?
        rw [hx.block g (Nat.lt_of_lt_of_le hg0 L2.out.size) (by rintro (e | e); have := hB2.out; omega; cases e)]
        exact L2.out.block g hg0
      have z0 : ∀ W', Below wr.heap.size wr W' → World.cell? W' ⟨g, o + kk * 6, none⟩ = some (.int .u8 d.a0) := hRow 0 _ rfl
      have z1 : ∀ W', Below wr.heap.size wr W' → World.cell? W' ⟨g, o + kk * 6 + 1, none⟩ = some (.int .u8 d.a1) := hRow 1 _ rfl
      have z2 : ∀ W', Below wr.heap.size wr W' → World.cell? W' ⟨g, o + kk * 6 + 2, none⟩ = some (.int .u8 d.a2) := hRow 2 _ rfl
      have z3 : ∀ W', Below wr.heap.size wr W' → World.cell? W' ⟨g, o + kk * 6 + 3, none⟩ = some (.int .u8 d.a3) := hRow 3 _ rfl
      have z4 : ∀ W', Below wr.heap.size wr W' → World.cell? W' ⟨g, o + kk * 6 + 4, none⟩ = some (.int .u8 d.a4) := hRow 4 _ rfl
      have z5 : ∀ W', Below wr.heap.size wr W' → World.cell? W' ⟨g, o + kk * 6 + 5, none⟩ = some (.int .u8 d.a5) := hRow 5 _ rfl
      unfold Draft.cells at cd
      have CA := hide ca; have CD := hide cd; have CM := hide cm; have HS := hide hsnoc; have HLEN := hide hlen; have HG := hide hgood'; have HC := hide hcodes
      clear ca cd cm hsnoc hlen hgood hgood' hcodes hRow hcell hdk hdd hL hm hL' hg0
      have bb : Below wr.heap.size wr wr := Below.refl _ _
      go_upto_region 8 with (go_at_call 22; (refine (CM.out _ HW.out).mono ?_); rintro e w3 ⟨A3, c3, rfl, b3⟩)
      have H3 := hide (Held.below HW.out b3)
      go_upto_region 9 with (first | (go_at_call 27; (with_reducible refine (CD.out _).mono ?_); rintro e w4 ⟨rfl, b4⟩; have H4 := hide (Held.below H3.out b4)) | (go_at_call 14; (refine (CA.out _ H4.out).mono ?_); rintro e w5 ⟨rfl, h5⟩; have H5 := hide h5; clear h5))
      clear z0 z1 z2 z3 z4 z5 bb b3 b4 H4 H3
      generalize w5 = w6 at *
      rcases HC.out with rfl | rfl | rfl
      · have hl1 := HLEN.out.1 rfl
        have cm2 := hide (fun W (h : Held w2 (.slice none 0 0) B 151587081 167772160 8 L' W) => h_ListLen (m + 1) hl1.symm (by have := HG.out.len; omega) W h)
        have hm31 : m + 1 ≤ 32 := by have := HG.out.len; omega
        have hmz : ((m : Int) + 1) ≤ 32 := by omega
        clear hl1
        have b6 : Below w6.heap.size w6 w6 := Below.refl _ _
        go_wp2_with (go_at_call 22; (refine (cm2.out _ (Held.below H5.out (by assumption))).mono ?_); rintro e w7 ⟨A7, c7, rfl, b7⟩; have b8 := bstep (by assumption : Below w6.heap.size w6 _) b7; clear b7)
        go_roundg (n - (kk + 1))
        case measure => omega
        case rel =>
          refine ⟨kk + 1, by omega, by omega, by go_num, (show Aside _ from ?_)⟩
          rw [HS.out]
          exact Held.below H5.out (by assumption)
      · have hl1 := HLEN.out.2 (by decide)
        have cm2 := hide (fun W (h : Held w2 (.slice none 0 0) B 151587081 167772160 8 L' W) => h_ListLen m hl1.symm (by have := HG.out.len; omega) W h)
        have hmz : (m : Int) ≤ 32 := by omega
        clear hl1
        have b6 : Below w6.heap.size w6 w6 := Below.refl _ _
        go_wp2_with (go_at_call 22; (refine (cm2.out _ (Held.below H5.out (by assumption))).mono ?_); rintro e w7 ⟨A7, c7, rfl, b7⟩; have b8 := bstep (by assumption : Below w6.heap.size w6 _) b7; clear b7)
        go_roundg (n - (kk + 1))
        case measure => omega
        case rel =>
          refine ⟨kk + 1, by omega, by omega, by go_num, (show Aside _ from ?_)⟩
          rw [HS.out]
          exact Held.below H5.out (by assumption)
      · have hl1 := HLEN.out.2 (by decide)
        have cm2 := hide (fun W (h : Held w2 (.slice none 0 0) B 151587081 167772160 8 L' W) => h_ListLen m hl1.symm (by have := HG.out.len; omega) W h)
        have hmz : (m : Int) ≤ 32 := by omega
        clear hl1
        have b6 : Below w6.heap.size w6 w6 := Below.refl _ _
        go_wp2_with (go_at_call 22; (refine (cm2.out _ (Held.below H5.out (by assumption))).mono ?_); rintro e w7 ⟨A7, c7, rfl, b7⟩; have b8 := bstep (by assumption : Below w6.heap.size w6 _) b7; clear b7)
        go_roundg (n - (kk + 1))
        case measure => omega
        case rel =>
          refine ⟨kk + 1, by omega, by omega, by go_num, (show Aside _ from ?_)⟩
          rw [HS.out]
          exact Held.below H5.out (by assumption)
    · have hltz : ¬ (kk : Int) < (n : Int) := by omega
      have : kk = n := by omega
      subst this
      have HW' := hide HW.out
      clear HW
      go_wp2_with fail
      go_ret2
      have hf : ds.take kk = ds := by rw [HN.out]; exact List.take_length
      rw [hf] at HW'
      obtain ⟨⟨v, h1, h2⟩, h3⟩ := HW'.out
      refine ⟨B, v, rfl, h1, fun g hg => ?_, ?_, hB2.out⟩
      · rcases h2 g hg with e | e
        · cases e
        · exact Nat.le_trans L2.out.size e
      · exact L2.out.trans (h3.below (fun k hk => by rcases hk with e | e; (rw [e]; exact hB2.out); cases e) L2.out.size)
end Go.Proofs.Ytbboajhdijabbaa
