/- RulesPlay: the walk. -/
import Derived.Test.YtbboajhdijabbaaPairO
import Derived.Test.YtbboajhdijabbaaOpenA
import Derived.Test.YtbboajhdijabbaaLight
import Derived.Deep.MidRow
import Derived.Deep.WholeRow
set_option linter.unusedVariables false
set_option linter.unusedSimpArgs false
namespace Go.Proofs.Ytbboajhdijabbaa
open Go.RowKit Go.Lib
attribute [local go_sem] Oper.semAt_some envL lookV

theorem wpList_store_new {P : Program} {ops : Array Oper} {rest : List Oper} {op : Oper} {a : Act} {w : World} {Q : Exit → Act → World → Prop} (hgd : op.guard = none) (ty : TypeId) (x y : Operand) (ho : op.op = .store ty x y)
    (c c' : Array Value) (hx : a.eval x = .pointer (some ⟨w.heap.size, 0, none⟩)) (hy : a.eval y = .agg c')
    (hi : (P.info? ty).map (·.size) = some c'.size) (hc : c.size = c'.size) (h1 : c'.all (·.oneCell') = true)
    (h : wpList P ops Q rest (a.put op.dst undef) (w.alloc (.cells c' ty))) : wpList P ops Q (op :: rest) a (w.alloc (.cells c ty)) :=
  wpList_plain hgd fun _ hK => by
    unfold Oper.wp execOp
    simp only [ho, hx, hy, run_storeAt_new w ty c c' hi hc h1, Sem.run_bind, Sem.run_pure, Result.andThen_ok]
    exact hK _ _ h

set_option maxHeartbeats 8000000 in
set_option maxRecDepth 100000 in
theorem RulesPlay_walk (A : Option Addr) (n c : Nat) (ds : List Deed) (w : World) (hn : n = ds.length) (hrow : ARow w A ds) (hd : ∀ d ∈ ds, d.Ok) (hl63 : n ≤ 9223372036854775807) :
    Calls Try.prog 7 #[.slice A n c] w (Ret (.bool true) w) := by
  have cr := fun W => ruled W
  have CR := hide cr
  clear cr
  by_cases h60 : 60 < n
  · have h60z : (60 : Int) < (n : Int) := by omega
    have hz : (n : Int) ≤ 9223372036854775807 := by omega
    clear hn hrow hd h60 hl63
    have bb : Below w.heap.size w w := Below.refl _ _
    go_enter Try.func7, Try.ntmps7
    go_wp2_with ((go_at_call 11; (with_reducible refine (CR.out _).mono ?_); rintro e2 w2 ⟨rfl, b2⟩; have b2' := bstep (by assumption : Below w.heap.size w _) b2; clear b2))
    go_ret
    exact ⟨rfl, by assumption⟩
  · have h60z : ¬ (60 : Int) < (n : Int) := by omega
    have hn63 : (n : Int) ≤ 60 := by omega
    have c0 := fun W => l_tens W
    have c1 := fun W => t_New W 151587081 167772160 8 (by decide) (by decide)
    have c2 := fun W => d_New W 151587081 167772160 8 (by decide) (by decide)
    simp only [new_ok, if_true] at c1 c2
    have C0 := hide c0; have C1 := hide c1; have C2 := hide c2; have HN := hide hn; have HR := hide hrow; have HD := hide hd
    clear c0 c1 c2 hn hrow hd h60 hl63
    go_enter Try.func7, Try.ntmps7
    go_upto_region 4 with (first | (go_at_call 30; refine (C0.out _).mono ?_; rintro e w1 ⟨rfl, b1⟩) | (go_at_call 9; refine (C1.out _).mono ?_; rintro e w2 ⟨B, rfl, ts, b2, hB⟩))
    have BA := hide (bstep b1 b2); have TSA := hide ts; have HBA := hide (Nat.le_trans b1.size hB)
    clear ts b1 b2 hB
    go_upto_region 5 with (first | (go_at_call 30; refine (C0.out _).mono ?_; rintro e w3 ⟨rfl, b3⟩) | (go_at_call 10; refine (C2.out _).mono ?_; rintro e w4 ⟨B', rfl, ds', b4, hB'⟩))
    have hp := Pair.start TSA.out BA.out HBA.out ds' (bstep b3 b4) (Nat.le_trans b3.size hB')
    have HP := hide hp
    clear ds' b3 b4 hB' hp TSA BA HBA C0 C1 C2
    go_wp2_with fail
    go_loopg [3, 7] n (fun gg s3 s7 wr => ∃ (kk B : Nat) (l : List Rule), kk ≤ n ∧ n - kk ≤ gg ∧ s3 = .pointer (some ⟨B, 0, none⟩) ∧ s7 = .int .i64 kk ∧ Aside (Good l ∧ Pair w B B' 151587081 167772160 8 l l wr))
    case atStart => exact ⟨0, B, [], Nat.zero_le _, by omega, rfl, rfl, (show Aside _ from ⟨Good.nil, HP.out⟩)⟩
    case round =>
      clear HP
      obtain ⟨kk, B, l, hkk, hg, rfl, rfl, HH⟩ := hrel
      have GL := hide HH.out.1; have HW := hide HH.out.2
      clear HH
      by_cases hlt : kk < n
      · have hltz : (kk : Int) < (n : Int) := by omega
        have hl : kk < ds.length := by have := HN.out; omega
        obtain ⟨g, o, rfl, hg0, hcell⟩ := HR.out kk hl
        have hdk : (ds[kk]).Ok := HD.out _ (List.getElem_mem hl)
        obtain ⟨d, hdd⟩ : ∃ d, d = ds[kk] := ⟨_, rfl⟩
        rw [← hdd] at hcell hdk
        have hRow : ∀ j u, d.cells[j]? = some u → ∀ W', Below wr.heap.size wr W' → World.cell? W' ⟨g, o + kk * 19 + j, none⟩ = some u := fun j u hu W' hW => by
          rw [← hcell j u hu]
          exact World.cell?_of_block (w := w) ((bstep HW.out.bw hW).block g hg0)
        have DOK := hide (Deed.draft_ok hdk); have ROK := hide (Deed.rule_ok hdk); have HK := hide hdk.hk
        obtain ⟨A0, A1⟩ := hdk.ha
        clear hcell hdk hdd hg0 hl
        have bb : Below wr.heap.size wr wr := Below.refl _ _
        have hra : wr.rangeAt g (o + kk * 19) [.int .u8 d.k, .int .i64 d.a, .int .u8 d.d0, .int .u8 d.d1, .int .u8 d.d2, .int .u8 d.d3, .int .u8 d.d4, .int .u8 d.d5, .int .i64 d.rk, .int .u8 d.rp, .int .u32 d.rsa, .int .i64 d.rsb, .int .u32 d.rda, .int .i64 d.rdb, .int .u32 d.re, .int .u16 d.rf, .int .u16 d.rt, .int .u32 d.ria, .int .u16 d.rip] := fun j u hu => hRow j u (by simpa [Deed.cells] using hu) wr bb
        clear hRow
        have HRA := hide hra
        clear hra
        go_upto_region 10 with fail
        refine wp_region_lit ?_
        refine wpList_plain rfl fun K hK => ?_; go_simp; refine hK _ _ ?_; clear hK K
        refine wpList_plain rfl fun K hK => ?_; go_simp; refine hK _ _ ?_; clear hK K
        refine wpList_plain rfl fun K hK => ?_; go_simp; refine hK _ _ ?_; clear hK K
        refine wpList_load_mid rfl 66 _ rfl g (o + kk * 19) (by rfl) _ _ HRA.out Try.underlying66 rfl (by kernel_rfl) ?_
        refine wpList_plain rfl fun K hK => ?_; go_simp; refine hK _ _ ?_; clear hK K
        refine wpList_store_new rfl 66 _ _ rfl _ #[.int .u8 d.k, .int .i64 d.a, .int .u8 d.d0, .int .u8 d.d1, .int .u8 d.d2, .int .u8 d.d3, .int .u8 d.d4, .int .u8 d.d5, .int .i64 d.rk, .int .u8 d.rp, .int .u32 d.rsa, .int .i64 d.rsb, .int .u32 d.rda, .int .i64 d.rdb, .int .u32 d.re, .int .u16 d.rf, .int .u16 d.rt, .int .u32 d.ria, .int .u16 d.rip] (by rfl) (by rfl) (by kernel_rfl) rfl (by simp [Value.oneCell']) ?_
        clear HRA
        go_upto_region 11 with fail
        have nn := Cells.new wr #[.int .u8 d.k, .int .i64 d.a, .int .u8 d.d0, .int .u8 d.d1, .int .u8 d.d2, .int .u8 d.d3, .int .u8 d.d4, .int .u8 d.d5, .int .i64 d.rk, .int .u8 d.rp, .int .u32 d.rsa, .int .i64 d.rsb, .int .u32 d.rda, .int .i64 d.rdb, .int .u32 d.re, .int .u16 d.rf, .int .u16 d.rt, .int .u32 d.ria, .int .u16 d.rip] 66
        have bn := fresh_below wr (.cells #[.int .u8 d.k, .int .i64 d.a, .int .u8 d.d0, .int .u8 d.d1, .int .u8 d.d2, .int .u8 d.d3, .int .u8 d.d4, .int .u8 d.d5, .int .i64 d.rk, .int .u8 d.rp, .int .u32 d.rsa, .int .i64 d.rsb, .int .u32 d.rda, .int .i64 d.rdb, .int .u32 d.re, .int .u16 d.rf, .int .u16 d.rt, .int .u32 d.ria, .int .u16 d.rip] 66)
        obtain ⟨F, hp, hF⟩ := PairO.begin HW.out bn
        have hBW := bstep HW.out.bw bn
        clear bb HW bn
        obtain ⟨g8, hg8⟩ : ∃ g8, g8 = wr.heap.size := ⟨_, rfl⟩
        rw [← hg8] at nn ⊢
        generalize (wr.alloc (.cells #[.int .u8 d.k, .int .i64 d.a, .int .u8 d.d0, .int .u8 d.d1, .int .u8 d.d2, .int .u8 d.d3, .int .u8 d.d4, .int .u8 d.d5, .int .i64 d.rk, .int .u8 d.rp, .int .u32 d.rsa, .int .i64 d.rsb, .int .u32 d.rda, .int .i64 d.rdb, .int .u32 d.re, .int .u16 d.rf, .int .u16 d.rt, .int .u32 d.ria, .int .u16 d.rip] 66)) = wy at *
        have hG : ∀ W', Only F wy W' → Cells W' g8 #[.int .u8 d.k, .int .i64 d.a, .int .u8 d.d0, .int .u8 d.d1, .int .u8 d.d2, .int .u8 d.d3, .int .u8 d.d4, .int .u8 d.d5, .int .i64 d.rk, .int .u8 d.rp, .int .u32 d.rsa, .int .i64 d.rsb, .int .u32 d.rda, .int .i64 d.rdb, .int .u32 d.re, .int .u16 d.rf, .int .u16 d.rt, .int .u32 d.ria, .int .u16 d.rip] 66 := fun W' h => Cells.only nn h (fun e => by have := (hF _ e).2; omega)
        have q0 : ∀ W', Only F wy W' → World.cell? W' ⟨g8, 0, none⟩ = some (.int .u8 d.k) := fun W' h => (hG W' h).at_ 0
        have q1 : ∀ W', Only F wy W' → World.cell? W' ⟨g8, 1, none⟩ = some (.int .i64 d.a) := fun W' h => (hG W' h).at_ 1
        have q2 : ∀ W', Only F wy W' → World.cell? W' ⟨g8, 2, none⟩ = some (.int .u8 d.d0) := fun W' h => (hG W' h).at_ 2
        have q3 : ∀ W', Only F wy W' → World.cell? W' ⟨g8, 3, none⟩ = some (.int .u8 d.d1) := fun W' h => (hG W' h).at_ 3
        have q4 : ∀ W', Only F wy W' → World.cell? W' ⟨g8, 4, none⟩ = some (.int .u8 d.d2) := fun W' h => (hG W' h).at_ 4
        have q5 : ∀ W', Only F wy W' → World.cell? W' ⟨g8, 5, none⟩ = some (.int .u8 d.d3) := fun W' h => (hG W' h).at_ 5
        have q6 : ∀ W', Only F wy W' → World.cell? W' ⟨g8, 6, none⟩ = some (.int .u8 d.d4) := fun W' h => (hG W' h).at_ 6
        have q7 : ∀ W', Only F wy W' → World.cell? W' ⟨g8, 7, none⟩ = some (.int .u8 d.d5) := fun W' h => (hG W' h).at_ 7
        have q8 : ∀ W', Only F wy W' → World.cell? W' ⟨g8, 8, none⟩ = some (.int .i64 d.rk) := fun W' h => (hG W' h).at_ 8
        have q9 : ∀ W', Only F wy W' → World.cell? W' ⟨g8, 9, none⟩ = some (.int .u8 d.rp) := fun W' h => (hG W' h).at_ 9
        have q10 : ∀ W', Only F wy W' → World.cell? W' ⟨g8, 10, none⟩ = some (.int .u32 d.rsa) := fun W' h => (hG W' h).at_ 10
        have q11 : ∀ W', Only F wy W' → World.cell? W' ⟨g8, 11, none⟩ = some (.int .i64 d.rsb) := fun W' h => (hG W' h).at_ 11
        have q12 : ∀ W', Only F wy W' → World.cell? W' ⟨g8, 12, none⟩ = some (.int .u32 d.rda) := fun W' h => (hG W' h).at_ 12
        have q13 : ∀ W', Only F wy W' → World.cell? W' ⟨g8, 13, none⟩ = some (.int .i64 d.rdb) := fun W' h => (hG W' h).at_ 13
        have q14 : ∀ W', Only F wy W' → World.cell? W' ⟨g8, 14, none⟩ = some (.int .u32 d.re) := fun W' h => (hG W' h).at_ 14
        have q15 : ∀ W', Only F wy W' → World.cell? W' ⟨g8, 15, none⟩ = some (.int .u16 d.rf) := fun W' h => (hG W' h).at_ 15
        have q16 : ∀ W', Only F wy W' → World.cell? W' ⟨g8, 16, none⟩ = some (.int .u16 d.rt) := fun W' h => (hG W' h).at_ 16
        have q17 : ∀ W', Only F wy W' → World.cell? W' ⟨g8, 17, none⟩ = some (.int .u32 d.ria) := fun W' h => (hG W' h).at_ 17
        have q18 : ∀ W', Only F wy W' → World.cell? W' ⟨g8, 18, none⟩ = some (.int .u16 d.rip) := fun W' h => (hG W' h).at_ 18
        have HP := hide hp; have HF := hide (fun g e => (hF g e).1); have BWY := hide hBW
        clear nn hG hp hF hBW hg8
        have ob : Only F wy wy := Only.refl _ _
        obtain ⟨m5, hm5⟩ : ∃ m5, m5 = d.k % 5 := ⟨_, rfl⟩
        have hkt : d.k.tmod 5 = m5 := by rw [Int.tmod_eq_emod_of_nonneg HK.out.1, hm5]
        have hm0 : 0 ≤ m5 ∧ m5 < 5 := by omega
        obtain ⟨hm0l, hm0u⟩ := hm0
        have hmw : IntKind.u8.wrap m5 = m5 := IntWalk.u8_in _ (by omega)
        clear hm5
        go_upto_region 14 with fail
        rcases (show m5 = 2 ∨ m5 = 3 ∨ m5 = 4 ∨ (m5 ≠ 2 ∧ m5 ≠ 3 ∧ m5 ≠ 4) by omega) with e5 | e5 | e5 | ⟨e2, e3, e4⟩
        · have k2 : (m5 == 2) = true := by simp [e5]
          clear e5
          have c3 := fun W (h : PairO F wy B B' 151587081 167772160 8 l l W) => q_Check d.rule (by decide) ROK.out W h
          have c7 := fun W (h : PairO F wy B B' 151587081 167772160 8 l l W) => q_DCheck d.rule (by decide) ROK.out W h
          have c15 := fun W (h : PairO F wy B B' 151587081 167772160 8 l l W) => q_Add d.a d.rule (by decide) ROK.out (by have := GL.out.len; omega) W h
          obtain ⟨L, hL⟩ : ∃ L, L = addL 151587081 167772160 8 l d.a d.rule := ⟨_, rfl⟩
          have c21 := fun W (h : PairO F wy B B' 151587081 167772160 8 L l W) => q_DAdd d.a d.rule (by decide) ROK.out GL.out.may (by have := GL.out.len; omega) W h
          rw [← hL] at c15 c21
          have gl2 : Good L := by rw [hL]; exact GL.out.add ROK.out
          generalize chkR 167772160 8 d.rule = x1 at *
          generalize addC 151587081 167772160 8 l d.a d.rule = x2 at *
          unfold Rule.cells Deed.rule at c3 c7 c15 c21
          have C3 := hide c3; have C7 := hide c7; have C15 := hide c15; have C21 := hide c21; have GL2 := hide gl2
          clear c3 c7 c15 c21 gl2 hL
          have hx1 : (x1 == x1) = true := by simp
          have hx2 : (x2 == x2) = true := by simp
          go_upto_region 15 with fail
          have hp0 := HP.out.below (Below.drew (Below.refl _ _))
          have ow0 := hp0.bw
          focus
            refine wp_region_J [] (fun W => Only F wy W) (by kernel_rfl) (ow0) (fun hS0 => ?_)
            obtain ⟨hG, hsel⟩ := okOps (md := .any) (ops := #[{ dst := some 74 , op := Go.Op.move ( Go.Operand.tmp 3 ) , type := 31 , pos := "law.go:101" , after := #[ ] , guard := none }, { dst := some 75 , op := Go.Op.fieldAddr 66 ( Go.Operand.tmp 8 ) 3 , type := 0 , pos := "law.go:101" , after := #[ ] , guard := none }, { dst := some 76 , op := Go.Op.load 30 ( Go.Operand.tmp 75 ) , type := 30 , pos := "law.go:101" , after := #[ { on := 1 , ground := Go.Ground.data } ] , guard := none }, { dst := some 77 , op := Go.Op.call { callee := Go.Callee.value ( Go.Operand.func 12 ) , args := #[ Go.Operand.tmp 74 , Go.Operand.tmp 76 ] , argTypes := #[ 31 , 30 ] } , type := 32 , pos := "law.go:101" , after := #[ { on := 0 , ground := Go.Ground.data } , { on := 2 , ground := Go.Ground.data } ] , guard := none }, { dst := some 78 , op := Go.Op.move ( Go.Operand.tmp 5 ) , type := 35 , pos := "law.go:101" , after := #[ ] , guard := none }, { dst := some 79 , op := Go.Op.fieldAddr 66 ( Go.Operand.tmp 8 ) 3 , type := 0 , pos := "law.go:101" , after := #[ ] , guard := none }, { dst := some 80 , op := Go.Op.load 30 ( Go.Operand.tmp 79 ) , type := 30 , pos := "law.go:101" , after := #[ { on := 5 , ground := Go.Ground.data } ] , guard := none }, { dst := some 81 , op := Go.Op.call { callee := Go.Callee.value ( Go.Operand.func 13 ) , args := #[ Go.Operand.tmp 78 , Go.Operand.tmp 80 ] , argTypes := #[ 35 , 30 ] } , type := 32 , pos := "law.go:101" , after := #[ { on := 4 , ground := Go.Ground.data } , { on := 6 , ground := Go.Ground.data } , { on := 3 , ground := Go.Ground.chain } ] , guard := none }, { dst := some 82 , op := Go.Op.binOp Go.BinOp.eql 32 ( Go.Operand.tmp 77 ) ( Go.Operand.tmp 81 ) 32 , type := 4 , pos := "law.go:101" , after := #[ { on := 3 , ground := Go.Ground.data } , { on := 7 , ground := Go.Ground.data } ] , guard := none }, { dst := some 83 , op := Go.Op.move ( Go.Operand.tmp 82 ) , type := 4 , pos := "law.go:101" , after := #[ { on := 8 , ground := Go.Ground.data } , { on := 7 , ground := Go.Ground.chain } ] , guard := none }, { dst := some 84 , op := Go.Op.move ( Go.Operand.tmp 3 ) , type := 31 , pos := "law.go:101" , after := #[ { on := 9 , ground := Go.Ground.guard } ] , guard := some ( 9 , true ) }, { dst := some 85 , op := Go.Op.fieldAddr 66 ( Go.Operand.tmp 8 ) 1 , type := 0 , pos := "law.go:101" , after := #[ { on := 9 , ground := Go.Ground.guard } ] , guard := some ( 9 , true ) }, { dst := some 86 , op := Go.Op.load 3 ( Go.Operand.tmp 85 ) , type := 3 , pos := "law.go:101" , after := #[ { on := 11 , ground := Go.Ground.data } , { on := 9 , ground := Go.Ground.guard } ] , guard := some ( 9 , true ) }, { dst := some 87 , op := Go.Op.fieldAddr 66 ( Go.Operand.tmp 8 ) 3 , type := 0 , pos := "law.go:101" , after := #[ { on := 9 , ground := Go.Ground.guard } ] , guard := some ( 9 , true ) }, { dst := some 88 , op := Go.Op.load 30 ( Go.Operand.tmp 87 ) , type := 30 , pos := "law.go:101" , after := #[ { on := 13 , ground := Go.Ground.data } , { on := 9 , ground := Go.Ground.guard } ] , guard := some ( 9 , true ) }, { dst := some 89 , op := Go.Op.call { callee := Go.Callee.value ( Go.Operand.func 14 ) , args := #[ Go.Operand.tmp 84 , Go.Operand.tmp 86 , Go.Operand.tmp 88 ] , argTypes := #[ 31 , 3 , 30 ] } , type := 32 , pos := "law.go:101" , after := #[ { on := 10 , ground := Go.Ground.data } , { on := 12 , ground := Go.Ground.data } , { on := 14 , ground := Go.Ground.data } , { on := 9 , ground := Go.Ground.chain } , { on := 9 , ground := Go.Ground.guard } ] , guard := some ( 9 , true ) }, { dst := some 90 , op := Go.Op.move ( Go.Operand.tmp 5 ) , type := 35 , pos := "law.go:101" , after := #[ { on := 9 , ground := Go.Ground.guard } ] , guard := some ( 9 , true ) }, { dst := some 91 , op := Go.Op.fieldAddr 66 ( Go.Operand.tmp 8 ) 1 , type := 0 , pos := "law.go:101" , after := #[ { on := 9 , ground := Go.Ground.guard } ] , guard := some ( 9 , true ) }, { dst := some 92 , op := Go.Op.load 3 ( Go.Operand.tmp 91 ) , type := 3 , pos := "law.go:101" , after := #[ { on := 17 , ground := Go.Ground.data } , { on := 9 , ground := Go.Ground.guard } ] , guard := some ( 9 , true ) }, { dst := some 93 , op := Go.Op.fieldAddr 66 ( Go.Operand.tmp 8 ) 3 , type := 0 , pos := "law.go:101" , after := #[ { on := 9 , ground := Go.Ground.guard } ] , guard := some ( 9 , true ) }, { dst := some 94 , op := Go.Op.load 30 ( Go.Operand.tmp 93 ) , type := 30 , pos := "law.go:101" , after := #[ { on := 19 , ground := Go.Ground.data } , { on := 9 , ground := Go.Ground.guard } ] , guard := some ( 9 , true ) }, { dst := some 95 , op := Go.Op.call { callee := Go.Callee.value ( Go.Operand.func 15 ) , args := #[ Go.Operand.tmp 90 , Go.Operand.tmp 92 , Go.Operand.tmp 94 ] , argTypes := #[ 35 , 3 , 30 ] } , type := 32 , pos := "law.go:101" , after := #[ { on := 16 , ground := Go.Ground.data } , { on := 18 , ground := Go.Ground.data } , { on := 20 , ground := Go.Ground.data } , { on := 15 , ground := Go.Ground.chain } , { on := 9 , ground := Go.Ground.guard } ] , guard := some ( 9 , true ) }, { dst := some 96 , op := Go.Op.binOp Go.BinOp.eql 32 ( Go.Operand.tmp 89 ) ( Go.Operand.tmp 95 ) 32 , type := 4 , pos := "law.go:101" , after := #[ { on := 15 , ground := Go.Ground.data } , { on := 21 , ground := Go.Ground.data } , { on := 9 , ground := Go.Ground.guard } ] , guard := some ( 9 , true ) }, { dst := some 97 , op := Go.Op.pick ( Go.Operand.tmp 83 ) ( Go.Operand.tmp 96 ) ( Go.Operand.const ( Go.Value.bool false ) ) , type := 4 , pos := "law.go:101" , after := #[ { on := 9 , ground := Go.Ground.data } , { on := 22 , ground := Go.Ground.data } ] , guard := none }, { dst := some 9 , op := Go.Op.assign ( Go.Operand.tmp 97 ) , type := 4 , pos := "law.go:101" , after := #[ { on := 23 , ground := Go.Ground.data } , { on := 21 , ground := Go.Ground.chain } , { on := 0 , ground := Go.Ground.phase } , { on := 1 , ground := Go.Ground.phase } , { on := 2 , ground := Go.Ground.phase } , { on := 3 , ground := Go.Ground.phase } , { on := 4 , ground := Go.Ground.phase } , { on := 5 , ground := Go.Ground.phase } , { on := 6 , ground := Go.Ground.phase } , { on := 7 , ground := Go.Ground.phase } , { on := 8 , ground := Go.Ground.phase } , { on := 9 , ground := Go.Ground.phase } , { on := 10 , ground := Go.Ground.phase } , { on := 11 , ground := Go.Ground.phase } , { on := 12 , ground := Go.Ground.phase } , { on := 13 , ground := Go.Ground.phase } , { on := 14 , ground := Go.Ground.phase } , { on := 15 , ground := Go.Ground.phase } , { on := 16 , ground := Go.Ground.phase } , { on := 17 , ground := Go.Ground.phase } , { on := 18 , ground := Go.Ground.phase } , { on := 19 , ground := Go.Ground.phase } , { on := 20 , ground := Go.Ground.phase } , { on := 21 , ground := Go.Ground.phase } , { on := 22 , ground := Go.Ground.phase } , { on := 23 , ground := Go.Ground.phase } ] , guard := none }]) (by kernel_rfl)
            refine wpAnyJ_takeG (i := 0) (oi := { dst := some 74 , op := Go.Op.move ( Go.Operand.tmp 3 ) , type := 31 , pos := "law.go:101" , after := #[ ] , guard := none }) (v := ?v0_1) hG hsel (by kernel_rfl) (by kernel_rfl) (by kernel_rfl) (by kernel_rfl) (fun _ _ _ h => h) (Or.inl (And.intro (by kernel_rfl) ?q0_1)) hS0 ?r0_1
            case q0_1 => intro w hx; refine run_env [3] [?a0_1_3] (by kernel_rfl) (by kernel_rfl) (⟨?e0_1_3, trivial⟩) ?h0_1; (case e0_1_3 => ((conv => lhs; whnf); (try exact rfl))); (case h0_1 => ((try dsimp only); (try simp only [envL, lookV, if_true, if_false]); (try go_simp); (try with_reducible rfl)))
            (try simp only [Act.put, List.setIfInBounds_toArray, List.set_cons_zero, List.set_cons_succ, List.getElem_toArray, List.getElem_cons_succ, List.getElem_cons_zero])
            refine wpAnyJ_takeG (i := 1) (oi := { dst := some 75 , op := Go.Op.fieldAddr 66 ( Go.Operand.tmp 8 ) 3 , type := 0 , pos := "law.go:101" , after := #[ ] , guard := none }) (v := ?v1_2) hG hsel (by kernel_rfl) (by kernel_rfl) (by kernel_rfl) (by kernel_rfl) (fun _ _ _ h => h) (Or.inl (And.intro (by kernel_rfl) ?q1_2)) hS0 ?r1_2
            case q1_2 => intro w hx; refine run_env [8] [?a1_2_8] (by kernel_rfl) (by kernel_rfl) (⟨?e1_2_8, trivial⟩) ?h1_2; (case e1_2_8 => ((conv => lhs; whnf); (try exact rfl))); (case h1_2 => ((try dsimp only); (try simp only [envL, lookV, if_true, if_false]); (try go_simp); (try with_reducible rfl)))
            (try simp only [Act.put, List.setIfInBounds_toArray, List.set_cons_zero, List.set_cons_succ, List.getElem_toArray, List.getElem_cons_succ, List.getElem_cons_zero])
            refine wpAnyJ_takeG (i := 2) (oi := { dst := some 76 , op := Go.Op.load 30 ( Go.Operand.tmp 75 ) , type := 30 , pos := "law.go:101" , after := #[ { on := 1 , ground := Go.Ground.data } ] , guard := none }) (v := ?v2_3) hG hsel (by kernel_rfl) (by kernel_rfl) (by kernel_rfl) (by kernel_rfl) (fun _ _ _ h => h) (Or.inl (And.intro (by kernel_rfl) ?q2_3)) hS0 ?r2_3
            case q2_3 => intro w hx; refine run_env [75] [?a2_3_75] (by kernel_rfl) (by kernel_rfl) (⟨?e2_3_75, trivial⟩) ?h2_3; (case e2_3_75 => ((conv => lhs; whnf); (try exact rfl))); (case h2_3 => ((try dsimp only); (try simp only [envL, lookV, if_true, if_false]); (try go_simp); (try with_reducible rfl)))
            (try simp only [Act.put, List.setIfInBounds_toArray, List.set_cons_zero, List.set_cons_succ, List.getElem_toArray, List.getElem_cons_succ, List.getElem_cons_zero])
            refine wpAnyJ_takeG (i := 4) (oi := { dst := some 78 , op := Go.Op.move ( Go.Operand.tmp 5 ) , type := 35 , pos := "law.go:101" , after := #[ ] , guard := none }) (v := ?v4_4) hG hsel (by kernel_rfl) (by kernel_rfl) (by kernel_rfl) (by kernel_rfl) (fun _ _ _ h => h) (Or.inl (And.intro (by kernel_rfl) ?q4_4)) hS0 ?r4_4
            case q4_4 => intro w hx; refine run_env [5] [?a4_4_5] (by kernel_rfl) (by kernel_rfl) (⟨?e4_4_5, trivial⟩) ?h4_4; (case e4_4_5 => ((conv => lhs; whnf); (try exact rfl))); (case h4_4 => ((try dsimp only); (try simp only [envL, lookV, if_true, if_false]); (try go_simp); (try with_reducible rfl)))
            (try simp only [Act.put, List.setIfInBounds_toArray, List.set_cons_zero, List.set_cons_succ, List.getElem_toArray, List.getElem_cons_succ, List.getElem_cons_zero])
            refine wpAnyJ_takeG (i := 5) (oi := { dst := some 79 , op := Go.Op.fieldAddr 66 ( Go.Operand.tmp 8 ) 3 , type := 0 , pos := "law.go:101" , after := #[ ] , guard := none }) (v := ?v5_5) hG hsel (by kernel_rfl) (by kernel_rfl) (by kernel_rfl) (by kernel_rfl) (fun _ _ _ h => h) (Or.inl (And.intro (by kernel_rfl) ?q5_5)) hS0 ?r5_5
            case q5_5 => intro w hx; refine run_env [8] [?a5_5_8] (by kernel_rfl) (by kernel_rfl) (⟨?e5_5_8, trivial⟩) ?h5_5; (case e5_5_8 => ((conv => lhs; whnf); (try exact rfl))); (case h5_5 => ((try dsimp only); (try simp only [envL, lookV, if_true, if_false]); (try go_simp); (try with_reducible rfl)))
            (try simp only [Act.put, List.setIfInBounds_toArray, List.set_cons_zero, List.set_cons_succ, List.getElem_toArray, List.getElem_cons_succ, List.getElem_cons_zero])
            refine wpAnyJ_takeG (i := 6) (oi := { dst := some 80 , op := Go.Op.load 30 ( Go.Operand.tmp 79 ) , type := 30 , pos := "law.go:101" , after := #[ { on := 5 , ground := Go.Ground.data } ] , guard := none }) (v := ?v6_6) hG hsel (by kernel_rfl) (by kernel_rfl) (by kernel_rfl) (by kernel_rfl) (fun _ _ _ h => h) (Or.inl (And.intro (by kernel_rfl) ?q6_6)) hS0 ?r6_6
            case q6_6 => intro w hx; refine run_env [79] [?a6_6_79] (by kernel_rfl) (by kernel_rfl) (⟨?e6_6_79, trivial⟩) ?h6_6; (case e6_6_79 => ((conv => lhs; whnf); (try exact rfl))); (case h6_6 => ((try dsimp only); (try simp only [envL, lookV, if_true, if_false]); (try go_simp); (try with_reducible rfl)))
            (try simp only [Act.put, List.setIfInBounds_toArray, List.set_cons_zero, List.set_cons_succ, List.getElem_toArray, List.getElem_cons_succ, List.getElem_cons_zero])
            refine wpAnyJ_ready (rs := [3]) (by kernel_rfl) (by simp) ?_
            refine (AllReadyJ.cons rfl (fun K hK => ?_) AllReadyJ.nil)
            rw [if_pos (by kernel_rfl)]
            (try simp only [List.getElem_toArray, List.getElem_cons_succ, List.getElem_cons_zero])
            (focus go_simp)
            (focus ((with_reducible refine (C3.out _ hp0).mono ?_); rintro e wq3 ⟨rfl, hp3⟩))
            (focus (try go_wp2_with fail))
            refine hK.out _ _ ?hs (fun hS0 => ?_)
            case hs => (first | with_reducible exact hp21.bw | with_reducible exact hp15.bw | with_reducible exact hp7.bw | with_reducible exact hp3.bw | with_reducible exact hS0)
            clear hK K
            (try simp only [Act.put, List.setIfInBounds_toArray, List.set_cons_zero, List.set_cons_succ, List.getElem_toArray, List.getElem_cons_succ, List.getElem_cons_zero])
            refine wpAnyJ_ready (rs := [7]) (by kernel_rfl) (by simp) ?_
            refine (AllReadyJ.cons rfl (fun K hK => ?_) AllReadyJ.nil)
            rw [if_pos (by kernel_rfl)]
            (try simp only [List.getElem_toArray, List.getElem_cons_succ, List.getElem_cons_zero])
            (focus go_simp)
            (focus ((with_reducible refine (C7.out _ hp3).mono ?_); rintro e wq7 ⟨rfl, hp7⟩))
            (focus (try go_wp2_with fail))
            refine hK.out _ _ ?hs (fun hS0 => ?_)
            case hs => (first | with_reducible exact hp21.bw | with_reducible exact hp15.bw | with_reducible exact hp7.bw | with_reducible exact hp3.bw | with_reducible exact hS0)
            clear hK K
            (try simp only [Act.put, List.setIfInBounds_toArray, List.set_cons_zero, List.set_cons_succ, List.getElem_toArray, List.getElem_cons_succ, List.getElem_cons_zero])
            refine wpAnyJ_takeG (i := 8) (oi := { dst := some 82 , op := Go.Op.binOp Go.BinOp.eql 32 ( Go.Operand.tmp 77 ) ( Go.Operand.tmp 81 ) 32 , type := 4 , pos := "law.go:101" , after := #[ { on := 3 , ground := Go.Ground.data } , { on := 7 , ground := Go.Ground.data } ] , guard := none }) (v := ?v8_7) hG hsel (by kernel_rfl) (by kernel_rfl) (by kernel_rfl) (by kernel_rfl) (fun _ _ _ h => h) (Or.inl (And.intro (by kernel_rfl) ?q8_7)) hS0 ?r8_7
            case q8_7 => intro w hx; refine run_env [77, 81] [?a8_7_77, ?a8_7_81] (by kernel_rfl) (by kernel_rfl) (⟨?e8_7_77, ?e8_7_81, trivial⟩) ?h8_7; (case e8_7_77 => ((conv => lhs; whnf); (try exact rfl))); (case e8_7_81 => ((conv => lhs; whnf); (try exact rfl))); (case h8_7 => ((try dsimp only); (try simp only [envL, lookV, if_true, if_false]); (try go_simp); (try with_reducible rfl)))
            (try simp only [Act.put, List.setIfInBounds_toArray, List.set_cons_zero, List.set_cons_succ, List.getElem_toArray, List.getElem_cons_succ, List.getElem_cons_zero])
            refine wpAnyJ_takeG (i := 9) (oi := { dst := some 83 , op := Go.Op.move ( Go.Operand.tmp 82 ) , type := 4 , pos := "law.go:101" , after := #[ { on := 8 , ground := Go.Ground.data } , { on := 7 , ground := Go.Ground.chain } ] , guard := none }) (v := ?v9_8) hG hsel (by kernel_rfl) (by kernel_rfl) (by kernel_rfl) (by kernel_rfl) (fun _ _ _ h => h) (Or.inl (And.intro (by kernel_rfl) ?q9_8)) hS0 ?r9_8
            case q9_8 => intro w hx; refine run_env [82] [?a9_8_82] (by kernel_rfl) (by kernel_rfl) (⟨?e9_8_82, trivial⟩) ?h9_8; (case e9_8_82 => ((conv => lhs; whnf); (try exact rfl))); (case h9_8 => ((try dsimp only); (try simp only [envL, lookV, if_true, if_false]); (try go_simp); (try with_reducible rfl)))
            (try simp only [Act.put, List.setIfInBounds_toArray, List.set_cons_zero, List.set_cons_succ, List.getElem_toArray, List.getElem_cons_succ, List.getElem_cons_zero])
            refine wpAnyJ_takeG (i := 10) (oi := { dst := some 84 , op := Go.Op.move ( Go.Operand.tmp 3 ) , type := 31 , pos := "law.go:101" , after := #[ { on := 9 , ground := Go.Ground.guard } ] , guard := some ( 9 , true ) }) (v := ?v10_9) hG hsel (by kernel_rfl) (by kernel_rfl) (by kernel_rfl) (by kernel_rfl) (fun _ _ _ h => h) (Or.inl (And.intro (by kernel_rfl) ?q10_9)) hS0 ?r10_9
            case q10_9 => intro w hx; refine run_env [3] [?a10_9_3] (by kernel_rfl) (by kernel_rfl) (⟨?e10_9_3, trivial⟩) ?h10_9; (case e10_9_3 => ((conv => lhs; whnf); (try exact rfl))); (case h10_9 => ((try dsimp only); (try simp only [envL, lookV, if_true, if_false]); (try go_simp); (try with_reducible rfl)))
            (try simp only [Act.put, List.setIfInBounds_toArray, List.set_cons_zero, List.set_cons_succ, List.getElem_toArray, List.getElem_cons_succ, List.getElem_cons_zero])
            refine wpAnyJ_takeG (i := 11) (oi := { dst := some 85 , op := Go.Op.fieldAddr 66 ( Go.Operand.tmp 8 ) 1 , type := 0 , pos := "law.go:101" , after := #[ { on := 9 , ground := Go.Ground.guard } ] , guard := some ( 9 , true ) }) (v := ?v11_10) hG hsel (by kernel_rfl) (by kernel_rfl) (by kernel_rfl) (by kernel_rfl) (fun _ _ _ h => h) (Or.inl (And.intro (by kernel_rfl) ?q11_10)) hS0 ?r11_10
            case q11_10 => intro w hx; refine run_env [8] [?a11_10_8] (by kernel_rfl) (by kernel_rfl) (⟨?e11_10_8, trivial⟩) ?h11_10; (case e11_10_8 => ((conv => lhs; whnf); (try exact rfl))); (case h11_10 => ((try dsimp only); (try simp only [envL, lookV, if_true, if_false]); (try go_simp); (try with_reducible rfl)))
            (try simp only [Act.put, List.setIfInBounds_toArray, List.set_cons_zero, List.set_cons_succ, List.getElem_toArray, List.getElem_cons_succ, List.getElem_cons_zero])
            refine wpAnyJ_takeG (i := 12) (oi := { dst := some 86 , op := Go.Op.load 3 ( Go.Operand.tmp 85 ) , type := 3 , pos := "law.go:101" , after := #[ { on := 11 , ground := Go.Ground.data } , { on := 9 , ground := Go.Ground.guard } ] , guard := some ( 9 , true ) }) (v := ?v12_11) hG hsel (by kernel_rfl) (by kernel_rfl) (by kernel_rfl) (by kernel_rfl) (fun _ _ _ h => h) (Or.inl (And.intro (by kernel_rfl) ?q12_11)) hS0 ?r12_11
            case q12_11 => intro w hx; refine run_env [85] [?a12_11_85] (by kernel_rfl) (by kernel_rfl) (⟨?e12_11_85, trivial⟩) ?h12_11; (case e12_11_85 => ((conv => lhs; whnf); (try exact rfl))); (case h12_11 => ((try dsimp only); (try simp only [envL, lookV, if_true, if_false]); (try go_simp); (try with_reducible rfl)))
            (try simp only [Act.put, List.setIfInBounds_toArray, List.set_cons_zero, List.set_cons_succ, List.getElem_toArray, List.getElem_cons_succ, List.getElem_cons_zero])
            refine wpAnyJ_takeG (i := 13) (oi := { dst := some 87 , op := Go.Op.fieldAddr 66 ( Go.Operand.tmp 8 ) 3 , type := 0 , pos := "law.go:101" , after := #[ { on := 9 , ground := Go.Ground.guard } ] , guard := some ( 9 , true ) }) (v := ?v13_12) hG hsel (by kernel_rfl) (by kernel_rfl) (by kernel_rfl) (by kernel_rfl) (fun _ _ _ h => h) (Or.inl (And.intro (by kernel_rfl) ?q13_12)) hS0 ?r13_12
            case q13_12 => intro w hx; refine run_env [8] [?a13_12_8] (by kernel_rfl) (by kernel_rfl) (⟨?e13_12_8, trivial⟩) ?h13_12; (case e13_12_8 => ((conv => lhs; whnf); (try exact rfl))); (case h13_12 => ((try dsimp only); (try simp only [envL, lookV, if_true, if_false]); (try go_simp); (try with_reducible rfl)))
            (try simp only [Act.put, List.setIfInBounds_toArray, List.set_cons_zero, List.set_cons_succ, List.getElem_toArray, List.getElem_cons_succ, List.getElem_cons_zero])
            refine wpAnyJ_takeG (i := 14) (oi := { dst := some 88 , op := Go.Op.load 30 ( Go.Operand.tmp 87 ) , type := 30 , pos := "law.go:101" , after := #[ { on := 13 , ground := Go.Ground.data } , { on := 9 , ground := Go.Ground.guard } ] , guard := some ( 9 , true ) }) (v := ?v14_13) hG hsel (by kernel_rfl) (by kernel_rfl) (by kernel_rfl) (by kernel_rfl) (fun _ _ _ h => h) (Or.inl (And.intro (by kernel_rfl) ?q14_13)) hS0 ?r14_13
            case q14_13 => intro w hx; refine run_env [87] [?a14_13_87] (by kernel_rfl) (by kernel_rfl) (⟨?e14_13_87, trivial⟩) ?h14_13; (case e14_13_87 => ((conv => lhs; whnf); (try exact rfl))); (case h14_13 => ((try dsimp only); (try simp only [envL, lookV, if_true, if_false]); (try go_simp); (try with_reducible rfl)))
            (try simp only [Act.put, List.setIfInBounds_toArray, List.set_cons_zero, List.set_cons_succ, List.getElem_toArray, List.getElem_cons_succ, List.getElem_cons_zero])
            refine wpAnyJ_takeG (i := 16) (oi := { dst := some 90 , op := Go.Op.move ( Go.Operand.tmp 5 ) , type := 35 , pos := "law.go:101" , after := #[ { on := 9 , ground := Go.Ground.guard } ] , guard := some ( 9 , true ) }) (v := ?v16_14) hG hsel (by kernel_rfl) (by kernel_rfl) (by kernel_rfl) (by kernel_rfl) (fun _ _ _ h => h) (Or.inl (And.intro (by kernel_rfl) ?q16_14)) hS0 ?r16_14
            case q16_14 => intro w hx; refine run_env [5] [?a16_14_5] (by kernel_rfl) (by kernel_rfl) (⟨?e16_14_5, trivial⟩) ?h16_14; (case e16_14_5 => ((conv => lhs; whnf); (try exact rfl))); (case h16_14 => ((try dsimp only); (try simp only [envL, lookV, if_true, if_false]); (try go_simp); (try with_reducible rfl)))
            (try simp only [Act.put, List.setIfInBounds_toArray, List.set_cons_zero, List.set_cons_succ, List.getElem_toArray, List.getElem_cons_succ, List.getElem_cons_zero])
            refine wpAnyJ_takeG (i := 17) (oi := { dst := some 91 , op := Go.Op.fieldAddr 66 ( Go.Operand.tmp 8 ) 1 , type := 0 , pos := "law.go:101" , after := #[ { on := 9 , ground := Go.Ground.guard } ] , guard := some ( 9 , true ) }) (v := ?v17_15) hG hsel (by kernel_rfl) (by kernel_rfl) (by kernel_rfl) (by kernel_rfl) (fun _ _ _ h => h) (Or.inl (And.intro (by kernel_rfl) ?q17_15)) hS0 ?r17_15
            case q17_15 => intro w hx; refine run_env [8] [?a17_15_8] (by kernel_rfl) (by kernel_rfl) (⟨?e17_15_8, trivial⟩) ?h17_15; (case e17_15_8 => ((conv => lhs; whnf); (try exact rfl))); (case h17_15 => ((try dsimp only); (try simp only [envL, lookV, if_true, if_false]); (try go_simp); (try with_reducible rfl)))
            (try simp only [Act.put, List.setIfInBounds_toArray, List.set_cons_zero, List.set_cons_succ, List.getElem_toArray, List.getElem_cons_succ, List.getElem_cons_zero])
            refine wpAnyJ_takeG (i := 18) (oi := { dst := some 92 , op := Go.Op.load 3 ( Go.Operand.tmp 91 ) , type := 3 , pos := "law.go:101" , after := #[ { on := 17 , ground := Go.Ground.data } , { on := 9 , ground := Go.Ground.guard } ] , guard := some ( 9 , true ) }) (v := ?v18_16) hG hsel (by kernel_rfl) (by kernel_rfl) (by kernel_rfl) (by kernel_rfl) (fun _ _ _ h => h) (Or.inl (And.intro (by kernel_rfl) ?q18_16)) hS0 ?r18_16
            case q18_16 => intro w hx; refine run_env [91] [?a18_16_91] (by kernel_rfl) (by kernel_rfl) (⟨?e18_16_91, trivial⟩) ?h18_16; (case e18_16_91 => ((conv => lhs; whnf); (try exact rfl))); (case h18_16 => ((try dsimp only); (try simp only [envL, lookV, if_true, if_false]); (try go_simp); (try with_reducible rfl)))
            (try simp only [Act.put, List.setIfInBounds_toArray, List.set_cons_zero, List.set_cons_succ, List.getElem_toArray, List.getElem_cons_succ, List.getElem_cons_zero])
            refine wpAnyJ_takeG (i := 19) (oi := { dst := some 93 , op := Go.Op.fieldAddr 66 ( Go.Operand.tmp 8 ) 3 , type := 0 , pos := "law.go:101" , after := #[ { on := 9 , ground := Go.Ground.guard } ] , guard := some ( 9 , true ) }) (v := ?v19_17) hG hsel (by kernel_rfl) (by kernel_rfl) (by kernel_rfl) (by kernel_rfl) (fun _ _ _ h => h) (Or.inl (And.intro (by kernel_rfl) ?q19_17)) hS0 ?r19_17
            case q19_17 => intro w hx; refine run_env [8] [?a19_17_8] (by kernel_rfl) (by kernel_rfl) (⟨?e19_17_8, trivial⟩) ?h19_17; (case e19_17_8 => ((conv => lhs; whnf); (try exact rfl))); (case h19_17 => ((try dsimp only); (try simp only [envL, lookV, if_true, if_false]); (try go_simp); (try with_reducible rfl)))
            (try simp only [Act.put, List.setIfInBounds_toArray, List.set_cons_zero, List.set_cons_succ, List.getElem_toArray, List.getElem_cons_succ, List.getElem_cons_zero])
            refine wpAnyJ_takeG (i := 20) (oi := { dst := some 94 , op := Go.Op.load 30 ( Go.Operand.tmp 93 ) , type := 30 , pos := "law.go:101" , after := #[ { on := 19 , ground := Go.Ground.data } , { on := 9 , ground := Go.Ground.guard } ] , guard := some ( 9 , true ) }) (v := ?v20_18) hG hsel (by kernel_rfl) (by kernel_rfl) (by kernel_rfl) (by kernel_rfl) (fun _ _ _ h => h) (Or.inl (And.intro (by kernel_rfl) ?q20_18)) hS0 ?r20_18
            case q20_18 => intro w hx; refine run_env [93] [?a20_18_93] (by kernel_rfl) (by kernel_rfl) (⟨?e20_18_93, trivial⟩) ?h20_18; (case e20_18_93 => ((conv => lhs; whnf); (try exact rfl))); (case h20_18 => ((try dsimp only); (try simp only [envL, lookV, if_true, if_false]); (try go_simp); (try with_reducible rfl)))
            (try simp only [Act.put, List.setIfInBounds_toArray, List.set_cons_zero, List.set_cons_succ, List.getElem_toArray, List.getElem_cons_succ, List.getElem_cons_zero])
            refine wpAnyJ_ready (rs := [15]) (by kernel_rfl) (by simp) ?_
            refine (AllReadyJ.cons rfl (fun K hK => ?_) AllReadyJ.nil)
            rw [if_pos (by kernel_rfl)]
            (try simp only [List.getElem_toArray, List.getElem_cons_succ, List.getElem_cons_zero])
            (focus go_simp)
            (focus ((with_reducible refine (C15.out _ hp7).mono ?_); rintro e wq15 ⟨rfl, hp15⟩))
            (focus (try go_wp2_with fail))
            refine hK.out _ _ ?hs (fun hS0 => ?_)
            case hs => (first | with_reducible exact hp21.bw | with_reducible exact hp15.bw | with_reducible exact hp7.bw | with_reducible exact hp3.bw | with_reducible exact hS0)
            clear hK K
            (try simp only [Act.put, List.setIfInBounds_toArray, List.set_cons_zero, List.set_cons_succ, List.getElem_toArray, List.getElem_cons_succ, List.getElem_cons_zero])
            refine wpAnyJ_ready (rs := [21]) (by kernel_rfl) (by simp) ?_
            refine (AllReadyJ.cons rfl (fun K hK => ?_) AllReadyJ.nil)
            rw [if_pos (by kernel_rfl)]
            (try simp only [List.getElem_toArray, List.getElem_cons_succ, List.getElem_cons_zero])
            (focus go_simp)
            (focus ((with_reducible refine (C21.out _ hp15).mono ?_); rintro e wq21 ⟨rfl, hp21⟩))
            (focus (try go_wp2_with fail))
            refine hK.out _ _ ?hs (fun hS0 => ?_)
            case hs => (first | with_reducible exact hp21.bw | with_reducible exact hp15.bw | with_reducible exact hp7.bw | with_reducible exact hp3.bw | with_reducible exact hS0)
            clear hK K
            (try simp only [Act.put, List.setIfInBounds_toArray, List.set_cons_zero, List.set_cons_succ, List.getElem_toArray, List.getElem_cons_succ, List.getElem_cons_zero])
            refine wpAnyJ_takeG (i := 22) (oi := { dst := some 96 , op := Go.Op.binOp Go.BinOp.eql 32 ( Go.Operand.tmp 89 ) ( Go.Operand.tmp 95 ) 32 , type := 4 , pos := "law.go:101" , after := #[ { on := 15 , ground := Go.Ground.data } , { on := 21 , ground := Go.Ground.data } , { on := 9 , ground := Go.Ground.guard } ] , guard := some ( 9 , true ) }) (v := ?v22_19) hG hsel (by kernel_rfl) (by kernel_rfl) (by kernel_rfl) (by kernel_rfl) (fun _ _ _ h => h) (Or.inl (And.intro (by kernel_rfl) ?q22_19)) hS0 ?r22_19
            case q22_19 => intro w hx; refine run_env [89, 95] [?a22_19_89, ?a22_19_95] (by kernel_rfl) (by kernel_rfl) (⟨?e22_19_89, ?e22_19_95, trivial⟩) ?h22_19; (case e22_19_89 => ((conv => lhs; whnf); (try exact rfl))); (case e22_19_95 => ((conv => lhs; whnf); (try exact rfl))); (case h22_19 => ((try dsimp only); (try simp only [envL, lookV, if_true, if_false]); (try go_simp); (try with_reducible rfl)))
            (try simp only [Act.put, List.setIfInBounds_toArray, List.set_cons_zero, List.set_cons_succ, List.getElem_toArray, List.getElem_cons_succ, List.getElem_cons_zero])
            refine wpAnyJ_takeG (i := 23) (oi := { dst := some 97 , op := Go.Op.pick ( Go.Operand.tmp 83 ) ( Go.Operand.tmp 96 ) ( Go.Operand.const ( Go.Value.bool false ) ) , type := 4 , pos := "law.go:101" , after := #[ { on := 9 , ground := Go.Ground.data } , { on := 22 , ground := Go.Ground.data } ] , guard := none }) (v := ?v23_20) hG hsel (by kernel_rfl) (by kernel_rfl) (by kernel_rfl) (by kernel_rfl) (fun _ _ _ h => h) (Or.inl (And.intro (by kernel_rfl) ?q23_20)) hS0 ?r23_20
            case q23_20 => intro w hx; refine run_env [83, 96] [?a23_20_83, ?a23_20_96] (by kernel_rfl) (by kernel_rfl) (⟨?e23_20_83, ?e23_20_96, trivial⟩) ?h23_20; (case e23_20_83 => ((conv => lhs; whnf); (try exact rfl))); (case e23_20_96 => ((conv => lhs; whnf); (try exact rfl))); (case h23_20 => ((try dsimp only); (try simp only [envL, lookV, if_true, if_false]); (try go_simp); (try with_reducible rfl)))
            (try simp only [Act.put, List.setIfInBounds_toArray, List.set_cons_zero, List.set_cons_succ, List.getElem_toArray, List.getElem_cons_succ, List.getElem_cons_zero])
            refine wpAnyJ_takeG (i := 24) (oi := { dst := some 9 , op := Go.Op.assign ( Go.Operand.tmp 97 ) , type := 4 , pos := "law.go:101" , after := #[ { on := 23 , ground := Go.Ground.data } , { on := 21 , ground := Go.Ground.chain } , { on := 0 , ground := Go.Ground.phase } , { on := 1 , ground := Go.Ground.phase } , { on := 2 , ground := Go.Ground.phase } , { on := 3 , ground := Go.Ground.phase } , { on := 4 , ground := Go.Ground.phase } , { on := 5 , ground := Go.Ground.phase } , { on := 6 , ground := Go.Ground.phase } , { on := 7 , ground := Go.Ground.phase } , { on := 8 , ground := Go.Ground.phase } , { on := 9 , ground := Go.Ground.phase } , { on := 10 , ground := Go.Ground.phase } , { on := 11 , ground := Go.Ground.phase } , { on := 12 , ground := Go.Ground.phase } , { on := 13 , ground := Go.Ground.phase } , { on := 14 , ground := Go.Ground.phase } , { on := 15 , ground := Go.Ground.phase } , { on := 16 , ground := Go.Ground.phase } , { on := 17 , ground := Go.Ground.phase } , { on := 18 , ground := Go.Ground.phase } , { on := 19 , ground := Go.Ground.phase } , { on := 20 , ground := Go.Ground.phase } , { on := 21 , ground := Go.Ground.phase } , { on := 22 , ground := Go.Ground.phase } , { on := 23 , ground := Go.Ground.phase } ] , guard := none }) (v := ?v24_21) hG hsel (by kernel_rfl) (by kernel_rfl) (by kernel_rfl) (by kernel_rfl) (fun _ _ _ h => h) (Or.inl (And.intro (by kernel_rfl) ?q24_21)) hS0 ?r24_21
            case q24_21 => intro w hx; refine run_env [97] [?a24_21_97] (by kernel_rfl) (by kernel_rfl) (⟨?e24_21_97, trivial⟩) ?h24_21; (case e24_21_97 => ((conv => lhs; whnf); (try exact rfl))); (case h24_21 => ((try dsimp only); (try simp only [envL, lookV, if_true, if_false]); (try go_simp); (try with_reducible rfl)))
            (try simp only [Act.put, List.setIfInBounds_toArray, List.set_cons_zero, List.set_cons_succ, List.getElem_toArray, List.getElem_cons_succ, List.getElem_cons_zero])
            refine wpAnyJ_done (by kernel_rfl) ?_ _
          have HPE := hide hp21
          clear hp0 ow0 hp3 hp7 hp15 hp21
          have cal := fun W (h : PairO F wy B B' 151587081 167772160 8 L L W) => q_alike GL2.out d.draft DOK.out W h
          unfold Draft.cells Deed.draft at cal
          have CAL := hide cal
          clear cal
          go_wp2_with (go_at_call 33; (refine (CAL.out _ HPE.out).mono ?_); rintro e we ⟨rfl, hpz⟩; have HPZ := hide hpz; clear hpz)
          go_roundg (n - (kk + 1))
          case measure => omega
          case rel => exact ⟨kk + 1, B, L, by omega, by omega, rfl, by go_num, (show Aside _ from ⟨GL2.out, PairO.down HPZ.out HF.out BWY.out⟩)⟩
        · have k2 : (m5 == 2) = false := by simp [e5]
          have k3 : (m5 == 3) = true := by simp [e5]
          clear e5
          have c3 := fun W (h : PairO F wy B B' 151587081 167772160 8 l l W) => q_Delete d.a (by have := GL.out.len; omega) W h
          obtain ⟨L, hL⟩ : ∃ L, L = delL l d.a := ⟨_, rfl⟩
          have c7 := fun W (h : PairO F wy B B' 151587081 167772160 8 L l W) => q_DDelete d.a (by have := GL.out.len; omega) W h
          rw [← hL] at c3 c7
          have gl2 : Good L := by rw [hL]; exact GL.out.del _
          generalize delC l d.a = x1 at *
          have C3 := hide c3; have C7 := hide c7; have GL2 := hide gl2
          clear c3 c7 gl2 hL
          have hx1 : (x1 == x1) = true := by simp
          go_upto_region 17 with fail
          have hp0 := HP.out.below (Below.drew (Below.refl _ _))
          have ow0 := hp0.bw
          focus
            refine wp_region_J [] (fun W => Only F wy W) (by kernel_rfl) (ow0) (fun hS0 => ?_)
            obtain ⟨hG, hsel⟩ := okOps (md := .any) (ops := #[{ dst := some 100 , op := Go.Op.move ( Go.Operand.tmp 3 ) , type := 31 , pos := "law.go:103" , after := #[ ] , guard := none }, { dst := some 101 , op := Go.Op.fieldAddr 66 ( Go.Operand.tmp 8 ) 1 , type := 0 , pos := "law.go:103" , after := #[ ] , guard := none }, { dst := some 102 , op := Go.Op.load 3 ( Go.Operand.tmp 101 ) , type := 3 , pos := "law.go:103" , after := #[ { on := 1 , ground := Go.Ground.data } ] , guard := none }, { dst := some 103 , op := Go.Op.call { callee := Go.Callee.value ( Go.Operand.func 26 ) , args := #[ Go.Operand.tmp 100 , Go.Operand.tmp 102 ] , argTypes := #[ 31 , 3 ] } , type := 32 , pos := "law.go:103" , after := #[ { on := 0 , ground := Go.Ground.data } , { on := 2 , ground := Go.Ground.data } ] , guard := none }, { dst := some 104 , op := Go.Op.move ( Go.Operand.tmp 5 ) , type := 35 , pos := "law.go:103" , after := #[ ] , guard := none }, { dst := some 105 , op := Go.Op.fieldAddr 66 ( Go.Operand.tmp 8 ) 1 , type := 0 , pos := "law.go:103" , after := #[ ] , guard := none }, { dst := some 106 , op := Go.Op.load 3 ( Go.Operand.tmp 105 ) , type := 3 , pos := "law.go:103" , after := #[ { on := 5 , ground := Go.Ground.data } ] , guard := none }, { dst := some 107 , op := Go.Op.call { callee := Go.Callee.value ( Go.Operand.func 31 ) , args := #[ Go.Operand.tmp 104 , Go.Operand.tmp 106 ] , argTypes := #[ 35 , 3 ] } , type := 32 , pos := "law.go:103" , after := #[ { on := 4 , ground := Go.Ground.data } , { on := 6 , ground := Go.Ground.data } , { on := 3 , ground := Go.Ground.chain } ] , guard := none }, { dst := some 108 , op := Go.Op.binOp Go.BinOp.eql 32 ( Go.Operand.tmp 103 ) ( Go.Operand.tmp 107 ) 32 , type := 4 , pos := "law.go:103" , after := #[ { on := 3 , ground := Go.Ground.data } , { on := 7 , ground := Go.Ground.data } ] , guard := none }, { dst := some 9 , op := Go.Op.assign ( Go.Operand.tmp 108 ) , type := 4 , pos := "law.go:103" , after := #[ { on := 8 , ground := Go.Ground.data } , { on := 7 , ground := Go.Ground.chain } , { on := 0 , ground := Go.Ground.phase } , { on := 1 , ground := Go.Ground.phase } , { on := 2 , ground := Go.Ground.phase } , { on := 3 , ground := Go.Ground.phase } , { on := 4 , ground := Go.Ground.phase } , { on := 5 , ground := Go.Ground.phase } , { on := 6 , ground := Go.Ground.phase } , { on := 7 , ground := Go.Ground.phase } , { on := 8 , ground := Go.Ground.phase } ] , guard := none }]) (by kernel_rfl)
            refine wpAnyJ_takeG (i := 0) (oi := { dst := some 100 , op := Go.Op.move ( Go.Operand.tmp 3 ) , type := 31 , pos := "law.go:103" , after := #[ ] , guard := none }) (v := ?v0_22) hG hsel (by kernel_rfl) (by kernel_rfl) (by kernel_rfl) (by kernel_rfl) (fun _ _ _ h => h) (Or.inl (And.intro (by kernel_rfl) ?q0_22)) hS0 ?r0_22
            case q0_22 => intro w hx; refine run_env [3] [?a0_22_3] (by kernel_rfl) (by kernel_rfl) (⟨?e0_22_3, trivial⟩) ?h0_22; (case e0_22_3 => ((conv => lhs; whnf); (try exact rfl))); (case h0_22 => ((try dsimp only); (try simp only [envL, lookV, if_true, if_false]); (try go_simp); (try with_reducible rfl)))
            (try simp only [Act.put, List.setIfInBounds_toArray, List.set_cons_zero, List.set_cons_succ, List.getElem_toArray, List.getElem_cons_succ, List.getElem_cons_zero])
            refine wpAnyJ_takeG (i := 1) (oi := { dst := some 101 , op := Go.Op.fieldAddr 66 ( Go.Operand.tmp 8 ) 1 , type := 0 , pos := "law.go:103" , after := #[ ] , guard := none }) (v := ?v1_23) hG hsel (by kernel_rfl) (by kernel_rfl) (by kernel_rfl) (by kernel_rfl) (fun _ _ _ h => h) (Or.inl (And.intro (by kernel_rfl) ?q1_23)) hS0 ?r1_23
            case q1_23 => intro w hx; refine run_env [8] [?a1_23_8] (by kernel_rfl) (by kernel_rfl) (⟨?e1_23_8, trivial⟩) ?h1_23; (case e1_23_8 => ((conv => lhs; whnf); (try exact rfl))); (case h1_23 => ((try dsimp only); (try simp only [envL, lookV, if_true, if_false]); (try go_simp); (try with_reducible rfl)))
            (try simp only [Act.put, List.setIfInBounds_toArray, List.set_cons_zero, List.set_cons_succ, List.getElem_toArray, List.getElem_cons_succ, List.getElem_cons_zero])
            refine wpAnyJ_takeG (i := 2) (oi := { dst := some 102 , op := Go.Op.load 3 ( Go.Operand.tmp 101 ) , type := 3 , pos := "law.go:103" , after := #[ { on := 1 , ground := Go.Ground.data } ] , guard := none }) (v := ?v2_24) hG hsel (by kernel_rfl) (by kernel_rfl) (by kernel_rfl) (by kernel_rfl) (fun _ _ _ h => h) (Or.inl (And.intro (by kernel_rfl) ?q2_24)) hS0 ?r2_24
            case q2_24 => intro w hx; refine run_env [101] [?a2_24_101] (by kernel_rfl) (by kernel_rfl) (⟨?e2_24_101, trivial⟩) ?h2_24; (case e2_24_101 => ((conv => lhs; whnf); (try exact rfl))); (case h2_24 => ((try dsimp only); (try simp only [envL, lookV, if_true, if_false]); (try go_simp); (try with_reducible rfl)))
            (try simp only [Act.put, List.setIfInBounds_toArray, List.set_cons_zero, List.set_cons_succ, List.getElem_toArray, List.getElem_cons_succ, List.getElem_cons_zero])
            refine wpAnyJ_takeG (i := 4) (oi := { dst := some 104 , op := Go.Op.move ( Go.Operand.tmp 5 ) , type := 35 , pos := "law.go:103" , after := #[ ] , guard := none }) (v := ?v4_25) hG hsel (by kernel_rfl) (by kernel_rfl) (by kernel_rfl) (by kernel_rfl) (fun _ _ _ h => h) (Or.inl (And.intro (by kernel_rfl) ?q4_25)) hS0 ?r4_25
            case q4_25 => intro w hx; refine run_env [5] [?a4_25_5] (by kernel_rfl) (by kernel_rfl) (⟨?e4_25_5, trivial⟩) ?h4_25; (case e4_25_5 => ((conv => lhs; whnf); (try exact rfl))); (case h4_25 => ((try dsimp only); (try simp only [envL, lookV, if_true, if_false]); (try go_simp); (try with_reducible rfl)))
            (try simp only [Act.put, List.setIfInBounds_toArray, List.set_cons_zero, List.set_cons_succ, List.getElem_toArray, List.getElem_cons_succ, List.getElem_cons_zero])
            refine wpAnyJ_takeG (i := 5) (oi := { dst := some 105 , op := Go.Op.fieldAddr 66 ( Go.Operand.tmp 8 ) 1 , type := 0 , pos := "law.go:103" , after := #[ ] , guard := none }) (v := ?v5_26) hG hsel (by kernel_rfl) (by kernel_rfl) (by kernel_rfl) (by kernel_rfl) (fun _ _ _ h => h) (Or.inl (And.intro (by kernel_rfl) ?q5_26)) hS0 ?r5_26
            case q5_26 => intro w hx; refine run_env [8] [?a5_26_8] (by kernel_rfl) (by kernel_rfl) (⟨?e5_26_8, trivial⟩) ?h5_26; (case e5_26_8 => ((conv => lhs; whnf); (try exact rfl))); (case h5_26 => ((try dsimp only); (try simp only [envL, lookV, if_true, if_false]); (try go_simp); (try with_reducible rfl)))
            (try simp only [Act.put, List.setIfInBounds_toArray, List.set_cons_zero, List.set_cons_succ, List.getElem_toArray, List.getElem_cons_succ, List.getElem_cons_zero])
            refine wpAnyJ_takeG (i := 6) (oi := { dst := some 106 , op := Go.Op.load 3 ( Go.Operand.tmp 105 ) , type := 3 , pos := "law.go:103" , after := #[ { on := 5 , ground := Go.Ground.data } ] , guard := none }) (v := ?v6_27) hG hsel (by kernel_rfl) (by kernel_rfl) (by kernel_rfl) (by kernel_rfl) (fun _ _ _ h => h) (Or.inl (And.intro (by kernel_rfl) ?q6_27)) hS0 ?r6_27
            case q6_27 => intro w hx; refine run_env [105] [?a6_27_105] (by kernel_rfl) (by kernel_rfl) (⟨?e6_27_105, trivial⟩) ?h6_27; (case e6_27_105 => ((conv => lhs; whnf); (try exact rfl))); (case h6_27 => ((try dsimp only); (try simp only [envL, lookV, if_true, if_false]); (try go_simp); (try with_reducible rfl)))
            (try simp only [Act.put, List.setIfInBounds_toArray, List.set_cons_zero, List.set_cons_succ, List.getElem_toArray, List.getElem_cons_succ, List.getElem_cons_zero])
            refine wpAnyJ_ready (rs := [3]) (by kernel_rfl) (by simp) ?_
            refine (AllReadyJ.cons rfl (fun K hK => ?_) AllReadyJ.nil)
            rw [if_pos (by kernel_rfl)]
            (try simp only [List.getElem_toArray, List.getElem_cons_succ, List.getElem_cons_zero])
            (focus go_simp)
            (focus ((with_reducible refine (C3.out _ hp0).mono ?_); rintro e wq3 ⟨rfl, hp3⟩))
            (focus (try go_wp2_with fail))
            refine hK.out _ _ ?hs (fun hS0 => ?_)
            case hs => (first | with_reducible exact hp7.bw | with_reducible exact hp3.bw | with_reducible exact hS0)
            clear hK K
            (try simp only [Act.put, List.setIfInBounds_toArray, List.set_cons_zero, List.set_cons_succ, List.getElem_toArray, List.getElem_cons_succ, List.getElem_cons_zero])
            refine wpAnyJ_ready (rs := [7]) (by kernel_rfl) (by simp) ?_
            refine (AllReadyJ.cons rfl (fun K hK => ?_) AllReadyJ.nil)
            rw [if_pos (by kernel_rfl)]
            (try simp only [List.getElem_toArray, List.getElem_cons_succ, List.getElem_cons_zero])
            (focus go_simp)
            (focus ((with_reducible refine (C7.out _ hp3).mono ?_); rintro e wq7 ⟨rfl, hp7⟩))
            (focus (try go_wp2_with fail))
            refine hK.out _ _ ?hs (fun hS0 => ?_)
            case hs => (first | with_reducible exact hp7.bw | with_reducible exact hp3.bw | with_reducible exact hS0)
            clear hK K
            (try simp only [Act.put, List.setIfInBounds_toArray, List.set_cons_zero, List.set_cons_succ, List.getElem_toArray, List.getElem_cons_succ, List.getElem_cons_zero])
            refine wpAnyJ_takeG (i := 8) (oi := { dst := some 108 , op := Go.Op.binOp Go.BinOp.eql 32 ( Go.Operand.tmp 103 ) ( Go.Operand.tmp 107 ) 32 , type := 4 , pos := "law.go:103" , after := #[ { on := 3 , ground := Go.Ground.data } , { on := 7 , ground := Go.Ground.data } ] , guard := none }) (v := ?v8_28) hG hsel (by kernel_rfl) (by kernel_rfl) (by kernel_rfl) (by kernel_rfl) (fun _ _ _ h => h) (Or.inl (And.intro (by kernel_rfl) ?q8_28)) hS0 ?r8_28
            case q8_28 => intro w hx; refine run_env [103, 107] [?a8_28_103, ?a8_28_107] (by kernel_rfl) (by kernel_rfl) (⟨?e8_28_103, ?e8_28_107, trivial⟩) ?h8_28; (case e8_28_103 => ((conv => lhs; whnf); (try exact rfl))); (case e8_28_107 => ((conv => lhs; whnf); (try exact rfl))); (case h8_28 => ((try dsimp only); (try simp only [envL, lookV, if_true, if_false]); (try go_simp); (try with_reducible rfl)))
            (try simp only [Act.put, List.setIfInBounds_toArray, List.set_cons_zero, List.set_cons_succ, List.getElem_toArray, List.getElem_cons_succ, List.getElem_cons_zero])
            refine wpAnyJ_takeG (i := 9) (oi := { dst := some 9 , op := Go.Op.assign ( Go.Operand.tmp 108 ) , type := 4 , pos := "law.go:103" , after := #[ { on := 8 , ground := Go.Ground.data } , { on := 7 , ground := Go.Ground.chain } , { on := 0 , ground := Go.Ground.phase } , { on := 1 , ground := Go.Ground.phase } , { on := 2 , ground := Go.Ground.phase } , { on := 3 , ground := Go.Ground.phase } , { on := 4 , ground := Go.Ground.phase } , { on := 5 , ground := Go.Ground.phase } , { on := 6 , ground := Go.Ground.phase } , { on := 7 , ground := Go.Ground.phase } , { on := 8 , ground := Go.Ground.phase } ] , guard := none }) (v := ?v9_29) hG hsel (by kernel_rfl) (by kernel_rfl) (by kernel_rfl) (by kernel_rfl) (fun _ _ _ h => h) (Or.inl (And.intro (by kernel_rfl) ?q9_29)) hS0 ?r9_29
            case q9_29 => intro w hx; refine run_env [108] [?a9_29_108] (by kernel_rfl) (by kernel_rfl) (⟨?e9_29_108, trivial⟩) ?h9_29; (case e9_29_108 => ((conv => lhs; whnf); (try exact rfl))); (case h9_29 => ((try dsimp only); (try simp only [envL, lookV, if_true, if_false]); (try go_simp); (try with_reducible rfl)))
            (try simp only [Act.put, List.setIfInBounds_toArray, List.set_cons_zero, List.set_cons_succ, List.getElem_toArray, List.getElem_cons_succ, List.getElem_cons_zero])
            refine wpAnyJ_done (by kernel_rfl) ?_ _
          have HPE := hide hp7
          clear hp0 ow0 hp3 hp7
          have cal := fun W (h : PairO F wy B B' 151587081 167772160 8 L L W) => q_alike GL2.out d.draft DOK.out W h
          unfold Draft.cells Deed.draft at cal
          have CAL := hide cal
          clear cal
          go_wp2_with (go_at_call 33; (refine (CAL.out _ HPE.out).mono ?_); rintro e we ⟨rfl, hpz⟩; have HPZ := hide hpz; clear hpz)
          go_roundg (n - (kk + 1))
          case measure => omega
          case rel => exact ⟨kk + 1, B, L, by omega, by omega, rfl, by go_num, (show Aside _ from ⟨GL2.out, PairO.down HPZ.out HF.out BWY.out⟩)⟩
        · have k2 : (m5 == 2) = false := by simp [e5]
          have k3 : (m5 == 3) = false := by simp [e5]
          have k4 : (m5 == 4) = true := by simp [e5]
          clear e5
          have cdr := fun W => l_DRule W d.draft DOK.out
          obtain ⟨r0, hr0⟩ : ∃ r0, r0 = d.draft.rule := ⟨_, rfl⟩
          have rok : r0.Ok := by rw [hr0]; exact Draft.rule_ok DOK.out
          rw [← hr0] at cdr
          unfold Draft.cells Deed.draft at cdr
          unfold Rule.cells at cdr
          have CDR := hide cdr; have RO := hide rok
          clear cdr rok hr0
          obtain ⟨⟨v, v', h1, h2, h3, h4⟩, ne, b1, b2, bw⟩ := HP.out
          have H1 := hide h1
          have CP := hide (fun B2 l2 W1 W2 v2 => PairO.copied (B2 := B2) (l2 := l2) (W1 := W1) (W2 := W2) (v2 := v2) h1 h2 h3 h4 ne b1 b2 bw)
          clear h1 h2 h3 h4 ne b1 b2 bw
          have hl := GL.out.len
          go_upto_region 21 with (go_at_call 32; (refine (t_Copy _ B _ _ _ v l H1.out (by omega)).mono ?_); rintro e w2 ⟨B2, v2, rfl, c1, c2, c3, c4⟩)
          have HH0 := hide (Held.start (H1.out.below c2))
          have ow2 : Only F wy w2 := Only.then (Only.refl _ _) c2
          obtain ⟨L1, hL1⟩ : ∃ L1, L1 = addL 151587081 167772160 8 l 0 r0 := ⟨_, rfl⟩
          obtain ⟨L2, hL2⟩ : ∃ L2, L2 = delL L1 0 := ⟨_, rfl⟩
          obtain ⟨m2, hm2⟩ : ∃ m2, m2 = L2.length := ⟨_, rfl⟩
          have hg1 : Good L1 := by rw [hL1]; exact GL.out.add RO.out
          have hg2 : Good L2 := by rw [hL2]; exact hg1.del _
          have hn1 := hg1.len; have hn2 := hg2.len
          have hm2z : (m2 : Int) ≤ 32 := by omega
          have ca := fun W (h : Held w2 v B 151587081 167772160 8 l W) => h_Add 0 r0 (by decide) RO.out (by omega) W h
          have cd1 := fun W (h : Held w2 v B 151587081 167772160 8 L1 W) => h_Delete 0 (by omega) W h
          have cl := fun W (h : Held w2 v B 151587081 167772160 8 L2 W) => h_ListLen m2 hm2 (by omega) W h
          have cd2 := fun W (h : Held w2 v B 151587081 167772160 8 L2 W) => h_Delete ((m2 : Int) - 1) (by omega) W h
          rw [← hL1] at ca
          rw [← hL2] at cd1
          unfold Rule.cells at ca
          generalize addC 151587081 167772160 8 l 0 r0 = x1 at *
          generalize delC L1 0 = x2 at *
          generalize delC L2 ((m2 : Int) - 1) = x3 at *
          have CA := hide ca; have CD1 := hide cd1; have CL := hide cl; have CD2 := hide cd2
          have CC := hide (fun l2 W2 (k : Held w2 v B 151587081 167772160 8 l2 W2) => CP.out B2 l2 w2 W2 v2 c1 c2 c3 c4 k)
          clear ca cd1 cl cd2 c1 c2 c3 c4 CP H1 HP hl hn1 hn2 hg1 hg2 hL1 hL2 hm2
          have hmw : IntKind.i64.wrap ((m2 : Int) - 1) = (m2 : Int) - 1 := IntWalk.i64_in _ (by omega)
          go_upto_region 26 with (first | (go_at_call 27; (with_reducible refine (CDR.out _).mono ?_); rintro e w3 ⟨rfl, b3⟩; have H3 := hide (Held.below HH0.out b3)) | (go_at_call 14; (refine (CA.out _ H3.out).mono ?_); rintro e w4 ⟨rfl, h4⟩; have H4 := hide h4; clear h4) | (go_at_call 22; (refine (CL.out _ H5.out).mono ?_); rintro e w6 ⟨A6, c6, rfl, b6⟩; have H6 := hide (Held.below H5.out b6); clear b6) | (go_at_call 26; (refine (CD2.out _ H6.out).mono ?_); rintro e w7 ⟨rfl, h7⟩; have H7 := hide h7; clear h7) | (go_at_call 26; (refine (CD1.out _ H4.out).mono ?_); rintro e w5 ⟨rfl, h5⟩; have H5 := hide h5; clear h5))
          have HPE := hide (CC.out _ _ H7.out)
          have GL2 := GL
          have ow7 := HPE.out.bw
          clear ow2 HH0 CA CD1 CL CD2 CC H3 H4 H5 H6 H7 CDR
          have cal := fun W (h : PairO F wy B2 B' 151587081 167772160 8 l l W) => q_alike GL2.out d.draft DOK.out W h
          unfold Draft.cells Deed.draft at cal
          have CAL := hide cal
          clear cal
          go_wp2_with (go_at_call 33; (refine (CAL.out _ HPE.out).mono ?_); rintro e we ⟨rfl, hpz⟩; have HPZ := hide hpz; clear hpz)
          go_roundg (n - (kk + 1))
          case measure => omega
          case rel => exact ⟨kk + 1, B2, l, by omega, by omega, rfl, by go_num, (show Aside _ from ⟨GL2.out, PairO.down HPZ.out HF.out BWY.out⟩)⟩
        · have k2 : (m5 == 2) = false := by simp [e2]
          have k3 : (m5 == 3) = false := by simp [e3]
          have k4 : (m5 == 4) = false := by simp [e4]
          clear e2 e3 e4
          have cdr := fun W => l_DRule W d.draft DOK.out
          obtain ⟨r0, hr0⟩ : ∃ r0, r0 = d.draft.rule := ⟨_, rfl⟩
          have rok : r0.Ok := by rw [hr0]; exact Draft.rule_ok DOK.out
          rw [← hr0] at cdr
          have c3 := fun W (h : PairO F wy B B' 151587081 167772160 8 l l W) => q_Check r0 (by decide) rok W h
          have c7 := fun W (h : PairO F wy B B' 151587081 167772160 8 l l W) => q_DCheck r0 (by decide) rok W h
          have c15 := fun W (h : PairO F wy B B' 151587081 167772160 8 l l W) => q_Add d.a r0 (by decide) rok (by have := GL.out.len; omega) W h
          obtain ⟨L, hL⟩ : ∃ L, L = addL 151587081 167772160 8 l d.a r0 := ⟨_, rfl⟩
          have c21 := fun W (h : PairO F wy B B' 151587081 167772160 8 L l W) => q_DAdd d.a r0 (by decide) rok GL.out.may (by have := GL.out.len; omega) W h
          rw [← hL] at c15 c21
          have gl2 : Good L := by rw [hL]; exact GL.out.add rok
          generalize chkR 167772160 8 r0 = x1 at *
          generalize addC 151587081 167772160 8 l d.a r0 = x2 at *
          unfold Draft.cells Deed.draft at cdr
          unfold Rule.cells at c3 c7 c15 c21 cdr
          have C3 := hide c3; have C7 := hide c7; have C15 := hide c15; have C21 := hide c21; have GL2 := hide gl2; have CDR := hide cdr
          clear c3 c7 c15 c21 gl2 hL cdr rok hr0
          have hx1 : (x1 == x1) = true := by simp
          have hx2 : (x2 == x2) = true := by simp
          go_upto_region 13 with fail
          have hp0 := HP.out.below (Below.drew (Below.refl _ _))
          have ow0 := hp0.bw
          focus
            refine wp_region_J [] (fun W => Only F wy W) (by kernel_rfl) (ow0) (fun hS0 => ?_)
            obtain ⟨hG, hsel⟩ := okOps (md := .any) (ops := #[{ dst := some 44 , op := Go.Op.move ( Go.Operand.tmp 3 ) , type := 31 , pos := "law.go:114" , after := #[ ] , guard := none }, { dst := some 45 , op := Go.Op.fieldAddr 66 ( Go.Operand.tmp 8 ) 2 , type := 0 , pos := "law.go:114" , after := #[ ] , guard := none }, { dst := some 46 , op := Go.Op.load 45 ( Go.Operand.tmp 45 ) , type := 45 , pos := "law.go:114" , after := #[ { on := 1 , ground := Go.Ground.data } ] , guard := none }, { dst := some 47 , op := Go.Op.call { callee := Go.Callee.value ( Go.Operand.func 27 ) , args := #[ Go.Operand.tmp 46 ] , argTypes := #[ 45 ] } , type := 30 , pos := "law.go:114" , after := #[ { on := 2 , ground := Go.Ground.data } ] , guard := none }, { dst := some 48 , op := Go.Op.call { callee := Go.Callee.value ( Go.Operand.func 12 ) , args := #[ Go.Operand.tmp 44 , Go.Operand.tmp 47 ] , argTypes := #[ 31 , 30 ] } , type := 32 , pos := "law.go:114" , after := #[ { on := 0 , ground := Go.Ground.data } , { on := 3 , ground := Go.Ground.data } , { on := 3 , ground := Go.Ground.chain } ] , guard := none }, { dst := some 49 , op := Go.Op.move ( Go.Operand.tmp 5 ) , type := 35 , pos := "law.go:114" , after := #[ ] , guard := none }, { dst := some 50 , op := Go.Op.fieldAddr 66 ( Go.Operand.tmp 8 ) 2 , type := 0 , pos := "law.go:114" , after := #[ ] , guard := none }, { dst := some 51 , op := Go.Op.load 45 ( Go.Operand.tmp 50 ) , type := 45 , pos := "law.go:114" , after := #[ { on := 6 , ground := Go.Ground.data } ] , guard := none }, { dst := some 52 , op := Go.Op.call { callee := Go.Callee.value ( Go.Operand.func 27 ) , args := #[ Go.Operand.tmp 51 ] , argTypes := #[ 45 ] } , type := 30 , pos := "law.go:114" , after := #[ { on := 7 , ground := Go.Ground.data } , { on := 4 , ground := Go.Ground.chain } ] , guard := none }, { dst := some 53 , op := Go.Op.call { callee := Go.Callee.value ( Go.Operand.func 13 ) , args := #[ Go.Operand.tmp 49 , Go.Operand.tmp 52 ] , argTypes := #[ 35 , 30 ] } , type := 32 , pos := "law.go:114" , after := #[ { on := 5 , ground := Go.Ground.data } , { on := 8 , ground := Go.Ground.data } , { on := 8 , ground := Go.Ground.chain } ] , guard := none }, { dst := some 54 , op := Go.Op.binOp Go.BinOp.eql 32 ( Go.Operand.tmp 48 ) ( Go.Operand.tmp 53 ) 32 , type := 4 , pos := "law.go:114" , after := #[ { on := 4 , ground := Go.Ground.data } , { on := 9 , ground := Go.Ground.data } ] , guard := none }, { dst := some 55 , op := Go.Op.move ( Go.Operand.tmp 54 ) , type := 4 , pos := "law.go:114" , after := #[ { on := 10 , ground := Go.Ground.data } , { on := 9 , ground := Go.Ground.chain } ] , guard := none }, { dst := some 56 , op := Go.Op.move ( Go.Operand.tmp 3 ) , type := 31 , pos := "law.go:114" , after := #[ { on := 11 , ground := Go.Ground.guard } ] , guard := some ( 11 , true ) }, { dst := some 57 , op := Go.Op.fieldAddr 66 ( Go.Operand.tmp 8 ) 1 , type := 0 , pos := "law.go:114" , after := #[ { on := 11 , ground := Go.Ground.guard } ] , guard := some ( 11 , true ) }, { dst := some 58 , op := Go.Op.load 3 ( Go.Operand.tmp 57 ) , type := 3 , pos := "law.go:114" , after := #[ { on := 13 , ground := Go.Ground.data } , { on := 11 , ground := Go.Ground.guard } ] , guard := some ( 11 , true ) }, { dst := some 59 , op := Go.Op.fieldAddr 66 ( Go.Operand.tmp 8 ) 2 , type := 0 , pos := "law.go:114" , after := #[ { on := 11 , ground := Go.Ground.guard } ] , guard := some ( 11 , true ) }, { dst := some 60 , op := Go.Op.load 45 ( Go.Operand.tmp 59 ) , type := 45 , pos := "law.go:114" , after := #[ { on := 15 , ground := Go.Ground.data } , { on := 11 , ground := Go.Ground.guard } ] , guard := some ( 11 , true ) }, { dst := some 61 , op := Go.Op.call { callee := Go.Callee.value ( Go.Operand.func 27 ) , args := #[ Go.Operand.tmp 60 ] , argTypes := #[ 45 ] } , type := 30 , pos := "law.go:114" , after := #[ { on := 16 , ground := Go.Ground.data } , { on := 11 , ground := Go.Ground.chain } , { on := 11 , ground := Go.Ground.guard } ] , guard := some ( 11 , true ) }, { dst := some 62 , op := Go.Op.call { callee := Go.Callee.value ( Go.Operand.func 14 ) , args := #[ Go.Operand.tmp 56 , Go.Operand.tmp 58 , Go.Operand.tmp 61 ] , argTypes := #[ 31 , 3 , 30 ] } , type := 32 , pos := "law.go:114" , after := #[ { on := 12 , ground := Go.Ground.data } , { on := 14 , ground := Go.Ground.data } , { on := 17 , ground := Go.Ground.data } , { on := 17 , ground := Go.Ground.chain } , { on := 11 , ground := Go.Ground.guard } ] , guard := some ( 11 , true ) }, { dst := some 63 , op := Go.Op.move ( Go.Operand.tmp 5 ) , type := 35 , pos := "law.go:114" , after := #[ { on := 11 , ground := Go.Ground.guard } ] , guard := some ( 11 , true ) }, { dst := some 64 , op := Go.Op.fieldAddr 66 ( Go.Operand.tmp 8 ) 1 , type := 0 , pos := "law.go:114" , after := #[ { on := 11 , ground := Go.Ground.guard } ] , guard := some ( 11 , true ) }, { dst := some 65 , op := Go.Op.load 3 ( Go.Operand.tmp 64 ) , type := 3 , pos := "law.go:114" , after := #[ { on := 20 , ground := Go.Ground.data } , { on := 11 , ground := Go.Ground.guard } ] , guard := some ( 11 , true ) }, { dst := some 66 , op := Go.Op.fieldAddr 66 ( Go.Operand.tmp 8 ) 2 , type := 0 , pos := "law.go:114" , after := #[ { on := 11 , ground := Go.Ground.guard } ] , guard := some ( 11 , true ) }, { dst := some 67 , op := Go.Op.load 45 ( Go.Operand.tmp 66 ) , type := 45 , pos := "law.go:114" , after := #[ { on := 22 , ground := Go.Ground.data } , { on := 11 , ground := Go.Ground.guard } ] , guard := some ( 11 , true ) }, { dst := some 68 , op := Go.Op.call { callee := Go.Callee.value ( Go.Operand.func 27 ) , args := #[ Go.Operand.tmp 67 ] , argTypes := #[ 45 ] } , type := 30 , pos := "law.go:114" , after := #[ { on := 23 , ground := Go.Ground.data } , { on := 18 , ground := Go.Ground.chain } , { on := 11 , ground := Go.Ground.guard } ] , guard := some ( 11 , true ) }, { dst := some 69 , op := Go.Op.call { callee := Go.Callee.value ( Go.Operand.func 15 ) , args := #[ Go.Operand.tmp 63 , Go.Operand.tmp 65 , Go.Operand.tmp 68 ] , argTypes := #[ 35 , 3 , 30 ] } , type := 32 , pos := "law.go:114" , after := #[ { on := 19 , ground := Go.Ground.data } , { on := 21 , ground := Go.Ground.data } , { on := 24 , ground := Go.Ground.data } , { on := 24 , ground := Go.Ground.chain } , { on := 11 , ground := Go.Ground.guard } ] , guard := some ( 11 , true ) }, { dst := some 70 , op := Go.Op.binOp Go.BinOp.eql 32 ( Go.Operand.tmp 62 ) ( Go.Operand.tmp 69 ) 32 , type := 4 , pos := "law.go:114" , after := #[ { on := 18 , ground := Go.Ground.data } , { on := 25 , ground := Go.Ground.data } , { on := 11 , ground := Go.Ground.guard } ] , guard := some ( 11 , true ) }, { dst := some 71 , op := Go.Op.pick ( Go.Operand.tmp 55 ) ( Go.Operand.tmp 70 ) ( Go.Operand.const ( Go.Value.bool false ) ) , type := 4 , pos := "law.go:114" , after := #[ { on := 11 , ground := Go.Ground.data } , { on := 26 , ground := Go.Ground.data } ] , guard := none }, { dst := some 9 , op := Go.Op.assign ( Go.Operand.tmp 71 ) , type := 4 , pos := "law.go:114" , after := #[ { on := 27 , ground := Go.Ground.data } , { on := 25 , ground := Go.Ground.chain } , { on := 0 , ground := Go.Ground.phase } , { on := 1 , ground := Go.Ground.phase } , { on := 2 , ground := Go.Ground.phase } , { on := 3 , ground := Go.Ground.phase } , { on := 4 , ground := Go.Ground.phase } , { on := 5 , ground := Go.Ground.phase } , { on := 6 , ground := Go.Ground.phase } , { on := 7 , ground := Go.Ground.phase } , { on := 8 , ground := Go.Ground.phase } , { on := 9 , ground := Go.Ground.phase } , { on := 10 , ground := Go.Ground.phase } , { on := 11 , ground := Go.Ground.phase } , { on := 12 , ground := Go.Ground.phase } , { on := 13 , ground := Go.Ground.phase } , { on := 14 , ground := Go.Ground.phase } , { on := 15 , ground := Go.Ground.phase } , { on := 16 , ground := Go.Ground.phase } , { on := 17 , ground := Go.Ground.phase } , { on := 18 , ground := Go.Ground.phase } , { on := 19 , ground := Go.Ground.phase } , { on := 20 , ground := Go.Ground.phase } , { on := 21 , ground := Go.Ground.phase } , { on := 22 , ground := Go.Ground.phase } , { on := 23 , ground := Go.Ground.phase } , { on := 24 , ground := Go.Ground.phase } , { on := 25 , ground := Go.Ground.phase } , { on := 26 , ground := Go.Ground.phase } , { on := 27 , ground := Go.Ground.phase } ] , guard := none }]) (by kernel_rfl)
            refine wpAnyJ_takeG (i := 0) (oi := { dst := some 44 , op := Go.Op.move ( Go.Operand.tmp 3 ) , type := 31 , pos := "law.go:114" , after := #[ ] , guard := none }) (v := ?v0_30) hG hsel (by kernel_rfl) (by kernel_rfl) (by kernel_rfl) (by kernel_rfl) (fun _ _ _ h => h) (Or.inl (And.intro (by kernel_rfl) ?q0_30)) hS0 ?r0_30
            case q0_30 => intro w hx; refine run_env [3] [?a0_30_3] (by kernel_rfl) (by kernel_rfl) (⟨?e0_30_3, trivial⟩) ?h0_30; (case e0_30_3 => ((conv => lhs; whnf); (try exact rfl))); (case h0_30 => ((try dsimp only); (try simp only [envL, lookV, if_true, if_false]); (try go_simp); (try with_reducible rfl)))
            (try simp only [Act.put, List.setIfInBounds_toArray, List.set_cons_zero, List.set_cons_succ, List.getElem_toArray, List.getElem_cons_succ, List.getElem_cons_zero])
            refine wpAnyJ_takeG (i := 1) (oi := { dst := some 45 , op := Go.Op.fieldAddr 66 ( Go.Operand.tmp 8 ) 2 , type := 0 , pos := "law.go:114" , after := #[ ] , guard := none }) (v := ?v1_31) hG hsel (by kernel_rfl) (by kernel_rfl) (by kernel_rfl) (by kernel_rfl) (fun _ _ _ h => h) (Or.inl (And.intro (by kernel_rfl) ?q1_31)) hS0 ?r1_31
            case q1_31 => intro w hx; refine run_env [8] [?a1_31_8] (by kernel_rfl) (by kernel_rfl) (⟨?e1_31_8, trivial⟩) ?h1_31; (case e1_31_8 => ((conv => lhs; whnf); (try exact rfl))); (case h1_31 => ((try dsimp only); (try simp only [envL, lookV, if_true, if_false]); (try go_simp); (try with_reducible rfl)))
            (try simp only [Act.put, List.setIfInBounds_toArray, List.set_cons_zero, List.set_cons_succ, List.getElem_toArray, List.getElem_cons_succ, List.getElem_cons_zero])
            refine wpAnyJ_takeG (i := 2) (oi := { dst := some 46 , op := Go.Op.load 45 ( Go.Operand.tmp 45 ) , type := 45 , pos := "law.go:114" , after := #[ { on := 1 , ground := Go.Ground.data } ] , guard := none }) (v := ?v2_32) hG hsel (by kernel_rfl) (by kernel_rfl) (by kernel_rfl) (by kernel_rfl) (fun _ _ _ h => h) (Or.inl (And.intro (by kernel_rfl) ?q2_32)) hS0 ?r2_32
            case q2_32 => intro w hx; refine run_env [45] [?a2_32_45] (by kernel_rfl) (by kernel_rfl) (⟨?e2_32_45, trivial⟩) ?h2_32; (case e2_32_45 => ((conv => lhs; whnf); (try exact rfl))); (case h2_32 => ((try dsimp only); (try simp only [envL, lookV, if_true, if_false]); (try go_simp); (try with_reducible rfl)))
            (try simp only [Act.put, List.setIfInBounds_toArray, List.set_cons_zero, List.set_cons_succ, List.getElem_toArray, List.getElem_cons_succ, List.getElem_cons_zero])
            refine wpAnyJ_takeG (i := 5) (oi := { dst := some 49 , op := Go.Op.move ( Go.Operand.tmp 5 ) , type := 35 , pos := "law.go:114" , after := #[ ] , guard := none }) (v := ?v5_33) hG hsel (by kernel_rfl) (by kernel_rfl) (by kernel_rfl) (by kernel_rfl) (fun _ _ _ h => h) (Or.inl (And.intro (by kernel_rfl) ?q5_33)) hS0 ?r5_33
            case q5_33 => intro w hx; refine run_env [5] [?a5_33_5] (by kernel_rfl) (by kernel_rfl) (⟨?e5_33_5, trivial⟩) ?h5_33; (case e5_33_5 => ((conv => lhs; whnf); (try exact rfl))); (case h5_33 => ((try dsimp only); (try simp only [envL, lookV, if_true, if_false]); (try go_simp); (try with_reducible rfl)))
            (try simp only [Act.put, List.setIfInBounds_toArray, List.set_cons_zero, List.set_cons_succ, List.getElem_toArray, List.getElem_cons_succ, List.getElem_cons_zero])
            refine wpAnyJ_takeG (i := 6) (oi := { dst := some 50 , op := Go.Op.fieldAddr 66 ( Go.Operand.tmp 8 ) 2 , type := 0 , pos := "law.go:114" , after := #[ ] , guard := none }) (v := ?v6_34) hG hsel (by kernel_rfl) (by kernel_rfl) (by kernel_rfl) (by kernel_rfl) (fun _ _ _ h => h) (Or.inl (And.intro (by kernel_rfl) ?q6_34)) hS0 ?r6_34
            case q6_34 => intro w hx; refine run_env [8] [?a6_34_8] (by kernel_rfl) (by kernel_rfl) (⟨?e6_34_8, trivial⟩) ?h6_34; (case e6_34_8 => ((conv => lhs; whnf); (try exact rfl))); (case h6_34 => ((try dsimp only); (try simp only [envL, lookV, if_true, if_false]); (try go_simp); (try with_reducible rfl)))
            (try simp only [Act.put, List.setIfInBounds_toArray, List.set_cons_zero, List.set_cons_succ, List.getElem_toArray, List.getElem_cons_succ, List.getElem_cons_zero])
            refine wpAnyJ_takeG (i := 7) (oi := { dst := some 51 , op := Go.Op.load 45 ( Go.Operand.tmp 50 ) , type := 45 , pos := "law.go:114" , after := #[ { on := 6 , ground := Go.Ground.data } ] , guard := none }) (v := ?v7_35) hG hsel (by kernel_rfl) (by kernel_rfl) (by kernel_rfl) (by kernel_rfl) (fun _ _ _ h => h) (Or.inl (And.intro (by kernel_rfl) ?q7_35)) hS0 ?r7_35
            case q7_35 => intro w hx; refine run_env [50] [?a7_35_50] (by kernel_rfl) (by kernel_rfl) (⟨?e7_35_50, trivial⟩) ?h7_35; (case e7_35_50 => ((conv => lhs; whnf); (try exact rfl))); (case h7_35 => ((try dsimp only); (try simp only [envL, lookV, if_true, if_false]); (try go_simp); (try with_reducible rfl)))
            (try simp only [Act.put, List.setIfInBounds_toArray, List.set_cons_zero, List.set_cons_succ, List.getElem_toArray, List.getElem_cons_succ, List.getElem_cons_zero])
            refine wpAnyJ_ready (rs := [3]) (by kernel_rfl) (by simp) ?_
            refine (AllReadyJ.cons rfl (fun K hK => ?_) AllReadyJ.nil)
            rw [if_pos (by kernel_rfl)]
            (try simp only [List.getElem_toArray, List.getElem_cons_succ, List.getElem_cons_zero])
            (focus go_simp)
            (focus ((with_reducible refine (CDR.out _).mono ?_); rintro e wq3 ⟨rfl, bq3⟩; have hp3 := hp0.below bq3))
            (focus (try go_wp2_with fail))
            refine hK.out _ _ ?hs (fun hS0 => ?_)
            case hs => (first | with_reducible exact hp25.bw | with_reducible exact hp24.bw | with_reducible exact hp18.bw | with_reducible exact hp17.bw | with_reducible exact hp9.bw | with_reducible exact hp8.bw | with_reducible exact hp4.bw | with_reducible exact hp3.bw | with_reducible exact hS0)
            clear hK K
            (try simp only [Act.put, List.setIfInBounds_toArray, List.set_cons_zero, List.set_cons_succ, List.getElem_toArray, List.getElem_cons_succ, List.getElem_cons_zero])
            refine wpAnyJ_ready (rs := [4]) (by kernel_rfl) (by simp) ?_
            refine (AllReadyJ.cons rfl (fun K hK => ?_) AllReadyJ.nil)
            rw [if_pos (by kernel_rfl)]
            (try simp only [List.getElem_toArray, List.getElem_cons_succ, List.getElem_cons_zero])
            (focus go_simp)
            (focus ((with_reducible refine (C3.out _ hp3).mono ?_); rintro e wq4 ⟨rfl, hp4⟩))
            (focus (try go_wp2_with fail))
            refine hK.out _ _ ?hs (fun hS0 => ?_)
            case hs => (first | with_reducible exact hp25.bw | with_reducible exact hp24.bw | with_reducible exact hp18.bw | with_reducible exact hp17.bw | with_reducible exact hp9.bw | with_reducible exact hp8.bw | with_reducible exact hp4.bw | with_reducible exact hp3.bw | with_reducible exact hS0)
            clear hK K
            (try simp only [Act.put, List.setIfInBounds_toArray, List.set_cons_zero, List.set_cons_succ, List.getElem_toArray, List.getElem_cons_succ, List.getElem_cons_zero])
            refine wpAnyJ_ready (rs := [8]) (by kernel_rfl) (by simp) ?_
            refine (AllReadyJ.cons rfl (fun K hK => ?_) AllReadyJ.nil)
            rw [if_pos (by kernel_rfl)]
            (try simp only [List.getElem_toArray, List.getElem_cons_succ, List.getElem_cons_zero])
            (focus go_simp)
            (focus ((with_reducible refine (CDR.out _).mono ?_); rintro e wq8 ⟨rfl, bq8⟩; have hp8 := hp4.below bq8))
            (focus (try go_wp2_with fail))
            refine hK.out _ _ ?hs (fun hS0 => ?_)
            case hs => (first | with_reducible exact hp25.bw | with_reducible exact hp24.bw | with_reducible exact hp18.bw | with_reducible exact hp17.bw | with_reducible exact hp9.bw | with_reducible exact hp8.bw | with_reducible exact hp4.bw | with_reducible exact hp3.bw | with_reducible exact hS0)
            clear hK K
            (try simp only [Act.put, List.setIfInBounds_toArray, List.set_cons_zero, List.set_cons_succ, List.getElem_toArray, List.getElem_cons_succ, List.getElem_cons_zero])
            refine wpAnyJ_ready (rs := [9]) (by kernel_rfl) (by simp) ?_
            refine (AllReadyJ.cons rfl (fun K hK => ?_) AllReadyJ.nil)
            rw [if_pos (by kernel_rfl)]
            (try simp only [List.getElem_toArray, List.getElem_cons_succ, List.getElem_cons_zero])
            (focus go_simp)
            (focus ((with_reducible refine (C7.out _ hp8).mono ?_); rintro e wq9 ⟨rfl, hp9⟩))
            (focus (try go_wp2_with fail))
            refine hK.out _ _ ?hs (fun hS0 => ?_)
            case hs => (first | with_reducible exact hp25.bw | with_reducible exact hp24.bw | with_reducible exact hp18.bw | with_reducible exact hp17.bw | with_reducible exact hp9.bw | with_reducible exact hp8.bw | with_reducible exact hp4.bw | with_reducible exact hp3.bw | with_reducible exact hS0)
            clear hK K
            (try simp only [Act.put, List.setIfInBounds_toArray, List.set_cons_zero, List.set_cons_succ, List.getElem_toArray, List.getElem_cons_succ, List.getElem_cons_zero])
            refine wpAnyJ_takeG (i := 10) (oi := { dst := some 54 , op := Go.Op.binOp Go.BinOp.eql 32 ( Go.Operand.tmp 48 ) ( Go.Operand.tmp 53 ) 32 , type := 4 , pos := "law.go:114" , after := #[ { on := 4 , ground := Go.Ground.data } , { on := 9 , ground := Go.Ground.data } ] , guard := none }) (v := ?v10_36) hG hsel (by kernel_rfl) (by kernel_rfl) (by kernel_rfl) (by kernel_rfl) (fun _ _ _ h => h) (Or.inl (And.intro (by kernel_rfl) ?q10_36)) hS0 ?r10_36
            case q10_36 => intro w hx; refine run_env [48, 53] [?a10_36_48, ?a10_36_53] (by kernel_rfl) (by kernel_rfl) (⟨?e10_36_48, ?e10_36_53, trivial⟩) ?h10_36; (case e10_36_48 => ((conv => lhs; whnf); (try exact rfl))); (case e10_36_53 => ((conv => lhs; whnf); (try exact rfl))); (case h10_36 => ((try dsimp only); (try simp only [envL, lookV, if_true, if_false]); (try go_simp); (try with_reducible rfl)))
            (try simp only [Act.put, List.setIfInBounds_toArray, List.set_cons_zero, List.set_cons_succ, List.getElem_toArray, List.getElem_cons_succ, List.getElem_cons_zero])
            refine wpAnyJ_takeG (i := 11) (oi := { dst := some 55 , op := Go.Op.move ( Go.Operand.tmp 54 ) , type := 4 , pos := "law.go:114" , after := #[ { on := 10 , ground := Go.Ground.data } , { on := 9 , ground := Go.Ground.chain } ] , guard := none }) (v := ?v11_37) hG hsel (by kernel_rfl) (by kernel_rfl) (by kernel_rfl) (by kernel_rfl) (fun _ _ _ h => h) (Or.inl (And.intro (by kernel_rfl) ?q11_37)) hS0 ?r11_37
            case q11_37 => intro w hx; refine run_env [54] [?a11_37_54] (by kernel_rfl) (by kernel_rfl) (⟨?e11_37_54, trivial⟩) ?h11_37; (case e11_37_54 => ((conv => lhs; whnf); (try exact rfl))); (case h11_37 => ((try dsimp only); (try simp only [envL, lookV, if_true, if_false]); (try go_simp); (try with_reducible rfl)))
            (try simp only [Act.put, List.setIfInBounds_toArray, List.set_cons_zero, List.set_cons_succ, List.getElem_toArray, List.getElem_cons_succ, List.getElem_cons_zero])
            refine wpAnyJ_takeG (i := 12) (oi := { dst := some 56 , op := Go.Op.move ( Go.Operand.tmp 3 ) , type := 31 , pos := "law.go:114" , after := #[ { on := 11 , ground := Go.Ground.guard } ] , guard := some ( 11 , true ) }) (v := ?v12_38) hG hsel (by kernel_rfl) (by kernel_rfl) (by kernel_rfl) (by kernel_rfl) (fun _ _ _ h => h) (Or.inl (And.intro (by kernel_rfl) ?q12_38)) hS0 ?r12_38
            case q12_38 => intro w hx; refine run_env [3] [?a12_38_3] (by kernel_rfl) (by kernel_rfl) (⟨?e12_38_3, trivial⟩) ?h12_38; (case e12_38_3 => ((conv => lhs; whnf); (try exact rfl))); (case h12_38 => ((try dsimp only); (try simp only [envL, lookV, if_true, if_false]); (try go_simp); (try with_reducible rfl)))
            (try simp only [Act.put, List.setIfInBounds_toArray, List.set_cons_zero, List.set_cons_succ, List.getElem_toArray, List.getElem_cons_succ, List.getElem_cons_zero])
            refine wpAnyJ_takeG (i := 13) (oi := { dst := some 57 , op := Go.Op.fieldAddr 66 ( Go.Operand.tmp 8 ) 1 , type := 0 , pos := "law.go:114" , after := #[ { on := 11 , ground := Go.Ground.guard } ] , guard := some ( 11 , true ) }) (v := ?v13_39) hG hsel (by kernel_rfl) (by kernel_rfl) (by kernel_rfl) (by kernel_rfl) (fun _ _ _ h => h) (Or.inl (And.intro (by kernel_rfl) ?q13_39)) hS0 ?r13_39
            case q13_39 => intro w hx; refine run_env [8] [?a13_39_8] (by kernel_rfl) (by kernel_rfl) (⟨?e13_39_8, trivial⟩) ?h13_39; (case e13_39_8 => ((conv => lhs; whnf); (try exact rfl))); (case h13_39 => ((try dsimp only); (try simp only [envL, lookV, if_true, if_false]); (try go_simp); (try with_reducible rfl)))
            (try simp only [Act.put, List.setIfInBounds_toArray, List.set_cons_zero, List.set_cons_succ, List.getElem_toArray, List.getElem_cons_succ, List.getElem_cons_zero])
            refine wpAnyJ_takeG (i := 14) (oi := { dst := some 58 , op := Go.Op.load 3 ( Go.Operand.tmp 57 ) , type := 3 , pos := "law.go:114" , after := #[ { on := 13 , ground := Go.Ground.data } , { on := 11 , ground := Go.Ground.guard } ] , guard := some ( 11 , true ) }) (v := ?v14_40) hG hsel (by kernel_rfl) (by kernel_rfl) (by kernel_rfl) (by kernel_rfl) (fun _ _ _ h => h) (Or.inl (And.intro (by kernel_rfl) ?q14_40)) hS0 ?r14_40
            case q14_40 => intro w hx; refine run_env [57] [?a14_40_57] (by kernel_rfl) (by kernel_rfl) (⟨?e14_40_57, trivial⟩) ?h14_40; (case e14_40_57 => ((conv => lhs; whnf); (try exact rfl))); (case h14_40 => ((try dsimp only); (try simp only [envL, lookV, if_true, if_false]); (try go_simp); (try with_reducible rfl)))
            (try simp only [Act.put, List.setIfInBounds_toArray, List.set_cons_zero, List.set_cons_succ, List.getElem_toArray, List.getElem_cons_succ, List.getElem_cons_zero])
            refine wpAnyJ_takeG (i := 15) (oi := { dst := some 59 , op := Go.Op.fieldAddr 66 ( Go.Operand.tmp 8 ) 2 , type := 0 , pos := "law.go:114" , after := #[ { on := 11 , ground := Go.Ground.guard } ] , guard := some ( 11 , true ) }) (v := ?v15_41) hG hsel (by kernel_rfl) (by kernel_rfl) (by kernel_rfl) (by kernel_rfl) (fun _ _ _ h => h) (Or.inl (And.intro (by kernel_rfl) ?q15_41)) hS0 ?r15_41
            case q15_41 => intro w hx; refine run_env [8] [?a15_41_8] (by kernel_rfl) (by kernel_rfl) (⟨?e15_41_8, trivial⟩) ?h15_41; (case e15_41_8 => ((conv => lhs; whnf); (try exact rfl))); (case h15_41 => ((try dsimp only); (try simp only [envL, lookV, if_true, if_false]); (try go_simp); (try with_reducible rfl)))
            (try simp only [Act.put, List.setIfInBounds_toArray, List.set_cons_zero, List.set_cons_succ, List.getElem_toArray, List.getElem_cons_succ, List.getElem_cons_zero])
            refine wpAnyJ_takeG (i := 16) (oi := { dst := some 60 , op := Go.Op.load 45 ( Go.Operand.tmp 59 ) , type := 45 , pos := "law.go:114" , after := #[ { on := 15 , ground := Go.Ground.data } , { on := 11 , ground := Go.Ground.guard } ] , guard := some ( 11 , true ) }) (v := ?v16_42) hG hsel (by kernel_rfl) (by kernel_rfl) (by kernel_rfl) (by kernel_rfl) (fun _ _ _ h => h) (Or.inl (And.intro (by kernel_rfl) ?q16_42)) hS0 ?r16_42
            case q16_42 => intro w hx; refine run_env [59] [?a16_42_59] (by kernel_rfl) (by kernel_rfl) (⟨?e16_42_59, trivial⟩) ?h16_42; (case e16_42_59 => ((conv => lhs; whnf); (try exact rfl))); (case h16_42 => ((try dsimp only); (try simp only [envL, lookV, if_true, if_false]); (try go_simp); (try with_reducible rfl)))
            (try simp only [Act.put, List.setIfInBounds_toArray, List.set_cons_zero, List.set_cons_succ, List.getElem_toArray, List.getElem_cons_succ, List.getElem_cons_zero])
            refine wpAnyJ_takeG (i := 19) (oi := { dst := some 63 , op := Go.Op.move ( Go.Operand.tmp 5 ) , type := 35 , pos := "law.go:114" , after := #[ { on := 11 , ground := Go.Ground.guard } ] , guard := some ( 11 , true ) }) (v := ?v19_43) hG hsel (by kernel_rfl) (by kernel_rfl) (by kernel_rfl) (by kernel_rfl) (fun _ _ _ h => h) (Or.inl (And.intro (by kernel_rfl) ?q19_43)) hS0 ?r19_43
            case q19_43 => intro w hx; refine run_env [5] [?a19_43_5] (by kernel_rfl) (by kernel_rfl) (⟨?e19_43_5, trivial⟩) ?h19_43; (case e19_43_5 => ((conv => lhs; whnf); (try exact rfl))); (case h19_43 => ((try dsimp only); (try simp only [envL, lookV, if_true, if_false]); (try go_simp); (try with_reducible rfl)))
            (try simp only [Act.put, List.setIfInBounds_toArray, List.set_cons_zero, List.set_cons_succ, List.getElem_toArray, List.getElem_cons_succ, List.getElem_cons_zero])
            refine wpAnyJ_takeG (i := 20) (oi := { dst := some 64 , op := Go.Op.fieldAddr 66 ( Go.Operand.tmp 8 ) 1 , type := 0 , pos := "law.go:114" , after := #[ { on := 11 , ground := Go.Ground.guard } ] , guard := some ( 11 , true ) }) (v := ?v20_44) hG hsel (by kernel_rfl) (by kernel_rfl) (by kernel_rfl) (by kernel_rfl) (fun _ _ _ h => h) (Or.inl (And.intro (by kernel_rfl) ?q20_44)) hS0 ?r20_44
            case q20_44 => intro w hx; refine run_env [8] [?a20_44_8] (by kernel_rfl) (by kernel_rfl) (⟨?e20_44_8, trivial⟩) ?h20_44; (case e20_44_8 => ((conv => lhs; whnf); (try exact rfl))); (case h20_44 => ((try dsimp only); (try simp only [envL, lookV, if_true, if_false]); (try go_simp); (try with_reducible rfl)))
            (try simp only [Act.put, List.setIfInBounds_toArray, List.set_cons_zero, List.set_cons_succ, List.getElem_toArray, List.getElem_cons_succ, List.getElem_cons_zero])
            refine wpAnyJ_takeG (i := 21) (oi := { dst := some 65 , op := Go.Op.load 3 ( Go.Operand.tmp 64 ) , type := 3 , pos := "law.go:114" , after := #[ { on := 20 , ground := Go.Ground.data } , { on := 11 , ground := Go.Ground.guard } ] , guard := some ( 11 , true ) }) (v := ?v21_45) hG hsel (by kernel_rfl) (by kernel_rfl) (by kernel_rfl) (by kernel_rfl) (fun _ _ _ h => h) (Or.inl (And.intro (by kernel_rfl) ?q21_45)) hS0 ?r21_45
            case q21_45 => intro w hx; refine run_env [64] [?a21_45_64] (by kernel_rfl) (by kernel_rfl) (⟨?e21_45_64, trivial⟩) ?h21_45; (case e21_45_64 => ((conv => lhs; whnf); (try exact rfl))); (case h21_45 => ((try dsimp only); (try simp only [envL, lookV, if_true, if_false]); (try go_simp); (try with_reducible rfl)))
            (try simp only [Act.put, List.setIfInBounds_toArray, List.set_cons_zero, List.set_cons_succ, List.getElem_toArray, List.getElem_cons_succ, List.getElem_cons_zero])
            refine wpAnyJ_takeG (i := 22) (oi := { dst := some 66 , op := Go.Op.fieldAddr 66 ( Go.Operand.tmp 8 ) 2 , type := 0 , pos := "law.go:114" , after := #[ { on := 11 , ground := Go.Ground.guard } ] , guard := some ( 11 , true ) }) (v := ?v22_46) hG hsel (by kernel_rfl) (by kernel_rfl) (by kernel_rfl) (by kernel_rfl) (fun _ _ _ h => h) (Or.inl (And.intro (by kernel_rfl) ?q22_46)) hS0 ?r22_46
            case q22_46 => intro w hx; refine run_env [8] [?a22_46_8] (by kernel_rfl) (by kernel_rfl) (⟨?e22_46_8, trivial⟩) ?h22_46; (case e22_46_8 => ((conv => lhs; whnf); (try exact rfl))); (case h22_46 => ((try dsimp only); (try simp only [envL, lookV, if_true, if_false]); (try go_simp); (try with_reducible rfl)))
            (try simp only [Act.put, List.setIfInBounds_toArray, List.set_cons_zero, List.set_cons_succ, List.getElem_toArray, List.getElem_cons_succ, List.getElem_cons_zero])
            refine wpAnyJ_takeG (i := 23) (oi := { dst := some 67 , op := Go.Op.load 45 ( Go.Operand.tmp 66 ) , type := 45 , pos := "law.go:114" , after := #[ { on := 22 , ground := Go.Ground.data } , { on := 11 , ground := Go.Ground.guard } ] , guard := some ( 11 , true ) }) (v := ?v23_47) hG hsel (by kernel_rfl) (by kernel_rfl) (by kernel_rfl) (by kernel_rfl) (fun _ _ _ h => h) (Or.inl (And.intro (by kernel_rfl) ?q23_47)) hS0 ?r23_47
            case q23_47 => intro w hx; refine run_env [66] [?a23_47_66] (by kernel_rfl) (by kernel_rfl) (⟨?e23_47_66, trivial⟩) ?h23_47; (case e23_47_66 => ((conv => lhs; whnf); (try exact rfl))); (case h23_47 => ((try dsimp only); (try simp only [envL, lookV, if_true, if_false]); (try go_simp); (try with_reducible rfl)))
            (try simp only [Act.put, List.setIfInBounds_toArray, List.set_cons_zero, List.set_cons_succ, List.getElem_toArray, List.getElem_cons_succ, List.getElem_cons_zero])
            refine wpAnyJ_ready (rs := [17]) (by kernel_rfl) (by simp) ?_
            refine (AllReadyJ.cons rfl (fun K hK => ?_) AllReadyJ.nil)
            rw [if_pos (by kernel_rfl)]
            (try simp only [List.getElem_toArray, List.getElem_cons_succ, List.getElem_cons_zero])
            (focus go_simp)
            (focus ((with_reducible refine (CDR.out _).mono ?_); rintro e wq17 ⟨rfl, bq17⟩; have hp17 := hp9.below bq17))
            (focus (try go_wp2_with fail))
            refine hK.out _ _ ?hs (fun hS0 => ?_)
            case hs => (first | with_reducible exact hp25.bw | with_reducible exact hp24.bw | with_reducible exact hp18.bw | with_reducible exact hp17.bw | with_reducible exact hp9.bw | with_reducible exact hp8.bw | with_reducible exact hp4.bw | with_reducible exact hp3.bw | with_reducible exact hS0)
            clear hK K
            (try simp only [Act.put, List.setIfInBounds_toArray, List.set_cons_zero, List.set_cons_succ, List.getElem_toArray, List.getElem_cons_succ, List.getElem_cons_zero])
            refine wpAnyJ_ready (rs := [18]) (by kernel_rfl) (by simp) ?_
            refine (AllReadyJ.cons rfl (fun K hK => ?_) AllReadyJ.nil)
            rw [if_pos (by kernel_rfl)]
            (try simp only [List.getElem_toArray, List.getElem_cons_succ, List.getElem_cons_zero])
            (focus go_simp)
            (focus ((with_reducible refine (C15.out _ hp17).mono ?_); rintro e wq18 ⟨rfl, hp18⟩))
            (focus (try go_wp2_with fail))
            refine hK.out _ _ ?hs (fun hS0 => ?_)
            case hs => (first | with_reducible exact hp25.bw | with_reducible exact hp24.bw | with_reducible exact hp18.bw | with_reducible exact hp17.bw | with_reducible exact hp9.bw | with_reducible exact hp8.bw | with_reducible exact hp4.bw | with_reducible exact hp3.bw | with_reducible exact hS0)
            clear hK K
            (try simp only [Act.put, List.setIfInBounds_toArray, List.set_cons_zero, List.set_cons_succ, List.getElem_toArray, List.getElem_cons_succ, List.getElem_cons_zero])
            refine wpAnyJ_ready (rs := [24]) (by kernel_rfl) (by simp) ?_
            refine (AllReadyJ.cons rfl (fun K hK => ?_) AllReadyJ.nil)
            rw [if_pos (by kernel_rfl)]
            (try simp only [List.getElem_toArray, List.getElem_cons_succ, List.getElem_cons_zero])
            (focus go_simp)
            (focus ((with_reducible refine (CDR.out _).mono ?_); rintro e wq24 ⟨rfl, bq24⟩; have hp24 := hp18.below bq24))
            (focus (try go_wp2_with fail))
            refine hK.out _ _ ?hs (fun hS0 => ?_)
            case hs => (first | with_reducible exact hp25.bw | with_reducible exact hp24.bw | with_reducible exact hp18.bw | with_reducible exact hp17.bw | with_reducible exact hp9.bw | with_reducible exact hp8.bw | with_reducible exact hp4.bw | with_reducible exact hp3.bw | with_reducible exact hS0)
            clear hK K
            (try simp only [Act.put, List.setIfInBounds_toArray, List.set_cons_zero, List.set_cons_succ, List.getElem_toArray, List.getElem_cons_succ, List.getElem_cons_zero])
            refine wpAnyJ_ready (rs := [25]) (by kernel_rfl) (by simp) ?_
            refine (AllReadyJ.cons rfl (fun K hK => ?_) AllReadyJ.nil)
            rw [if_pos (by kernel_rfl)]
            (try simp only [List.getElem_toArray, List.getElem_cons_succ, List.getElem_cons_zero])
            (focus go_simp)
            (focus ((with_reducible refine (C21.out _ hp24).mono ?_); rintro e wq25 ⟨rfl, hp25⟩))
            (focus (try go_wp2_with fail))
            refine hK.out _ _ ?hs (fun hS0 => ?_)
            case hs => (first | with_reducible exact hp25.bw | with_reducible exact hp24.bw | with_reducible exact hp18.bw | with_reducible exact hp17.bw | with_reducible exact hp9.bw | with_reducible exact hp8.bw | with_reducible exact hp4.bw | with_reducible exact hp3.bw | with_reducible exact hS0)
            clear hK K
            (try simp only [Act.put, List.setIfInBounds_toArray, List.set_cons_zero, List.set_cons_succ, List.getElem_toArray, List.getElem_cons_succ, List.getElem_cons_zero])
            refine wpAnyJ_takeG (i := 26) (oi := { dst := some 70 , op := Go.Op.binOp Go.BinOp.eql 32 ( Go.Operand.tmp 62 ) ( Go.Operand.tmp 69 ) 32 , type := 4 , pos := "law.go:114" , after := #[ { on := 18 , ground := Go.Ground.data } , { on := 25 , ground := Go.Ground.data } , { on := 11 , ground := Go.Ground.guard } ] , guard := some ( 11 , true ) }) (v := ?v26_48) hG hsel (by kernel_rfl) (by kernel_rfl) (by kernel_rfl) (by kernel_rfl) (fun _ _ _ h => h) (Or.inl (And.intro (by kernel_rfl) ?q26_48)) hS0 ?r26_48
            case q26_48 => intro w hx; refine run_env [62, 69] [?a26_48_62, ?a26_48_69] (by kernel_rfl) (by kernel_rfl) (⟨?e26_48_62, ?e26_48_69, trivial⟩) ?h26_48; (case e26_48_62 => ((conv => lhs; whnf); (try exact rfl))); (case e26_48_69 => ((conv => lhs; whnf); (try exact rfl))); (case h26_48 => ((try dsimp only); (try simp only [envL, lookV, if_true, if_false]); (try go_simp); (try with_reducible rfl)))
            (try simp only [Act.put, List.setIfInBounds_toArray, List.set_cons_zero, List.set_cons_succ, List.getElem_toArray, List.getElem_cons_succ, List.getElem_cons_zero])
            refine wpAnyJ_takeG (i := 27) (oi := { dst := some 71 , op := Go.Op.pick ( Go.Operand.tmp 55 ) ( Go.Operand.tmp 70 ) ( Go.Operand.const ( Go.Value.bool false ) ) , type := 4 , pos := "law.go:114" , after := #[ { on := 11 , ground := Go.Ground.data } , { on := 26 , ground := Go.Ground.data } ] , guard := none }) (v := ?v27_49) hG hsel (by kernel_rfl) (by kernel_rfl) (by kernel_rfl) (by kernel_rfl) (fun _ _ _ h => h) (Or.inl (And.intro (by kernel_rfl) ?q27_49)) hS0 ?r27_49
            case q27_49 => intro w hx; refine run_env [55, 70] [?a27_49_55, ?a27_49_70] (by kernel_rfl) (by kernel_rfl) (⟨?e27_49_55, ?e27_49_70, trivial⟩) ?h27_49; (case e27_49_55 => ((conv => lhs; whnf); (try exact rfl))); (case e27_49_70 => ((conv => lhs; whnf); (try exact rfl))); (case h27_49 => ((try dsimp only); (try simp only [envL, lookV, if_true, if_false]); (try go_simp); (try with_reducible rfl)))
            (try simp only [Act.put, List.setIfInBounds_toArray, List.set_cons_zero, List.set_cons_succ, List.getElem_toArray, List.getElem_cons_succ, List.getElem_cons_zero])
            refine wpAnyJ_takeG (i := 28) (oi := { dst := some 9 , op := Go.Op.assign ( Go.Operand.tmp 71 ) , type := 4 , pos := "law.go:114" , after := #[ { on := 27 , ground := Go.Ground.data } , { on := 25 , ground := Go.Ground.chain } , { on := 0 , ground := Go.Ground.phase } , { on := 1 , ground := Go.Ground.phase } , { on := 2 , ground := Go.Ground.phase } , { on := 3 , ground := Go.Ground.phase } , { on := 4 , ground := Go.Ground.phase } , { on := 5 , ground := Go.Ground.phase } , { on := 6 , ground := Go.Ground.phase } , { on := 7 , ground := Go.Ground.phase } , { on := 8 , ground := Go.Ground.phase } , { on := 9 , ground := Go.Ground.phase } , { on := 10 , ground := Go.Ground.phase } , { on := 11 , ground := Go.Ground.phase } , { on := 12 , ground := Go.Ground.phase } , { on := 13 , ground := Go.Ground.phase } , { on := 14 , ground := Go.Ground.phase } , { on := 15 , ground := Go.Ground.phase } , { on := 16 , ground := Go.Ground.phase } , { on := 17 , ground := Go.Ground.phase } , { on := 18 , ground := Go.Ground.phase } , { on := 19 , ground := Go.Ground.phase } , { on := 20 , ground := Go.Ground.phase } , { on := 21 , ground := Go.Ground.phase } , { on := 22 , ground := Go.Ground.phase } , { on := 23 , ground := Go.Ground.phase } , { on := 24 , ground := Go.Ground.phase } , { on := 25 , ground := Go.Ground.phase } , { on := 26 , ground := Go.Ground.phase } , { on := 27 , ground := Go.Ground.phase } ] , guard := none }) (v := ?v28_50) hG hsel (by kernel_rfl) (by kernel_rfl) (by kernel_rfl) (by kernel_rfl) (fun _ _ _ h => h) (Or.inl (And.intro (by kernel_rfl) ?q28_50)) hS0 ?r28_50
            case q28_50 => intro w hx; refine run_env [71] [?a28_50_71] (by kernel_rfl) (by kernel_rfl) (⟨?e28_50_71, trivial⟩) ?h28_50; (case e28_50_71 => ((conv => lhs; whnf); (try exact rfl))); (case h28_50 => ((try dsimp only); (try simp only [envL, lookV, if_true, if_false]); (try go_simp); (try with_reducible rfl)))
            (try simp only [Act.put, List.setIfInBounds_toArray, List.set_cons_zero, List.set_cons_succ, List.getElem_toArray, List.getElem_cons_succ, List.getElem_cons_zero])
            refine wpAnyJ_done (by kernel_rfl) ?_ _
          have HPE := hide hp25
          clear hp0 ow0 hp3 hp4 hp8 hp9 hp17 hp18 hp24 hp25
          have cal := fun W (h : PairO F wy B B' 151587081 167772160 8 L L W) => q_alike GL2.out d.draft DOK.out W h
          unfold Draft.cells Deed.draft at cal
          have CAL := hide cal
          clear cal
          go_wp2_with (go_at_call 33; (refine (CAL.out _ HPE.out).mono ?_); rintro e we ⟨rfl, hpz⟩; have HPZ := hide hpz; clear hpz)
          go_roundg (n - (kk + 1))
          case measure => omega
          case rel => exact ⟨kk + 1, B, L, by omega, by omega, rfl, by go_num, (show Aside _ from ⟨GL2.out, PairO.down HPZ.out HF.out BWY.out⟩)⟩
      · have hltz : ¬ (kk : Int) < (n : Int) := by omega
        have BW := hide HW.out.bw
        clear HW
        go_wp2_with (go_at_call 11; (with_reducible refine (CR.out _).mono ?_); rintro e w14 ⟨rfl, b14⟩)
        go_ret
        exact ⟨rfl, bstep BW.out b14⟩
end Go.Proofs.Ytbboajhdijabbaa
