/- udp.summed of one part. -/
import Derived.Test.YthmedjlecikbiaaUdpSum
set_option linter.unusedVariables false
namespace Go.Proofs.Ythmedjlecikbiaa
open Go.RowKit
attribute [local go_sem] Oper.semAt_some

/-- it returns a row of two texts -/
def Two (a b : ByteArray) (w : World) (e : Ending) (w' : World) : Prop := ∃ A' c', e = .returned (.slice A' 2 c') ∧ Row w' w'.heap.size A' 2 [.string a, .string b] ∧ Below w.heap.size w w'
set_option maxHeartbeats 1000000 in
theorem udp_summed (a b : Int) (p : ByteArray) (A : Option Addr) (c : Nat) (w : World) (hr : Row w w.heap.size A 1 [.string p]) (ha : 0 ≤ a ∧ a ≤ 4294967295) (hb : 0 ≤ b ∧ b ≤ 4294967295) (hp : p.size ≤ 140737488351232) :
    Calls Try.prog 23 #[.int .u32 a, .int .u32 b, .slice A 1 c] w (Two (S (pseudo a b 17 p.size)) p w) := by
  obtain ⟨bk, o, rfl, hbo, hc⟩ := hr.at_ (by omega)
  have hcell : w.cell? ⟨bk, o, none⟩ = some (.string p) := by have := hc 0 (.string p) rfl; simpa using this
  have HC := hide hcell
  clear hc
  go_enter Try.func23, Try.ntmps23
  go_wp2_with fail
  go_loopw [7, 13] (fun v i wr => ∃ k : Nat, k ≤ 1 ∧ i = .int .i64 k ∧ v = .int .i64 (if k = 0 then 0 else p.size) ∧ w = wr) (fun _ i _ => 1 - (intOf i).toNat)
  case atStart => exact ⟨0, by omega, rfl, rfl, rfl⟩
  case round =>
    obtain ⟨k, hk, rfl, rfl, rfl⟩ := hrel
    by_cases h0 : k = 0
    · subst h0
      rw [if_pos rfl]
      go_wp2_with fail
      go_roundw
      case rel => exact ⟨1, by omega, by go_num, v_int (by simp), trivial⟩
      case measure => simp [intOf]
    · obtain rfl : k = 1 := by omega
      rw [if_neg h0]
      have c1 := fun w => Put32 a w ha.1 ha.2
      have c2 := fun w => Put32 b w hb.1 hb.2
      have hl : ∀ x ∈ [17, (p.size : Int) % 65536], 0 ≤ x ∧ x ≤ 65535 := by
        intro x hx
        simp only [List.mem_cons, List.not_mem_nil, or_false] at hx
        rcases hx with rfl | rfl <;> omega
      have c3 := fun W => Word (some ⟨W.heap.size, 0, none⟩) 2 2 [17, (p.size : Int) % 65536] (W.alloc (.cells #[.int .u16 17, .int .u16 ((p.size : Int) % 65536)] 22)) (Row.freshAt W #[.int .u16 17, .int .u16 ((p.size : Int) % 65536)] 22 W.heap.size _ _ rfl rfl rfl) hl (by omega)
      obtain ⟨s1, e1⟩ : ∃ s, s = S (put32 a) := ⟨_, rfl⟩
      obtain ⟨s2, e2⟩ : ∃ s, s = S (put32 b) := ⟨_, rfl⟩
      obtain ⟨s3, e3⟩ : ∃ s, s = S (putW [17, (p.size : Int) % 65536]) := ⟨_, rfl⟩
      have z1 : s1.size = 4 := by rw [e1]; rfl
      have z2 : s2.size = 4 := by rw [e2]; rfl
      have z3 : s3.size = 4 := by rw [e3]; rfl
      have hend : s1 ++ s2 ++ s3 = S (pseudo a b 17 p.size) := by rw [e1, e2, e3, S_append, S_append]; rfl
      rw [← e1] at c1
      rw [← e2] at c2
      rw [← e3] at c3
      have C1 := hide c1; have C2 := hide c2; have C3 := hide c3; have HE := hide hend
      clear c1 c2 c3 hend e1 e2 e3 hl
      go_wp2_with fail
      refine (C1.out _).mono ?_
      rintro e w1 ⟨rfl, b1⟩
      go_wp2_with fail
      refine (C2.out _).mono ?_
      rintro e w2 ⟨rfl, b2⟩
      replace b2 := bstep b1 b2
      go_wp2_with fail
      refine (C3.out _).mono ?_
      rintro e w3 ⟨rfl, b3⟩
      replace b3 := bstep (bstep b2 (fresh_below _ _)) b3
      have infoStr : (Try.prog.info? 9).map (fun i => (i.zero, i.size, i.bytes)) = some (some (.string { data := #[] }), 1, 16) := by kernel_rfl
      obtain ⟨i0, hi, hz0, hz1, hz2⟩ := info_parts infoStr
      have hcw : (w3.alloc (.cells #[.string (s1 ++ s2 ++ s3)] 9)).cell? ⟨bk, o, none⟩ = some (.string p) := by
        have hk := bstep b3 (fresh_below w3 (.cells #[.string (s1 ++ s2 ++ s3)] 9))
        rw [hk.cell (p := ⟨bk, o, none⟩) hbo]; exact HC.out
      have HW := hide hcw
      clear hcw
      go_wp2_with (at_builtin; refine wpList_append_own _ rfl _ _ 53 rfl w.heap.size 9 i0 (.string { data := #[] }) 1 16 Try.underlying53 hi hz0 hz1 hz2 rfl (by decide) _ 1 [.string (s1 ++ s2 ++ s3)] rfl (owns_fresh w3 _ _ _ b3.size) ⟨bk, o, none⟩ 1 c [.string p] rfl rfl ?c1 ?c2 ?c3 ?c4 ?c5 ?_)
      case c1 =>
        intro j u hj
        match j, hj with
        | 0, hj => simp at hj; subst hj; simpa [Addr.add] using HW.out
      case c2 => intro u hu; simp at hu; subst hu; rfl
      case c3 => unfold maxLen; omega
      case c4 => omega
      case c5 => have := b3.size; simp; omega
      intro v' w4 hown hgrow _
      obtain ⟨A', c', rfl⟩ := owns_slice hown (by omega)
      have hrow := row_of_owns hown
      have hbel : Below w.heap.size w w4 := (bstep b3 (fresh_below w3 (.cells #[.string (s1 ++ s2 ++ s3)] 9))).grown hgrow (by have := b3.size; simp; omega) (fun k hk => by
        simp [Value.ownBlock] at hk; subst hk; exact b3.size)
      have HR := hide hrow
      clear hown hrow hgrow HW
      go_wp2
      go_ret
      refine ⟨A', c', rfl, ?_, hbel⟩
      have := HR.out
      rw [HE.out] at this
      simpa using this
end Go.Proofs.Ythmedjlecikbiaa
