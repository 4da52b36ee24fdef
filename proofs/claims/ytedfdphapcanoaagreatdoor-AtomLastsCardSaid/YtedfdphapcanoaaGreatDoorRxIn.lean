/- Events: rows that came in. -/
import Derived.Test.YtedfdphapcanoaaGreatDoorRxG
import Derived.KernelRfl
set_option linter.unusedVariables false
namespace Go.Proofs.YtedfdphapcanoaaGreatDoor
open Go.RowKit Go.Lib
namespace Rx
theorem at_in {P : Program} {T e : TypeId} {b o n c s : Nat} {k : IntKind} {i : Nat} (hu : P.underlying T = some (.slice e)) (hs : pureRun P (sizeOf e) = some s) (h : i < n) (W : World) :
    ((Instr.indexAt T (.slice (some ⟨b, o, none⟩) n c) (.int k (i : Int))) >>= fun v => (pure (Next.value v) : Sem Next)).run P W = .ok (.value (.pointer (some ⟨b, o + i * s, none⟩))) W := by
  have h1 : (Instr.indexAt T (.slice (some ⟨b, o, none⟩) n c) (.int k (i : Int))).run P W = .ok (.pointer (some ⟨b, o + i * s, none⟩)) W := by
    unfold Instr.indexAt
    rw [run_bind_ok (show (asIntOf (.int k (i : Int))).run P W = .ok (k, (i : Int)) W from rfl), run_bind_ok (run_underlying hu W)]
    have hs' := pureRun_run W _ _ hs
    simp only [run_underlying hu, Sem.run_bind, Result.andThen_ok]
    simp [hs', h, Addr.add]
  rw [run_bind_ok h1]
  rfl
theorem ld_in {P : Program} {T : TypeId} {a : Addr} {v : Value} {W : World} (ha : pureRun P (isAgg T) = some false) (hc : W.cell? a = some v) : ((Instr.loadAt T (.pointer (some a))) >>= fun v => (pure (Next.value v) : Sem Next)).run P W = .ok (.value v) W := by
  have h1 : (Instr.loadAt T (.pointer (some a))).run P W = .ok v W := by
    have ha' := pureRun_run W _ _ ha
    show (loadVar T a).run P W = _
    unfold loadVar
    rw [run_bind_ok ha']
    simp only [Bool.false_eq_true, if_false]
    simp [load, Sem.run, hc]
  rw [run_bind_ok h1]
  rfl
end Rx
end Go.Proofs.YtedfdphapcanoaaGreatDoor
