/- The row of FnExactCountSolids, with what it needs: text 11 of 12. -/
import Derived.Test.YtlompfboheiliaaKCS9
set_option maxHeartbeats 8000000
set_option maxRecDepth 100000
section
namespace Go.Proofs.Ytlompfboheiliaa.L
open Go.RowKit Go.Proofs.YtlompfboheiliaaW.PrintWords Go.Proofs.YtlompfboheiliaaW.PrintLast Go.Proofs.YtlompfboheiliaaW.PrintMore Go.Proofs.Ytlompfboheiliaa.F
set_option linter.unusedVariables false
set_option linter.unusedSimpArgs false
theorem specCountQ_ev (a : Int) : Ev (fun k => spec_CountSolids.f k a) (cntQ a) := by
  unfold spec_CountSolids.f cntQ
  refine Ev.bind0 (inQ4 a 1 4) ?_
  by_cases h : 1 ≤ a ∧ a ≤ 4
  · obtain ⟨n, rfl⟩ : ∃ n : Nat, a = (n : Int) := ⟨a.toNat, by omega⟩
    rw [if_pos h]
    have hl := allQ_len n (by omega) (by omega)
    have h1 := allQ_h1 n (by omega) (by omega)
    exact Ev.pos (by simpa using h) (Ev.bind (specAllQ_ev n (by omega) (by omega)) (Ev.bind (specOwnQ_ev false _ (by omega) h1) (Ev.bind (specOwnQ_ev true _ (by omega) h1) (Ev.now _))))
  · rw [if_neg h]
    exact Ev.neg (by simpa using h) (Ev.now _)
theorem implCountQ_ev (a : Int) : Ev (fun k => impl_CountSolids.f k a) (cntQ a) := by
  unfold impl_CountSolids.f cntQ
  refine Ev.bind0 (withinQ4 a 1 4) ?_
  by_cases h : 1 ≤ a ∧ a ≤ 4
  · obtain ⟨n, rfl⟩ : ∃ n : Nat, a = (n : Int) := ⟨a.toNat, by omega⟩
    rw [if_pos h]
    have hl := allQ_len n (by omega) (by omega)
    have h1 := allQ_h2 n (by omega) (by omega)
    exact Ev.pos (by simpa using h) (Ev.bind (implAllQ_ev n (by omega) (by omega)) (Ev.bind (implOwnQ_ev false _ (by omega) h1 (keepQ_apart false n (by omega) (by omega))) (Ev.bind (implOwnQ_ev true _ (by omega) h1 (keepQ_apart true n (by omega) (by omega))) (Ev.now _))))
  · rw [if_neg h]
    exact Ev.neg (by simpa using h) (Ev.now _)
end Go.Proofs.Ytlompfboheiliaa.L
end
section
namespace Go.Proofs.Ytlompfboheiliaa.Pure
open Go.RowKit Go.Proofs.YtlompfboheiliaaW.PrintWords Go.Proofs.Ytlompfboheiliaa.F Go.Proofs.Ytlompfboheiliaa.L
set_option linter.unusedVariables false
theorem FnExactCountSolids (a0 : Int) (hv : (Lit.int .i64 a0).wf = true) : ∃ k, laws_FnExactCountSolids.f k a0 = some true := by
  refine Ev.rounds ?_
  unfold laws_FnExactCountSolids.f
  exact Ev.bind (specCountQ_ev a0) (Ev.bind (implCountQ_ev a0) (Ev.pos rfl (Ev.pos rfl (Ev.pos rfl (Ev.pos rfl (Ev.now _))))))
end Go.Proofs.Ytlompfboheiliaa.Pure
end
