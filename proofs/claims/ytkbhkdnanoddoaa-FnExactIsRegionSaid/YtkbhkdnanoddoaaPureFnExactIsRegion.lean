/- Both sides answer alike on what a region is, and the argument stays. -/
import Derived.Test.YtkbhkdnanoddoaaShapes
import Derived.Test.YtkbhkdnanoddoaaFx22
namespace Go.Proofs.Ytkbhkdnanoddoaa.Pure
open Go.RowKit Go.Proofs.YtkbhkdnanoddoaaW.PrintWords Go.Proofs.Ytkbhkdnanoddoaa.F Go.Proofs.Ytkbhkdnanoddoaa.L
set_option linter.unusedVariables false

theorem FnExactIsRegion (l : List LCell) {V : LCell → Prop} (hv : l.length ≤ 9223372036854775807 ∧ ∀ a ∈ l, V a) : ∃ k, laws_FnExactIsRegion.f k l = some true := by
  refine Ev.rounds ?_
  unfold laws_FnExactIsRegion.f
  rw [szCellS_eq l 1048576 (by decide) (by decide) hv.1]
  simp only [Option.bind_some]
  by_cases h : (1048576 : Int) - (l.length : Int) < 0
  · rw [if_pos h]; exact Ev.pos (by decide) (Ev.now _)
  · rw [if_neg h]
    refine Ev.neg h ?_
    have la : l.length ≤ 1048576 := by omega
    have hs : small (l.map cellOf) := by unfold small; simp; omega
    refine Ev.bind (toCellS_ev l la) (Ev.bind (specIsRegion_ev _ hs) (Ev.bind (toCellS_ev l la) (Ev.bind (implIsRegion_ev _ hs) (Ev.neg (by simp) ?_))))
    exact Ev.bind (toCellS_ev l la) (Ev.bind (eqCellS_ev _ hs) (Ev.pos rfl (Ev.now _)))
end Go.Proofs.Ytkbhkdnanoddoaa.Pure
