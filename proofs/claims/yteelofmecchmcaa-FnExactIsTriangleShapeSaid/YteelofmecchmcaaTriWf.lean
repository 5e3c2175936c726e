/- The three triangles around are values of the type. -/
import Derived.Test.YteelofmecchmcaaTriNb
import Derived.Test.YteelofmecchmcaaBfs
import Derived.Test.YteelofmecchmcaaFx20
namespace Go.Proofs.Yteelofmecchmcaa.L
open Go.RowKit Go.Proofs.YteelofmecchmcaaW.PrintWords Go.Proofs.Yteelofmecchmcaa.F
set_option linter.unusedVariables false
theorem triC_wf {c : Cell} (h : wfC c = true) : ∀ d ∈ triC c, wfC d = true := by
  intro d hd
  unfold triC at hd
  rw [sortC_mem] at hd
  unfold triRaw at hd
  split at hd <;> simp only [List.mem_cons, List.not_mem_nil, or_false] at hd <;> rcases hd with rfl | rfl | rfl <;> simp [wfC, wf_wrap]
end Go.Proofs.Yteelofmecchmcaa.L
