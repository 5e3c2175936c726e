/- What holds of the four cells around. -/
import Derived.Test.YtpjioedfiigefaaAround
import Derived.Test.YtpjioedfiigefaaBfs
import Derived.Test.YtpjioedfiigefaaFx27
namespace Go.Proofs.Ytpjioedfiigefaa.L
open Go.RowKit Go.Proofs.YtpjioedfiigefaaW.PrintWords Go.Proofs.Ytpjioedfiigefaa.F
set_option linter.unusedVariables false
theorem aroundC_len (c : Cell) : (aroundC c).length ≤ 16 := by simp [aroundC]
theorem aroundC_wf {c : Cell} (h : wfC c = true) : ∀ d ∈ aroundC c, wfC d = true := by
  unfold wfC at h
  rw [Bool.and_eq_true] at h
  intro d hd
  simp only [aroundC, List.mem_cons, List.not_mem_nil, or_false] at hd
  rcases hd with rfl | rfl | rfl | rfl <;> simp [wfC, h.1, h.2, wf_wrap]
end Go.Proofs.Ytpjioedfiigefaa.L
