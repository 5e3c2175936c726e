/- The six hexagons around. -/
import Derived.Test.YtkbhkdnanoddoaaBfs
import Derived.Test.YtkbhkdnanoddoaaFx13
import Derived.Test.YtkbhkdnanoddoaaFx38
namespace Go.Proofs.Ytkbhkdnanoddoaa.L
open Go.RowKit Go.Proofs.YtkbhkdnanoddoaaW.PrintWords Go.Proofs.Ytkbhkdnanoddoaa.F
set_option linter.unusedVariables false
def hexC (c : Cell) : List Cell := [⟨c.f0, wrap64 (c.f1 - 1)⟩, ⟨wrap64 (c.f0 + 1), wrap64 (c.f1 - 1)⟩, ⟨wrap64 (c.f0 - 1), c.f1⟩, ⟨wrap64 (c.f0 + 1), c.f1⟩, ⟨wrap64 (c.f0 - 1), wrap64 (c.f1 + 1)⟩, ⟨c.f0, wrap64 (c.f1 + 1)⟩]
theorem implHex_eq (c : Cell) : impl_hexAround.f c.f0 c.f1 = some (hexC c) := rfl
theorem specHex_eq (c : Cell) : spec_l07Around.f 1 c.f0 c.f1 = some (hexC c) := rfl
theorem hexC_len (c : Cell) : (hexC c).length ≤ 16 := by simp [hexC]
theorem hexC_wf {c : Cell} (h : wfC c = true) : ∀ d ∈ hexC c, wfC d = true := by
  unfold wfC at h
  rw [Bool.and_eq_true] at h
  intro d hd
  simp only [hexC, List.mem_cons, List.not_mem_nil, or_false] at hd
  rcases hd with rfl | rfl | rfl | rfl | rfl | rfl <;> simp [wfC, h.1, h.2, wf_wrap]
end Go.Proofs.Ytkbhkdnanoddoaa.L
