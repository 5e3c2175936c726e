/- The three triangles around. -/
import Derived.Test.YteelofmecchmcaaTri
import Derived.Test.YteelofmecchmcaaSortC
import Derived.Test.YteelofmecchmcaaFx2
import Derived.Test.YteelofmecchmcaaFx5
import Derived.Test.YteelofmecchmcaaFx9
namespace Go.Proofs.Yteelofmecchmcaa.L
open Go.RowKit Go.Proofs.YteelofmecchmcaaW.PrintWords Go.Proofs.YteelofmecchmcaaW.PrintLast Go.Proofs.YteelofmecchmcaaW.PrintMore Go.Proofs.Yteelofmecchmcaa.F
set_option linter.unusedVariables false
set_option linter.unusedSimpArgs false
def triRaw (c : Cell) : List Cell := if c.f0 % 3 = 2 then [⟨wrap64 (c.f0 + (-1)), wrap64 (c.f1 + (-1))⟩, ⟨wrap64 (c.f0 - (2 * (-1))), wrap64 (c.f1 + (-1))⟩, ⟨wrap64 (c.f0 + (-1)), wrap64 (c.f1 - (2 * (-1)))⟩]
  else [⟨wrap64 (c.f0 + 1), wrap64 (c.f1 + 1)⟩, ⟨wrap64 (c.f0 - (2 * 1)), wrap64 (c.f1 + 1)⟩, ⟨wrap64 (c.f0 + 1), wrap64 (c.f1 - (2 * 1))⟩]
def triC (c : Cell) : List Cell := sortC (triRaw c)
theorem triRaw_len (c : Cell) : (triRaw c).length = 3 := by unfold triRaw; split <;> rfl
theorem triC_len (c : Cell) : (triC c).length ≤ 16 := by unfold triC; rw [sortC_len, triRaw_len]; omega
theorem implTri_eq (c : Cell) : impl_trianglesAround.f c.f0 c.f1 = some (triC c) := by
  unfold impl_trianglesAround.f triC triRaw
  simp only [modOf3, Option.bind_some]
  by_cases h : c.f0 % 3 = 2
  · rw [if_pos h, if_pos h, implSorted_eq _ (by simp) (by simp)]; rfl
  · rw [if_neg h, if_neg h, implSorted_eq _ (by simp) (by simp)]; rfl
theorem specTri_eq {c : Cell} (h : okC c) (ht : triX c) : spec_l07Around.f 0 c.f0 c.f1 = some (triC c) := by
  unfold spec_l07Around.f
  rw [if_neg (by decide)]
  simp only [l01Mod3, Option.bind_some]
  unfold okC ok1 at h
  unfold triX at ht
  have w (n : Int) (h0 : -1000 ≤ n) (h1 : n ≤ 1000) : wrap64 n = n := w64 (by omega) (by omega)
  by_cases h1 : c.f0 % 3 = 1
  · rw [if_pos h1]
    congr 1
    symm
    refine sortC_eq ?_ ?_
    · unfold triRaw
      rw [if_neg (by omega), w (c.f0 + 1) (by omega) (by omega), w (c.f1 - 2) (by omega) (by omega), w (c.f0 - 2) (by omega) (by omega), w (c.f1 + 1) (by omega) (by omega), w (c.f0 - 2 * 1) (by omega) (by omega), w (c.f1 - 2 * 1) (by omega) (by omega)]
      exact List.reverse_perm [(⟨c.f0 + 1, c.f1 + 1⟩ : Cell), ⟨c.f0 - 2, c.f1 + 1⟩, ⟨c.f0 + 1, c.f1 - 2⟩]
    · rw [w (c.f0 + 1) (by omega) (by omega), w (c.f1 - 2) (by omega) (by omega), w (c.f0 - 2) (by omega) (by omega), w (c.f1 + 1) (by omega) (by omega)]
      simp only [List.pairwise_cons, List.mem_cons, List.not_mem_nil, or_false, forall_eq_or_imp, forall_eq, false_implies, implies_true, List.Pairwise.nil, and_true, ltC]
      omega
  · rw [if_neg h1]
    congr 1
    symm
    refine sortC_eq ?_ ?_
    · unfold triRaw
      rw [if_pos (by omega), w (c.f0 - 1) (by omega) (by omega), w (c.f1 - 1) (by omega) (by omega), w (c.f0 + 2) (by omega) (by omega), w (c.f1 + 2) (by omega) (by omega), w (c.f0 + -1) (by omega) (by omega), w (c.f1 + -1) (by omega) (by omega), w (c.f0 - 2 * -1) (by omega) (by omega), w (c.f1 - 2 * -1) (by omega) (by omega)]
      have e1 : c.f0 + -1 = c.f0 - 1 := by omega
      have e2 : c.f1 + -1 = c.f1 - 1 := by omega
      have e3 : c.f0 - 2 * -1 = c.f0 + 2 := by omega
      have e4 : c.f1 - 2 * -1 = c.f1 + 2 := by omega
      rw [e1, e2, e3, e4]
    · rw [w (c.f0 - 1) (by omega) (by omega), w (c.f1 - 1) (by omega) (by omega), w (c.f0 + 2) (by omega) (by omega), w (c.f1 + 2) (by omega) (by omega)]
      simp only [List.pairwise_cons, List.mem_cons, List.not_mem_nil, or_false, forall_eq_or_imp, forall_eq, false_implies, implies_true, List.Pairwise.nil, and_true, ltC]
      omega
end Go.Proofs.Yteelofmecchmcaa.L
