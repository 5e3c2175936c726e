/- Triangles. -/
import Derived.Test.YtnohbmnoioikbaaCells
import Derived.Test.YtnohbmnoioikbaaFx12
import Derived.Test.YtnohbmnoioikbaaFx17
import Derived.Test.YtnohbmnoioikbaaFx18
import Derived.Test.YtnohbmnoioikbaaFx5
namespace Go.Proofs.Ytnohbmnoioikbaa.L
open Go.RowKit Go.Proofs.YtnohbmnoioikbaaW.PrintWords Go.Proofs.YtnohbmnoioikbaaW.PrintLast Go.Proofs.YtnohbmnoioikbaaW.PrintMore Go.Proofs.Ytnohbmnoioikbaa.F
set_option linter.unusedVariables false
set_option linter.unusedSimpArgs false
theorem l01Mod3 (a : Int) : spec_l01Mod.f a 3 = some (a % 3) := by
  unfold spec_l01Mod.f
  rw [if_neg (by decide), mod_eq a 3 (by decide) (by decide)]
theorem modOf3 (a : Int) : impl_modOf.f a 3 = some (a % 3) := by
  unfold impl_modOf.f
  rw [if_neg (by decide), mod_eq a 3 (by decide) (by decide)]
theorem l07Is_eq (x y : Int) : spec_l07Is.f 0 x y = some (decide (x % 3 = y % 3 ∧ x % 3 ≠ 0)) := by
  unfold spec_l07Is.f
  rw [if_neg (by decide)]
  simp only [l01Mod3, Option.bind_some]
  by_cases h : x % 3 = y % 3
  · rw [if_pos h]; simp [h]; rfl
  · rw [if_neg h]; simp [h]
theorem isTriangle_eq (x y : Int) : impl_isTriangle.f x y = some (decide (x % 3 = y % 3 ∧ x % 3 ≠ 0)) := by
  unfold impl_isTriangle.f
  simp only [modOf3, Option.bind_some]
  by_cases h : x % 3 = 0
  · rw [if_pos h]; simp [h]
  · rw [if_neg h]
    by_cases h' : x % 3 = y % 3 <;> simp [h, h']
    omega
def triX (c : Cell) : Prop := c.f0 % 3 = c.f1 % 3 ∧ c.f0 % 3 ≠ 0
instance (c : Cell) : Decidable (triX c) := by unfold triX; infer_instance
end Go.Proofs.Ytnohbmnoioikbaa.L
