/- Triangles. -/
import Derived.Test.YteelofmecchmcaaCells
import Derived.Test.YteelofmecchmcaaFx2
import Derived.Test.YteelofmecchmcaaFx3
import Derived.Test.YteelofmecchmcaaFx4
import Derived.Test.YteelofmecchmcaaFx7
import Derived.Test.YteelofmecchmcaaFx8
namespace Go.Proofs.Yteelofmecchmcaa.L
open Go.RowKit Go.Proofs.YteelofmecchmcaaW.PrintWords Go.Proofs.YteelofmecchmcaaW.PrintLast Go.Proofs.YteelofmecchmcaaW.PrintMore Go.Proofs.Yteelofmecchmcaa.F
set_option linter.unusedVariables false
set_option linter.unusedSimpArgs false
theorem l01Mod3 (a : Int) : spec_l01Mod.f a 3 = some (a % 3) := by
  unfold spec_l01Mod.f
  rw [if_neg (by decide), mod_eq a 3 (by decide) (by decide)]
theorem modOf3 (a : Int) : impl_modOf.f a 3 = some (a % 3) := by
  unfold impl_modOf.f
  rw [if_neg (by decide), mod_eq a 3 (by decide) (by decide)]
theorem l07Is_eq (x y : Int) : spec_l07Is.f 0 x y = some (decide (x % 3 = y % 3 ∧ x % 3 ≠ 0)) := by
  unfold spec_l07Is.f
  rw [if_neg (by decide)]
  simp only [l01Mod3, Option.bind_some]
  by_cases h : x % 3 = y % 3
  · rw [if_pos h]; simp [h]; rfl
  · rw [if_neg h]; simp [h]
theorem isTriangle_eq (x y : Int) : impl_isTriangle.f x y = some (decide (x % 3 = y % 3 ∧ x % 3 ≠ 0)) := by
  unfold impl_isTriangle.f
  simp only [modOf3, Option.bind_some]
  by_cases h : x % 3 = 0
  · rw [if_pos h]; simp [h]
  · rw [if_neg h]
    by_cases h' : x % 3 = y % 3 <;> simp [h, h']
    omega
theorem specIsTriangle_eq (x y : Int) : spec_IsTriangle.f x y = some (decide ((ok1 x ∧ ok1 y) ∧ (x % 3 = y % 3 ∧ x % 3 ≠ 0))) := by
  unfold spec_IsTriangle.f
  simp only [l02Cell_eq, l07Is_eq, Option.bind_some]
  by_cases h : ok1 x ∧ ok1 y <;> simp [h]
theorem implIsTriangle_eq (x y : Int) : impl_IsTriangle.f x y = some (decide ((ok1 x ∧ ok1 y) ∧ (x % 3 = y % 3 ∧ x % 3 ≠ 0))) := by
  unfold impl_IsTriangle.f
  simp only [isCoordinate_eq, isTriangle_eq, Option.bind_some]
  by_cases h : ok1 x <;> by_cases h' : ok1 y <;> simp [h, h']
def triX (c : Cell) : Prop := c.f0 % 3 = c.f1 % 3 ∧ c.f0 % 3 ≠ 0
instance (c : Cell) : Decidable (triX c) := by unfold triX; infer_instance
end Go.Proofs.Yteelofmecchmcaa.L
