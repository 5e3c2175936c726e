/- Both sides answer alike on what a triangle is. -/
import Derived.Test.YtkbhkdnanoddoaaCells
import Derived.Test.YtkbhkdnanoddoaaFx3
import Derived.Test.YtkbhkdnanoddoaaFx4
namespace Go.Proofs.Ytkbhkdnanoddoaa.Pure
open Go.RowKit Go.Proofs.YtkbhkdnanoddoaaW.PrintWords Go.Proofs.Ytkbhkdnanoddoaa.F Go.Proofs.Ytkbhkdnanoddoaa.L
set_option linter.unusedVariables false

theorem l01Mod3 (a : Int) : spec_l01Mod.f a 3 = some (a % 3) := by
  unfold spec_l01Mod.f
  rw [if_neg (by decide), mod_eq a 3 (by decide) (by decide)]
theorem modOf3 (a : Int) : impl_modOf.f a 3 = some (a % 3) := by
  unfold impl_modOf.f
  rw [if_neg (by decide), mod_eq a 3 (by decide) (by decide)]
theorem l07Is_eq (x y : Int) : spec_l07Is.f 0 x y = some (decide (x % 3 = y % 3 ∧ x % 3 ≠ 0)) := by
  unfold spec_l07Is.f
  rw [if_neg (by decide)]
  simp only [l01Mod3, Option.bind_some]
  by_cases h : x % 3 = y % 3
  · rw [if_pos h]; simp [h]; rfl
  · rw [if_neg h]; simp [h]
theorem isTriangle_eq (x y : Int) : impl_isTriangle.f x y = some (decide (x % 3 = y % 3 ∧ x % 3 ≠ 0)) := by
  unfold impl_isTriangle.f
  simp only [modOf3, Option.bind_some]
  by_cases h : x % 3 = 0
  · rw [if_pos h]; simp [h]
  · rw [if_neg h]
    by_cases h' : x % 3 = y % 3 <;> simp [h, h']
    omega
theorem specIsTriangle_eq (x y : Int) : spec_IsTriangle.f x y = some (decide ((ok1 x ∧ ok1 y) ∧ (x % 3 = y % 3 ∧ x % 3 ≠ 0))) := by
  unfold spec_IsTriangle.f
  simp only [l02Cell_eq, l07Is_eq, Option.bind_some]
  by_cases h : ok1 x ∧ ok1 y <;> simp [h]
theorem implIsTriangle_eq (x y : Int) : impl_IsTriangle.f x y = some (decide ((ok1 x ∧ ok1 y) ∧ (x % 3 = y % 3 ∧ x % 3 ≠ 0))) := by
  unfold impl_IsTriangle.f
  simp only [isCoordinate_eq, isTriangle_eq, Option.bind_some]
  by_cases h : ok1 x <;> by_cases h' : ok1 y <;> simp [h, h']

theorem FnExactIsTriangle (x y : Int) {V : Prop} (_ : V) : laws_FnExactIsTriangle.f x y = some true := by
  unfold laws_FnExactIsTriangle.f
  simp only [toCell_eq, specIsTriangle_eq, implIsTriangle_eq, Option.bind_some]
  simp
end Go.Proofs.Ytkbhkdnanoddoaa.Pure
