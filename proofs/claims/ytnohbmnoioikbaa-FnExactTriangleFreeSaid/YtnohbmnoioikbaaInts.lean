/- Lists of whole numbers: copied, compared, marked. -/
import Derived.Test.YtnohbmnoioikbaaCells
import Derived.Test.YtnohbmnoioikbaaFx8
namespace Go.Proofs.Ytnohbmnoioikbaa.L
open Go.RowKit Go.Proofs.YtnohbmnoioikbaaW.PrintWords Go.Proofs.YtnohbmnoioikbaaW.PrintLast Go.Proofs.YtnohbmnoioikbaaW.PrintMore Go.Proofs.Ytnohbmnoioikbaa.F
set_option linter.unusedVariables false
set_option linter.unusedSimpArgs false

theorem at_preI {xs pre suf : List Int} {c : Int} (h : xs = pre ++ c :: suf) : rd xs (pre.length : Int) = c := by
  subst h; exact getD_at pre suf c _
/-- The order of whole numbers as cmp.Compare tells it. -/
def cmpI (a b : Int) : Int := if a < b then -1 else if a > b then 1 else 0
theorem compare_eq (a b : Int) : cmp_Compare_int64.f a b = some (cmpI a b) := by
  unfold cmp_Compare_int64.f cmp_isNaN_int64.f cmpI
  simp only [bne_self_eq_false, Option.bind_some, Bool.false_eq_true, if_false]
  split
  · rfl
  · split <;> rfl
theorem cmpI_zero {a b : Int} : cmpI a b = 0 ↔ a = b := by
  unfold cmpI
  split
  · constructor <;> intro h <;> omega
  · split
    · constructor <;> intro h <;> omega
    · constructor <;> intro h <;> omega
end Go.Proofs.Ytnohbmnoioikbaa.L
