/- Lists of whole numbers: copied, compared, marked. -/
import Derived.Test.YthgkgimjepbegaaCells
import Derived.Test.YthgkgimjepbegaaFx17
import Derived.Test.YthgkgimjepbegaaFx5
namespace Go.Proofs.Ythgkgimjepbegaa.L
open Go.RowKit Go.Proofs.YthgkgimjepbegaaW.PrintWords Go.Proofs.YthgkgimjepbegaaW.PrintLast Go.Proofs.YthgkgimjepbegaaW.PrintMore Go.Proofs.Ythgkgimjepbegaa.F
set_option linter.unusedVariables false
set_option linter.unusedSimpArgs false

theorem at_preI {xs pre suf : List Int} {c : Int} (h : xs = pre ++ c :: suf) : rd xs (pre.length : Int) = c := by
  subst h; exact getD_at pre suf c _
theorem eqInt64S_ev (a : List Int) (ha : small a) : Ev (fun k => laws_eqInt64S.f k a a) true := by
  unfold laws_eqInt64S.f
  refine Ev.pos rfl ?_
  refine loop_list a (fun k i (_ : Unit) => laws_eqInt64S.l0 k a a i) (fun _ _ _ => true) (fun _ _ => True) ?_ ?_ () trivial
  · intro _ _
    simp only [laws_eqInt64S.l0, len_lt, if_false]
    exact Ev.now _
  · intro pre c suf _ hx _ ih
    simp only [laws_eqInt64S.l0, pre_lt hx, pre_0, if_true, at_preI hx, pre_w hx ha]
    exact ih () trivial
/-- The order of whole numbers as cmp.Compare tells it. -/
def cmpI (a b : Int) : Int := if a < b then -1 else if a > b then 1 else 0
theorem compare_eq (a b : Int) : cmp_Compare_int64.f a b = some (cmpI a b) := by
  unfold cmp_Compare_int64.f cmp_isNaN_int64.f cmpI
  simp only [bne_self_eq_false, Option.bind_some, Bool.false_eq_true, if_false]
  split
  · rfl
  · split <;> rfl
theorem cmpI_zero {a b : Int} : cmpI a b = 0 ↔ a = b := by
  unfold cmpI
  split
  · constructor <;> intro h <;> omega
  · split
    · constructor <;> intro h <;> omega
    · constructor <;> intro h <;> omega
end Go.Proofs.Ythgkgimjepbegaa.L
