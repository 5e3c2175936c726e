/- Lists of whole numbers: copied, compared, marked. -/
import Derived.Test.YtabdmdkoffpppaaCells
import Derived.Test.YtabdmdkoffpppaaFx10
import Derived.Test.YtabdmdkoffpppaaFx3
import Derived.Test.YtabdmdkoffpppaaFx5
import Derived.Test.YtabdmdkoffpppaaFx7
namespace Go.Proofs.Ytabdmdkoffpppaa.L
open Go.RowKit Go.Proofs.YtabdmdkoffpppaaW.PrintWords Go.Proofs.YtabdmdkoffpppaaW.PrintLast Go.Proofs.YtabdmdkoffpppaaW.PrintMore Go.Proofs.Ytabdmdkoffpppaa.F
set_option linter.unusedVariables false
set_option linter.unusedSimpArgs false

theorem at_preI {xs pre suf : List Int} {c : Int} (h : xs = pre ++ c :: suf) : rd xs (pre.length : Int) = c := by
  subst h; exact getD_at pre suf c _
theorem eqInt64S_ev (a : List Int) (ha : small a) : Ev (fun k => laws_eqInt64S.f k a a) true := by
  unfold laws_eqInt64S.f
  refine Ev.pos rfl ?_
  refine loop_list a (fun k i (_ : Unit) => laws_eqInt64S.l0 k a a i) (fun _ _ _ => true) (fun _ _ => True) ?_ ?_ () trivial
  · intro _ _
    simp only [laws_eqInt64S.l0, len_lt, if_false]
    exact Ev.now _
  · intro pre c suf _ hx _ ih
    simp only [laws_eqInt64S.l0, pre_lt hx, pre_0, if_true, at_preI hx, pre_w hx ha]
    exact ih () trivial
theorem toInt64S_ev (a : List Int) (ha : a.length ≤ 1048576) : Ev (fun k => laws_toInt64S.f k a) a := by
  have hs : small a := by unfold small; omega
  unfold laws_toInt64S.f
  refine Ev.pos (by omega) (Ev.pos (by omega) ?_)
  have := loop_list a (fun k i (s : List Int) => laws_toInt64S.l0 k a s i) (fun _ suf s => s.take (a.length - suf.length) ++ suf) (fun pre s => s.length = a.length) ?_ ?_ (List.replicate a.length 0) (by simp)
  · refine Ev.of_eq this ?_
    simp
  · intro s hl
    simp only [laws_toInt64S.l0, len_lt, if_false]
    refine Ev.of_eq (Ev.now _) ?_
    simp [List.take_of_length_le, hl]
  · intro pre c suf s hx hl ih
    have hlt : ((pre.length : Int) < (s.length : Int)) = True := by rw [hl]; exact pre_lt hx
    simp only [laws_toInt64S.l0, pre_lt hx, pre_0, if_true, at_preI hx, hlt, pre_w hx hs]
    refine Ev.of_eq (ih (s.set (pre.length : Int).toNat c) (by simpa using hl)) ?_
    have hn : a.length = pre.length + (suf.length + 1) := by rw [hx]; simp
    have e1 : a.length - suf.length = pre.length + 1 := by omega
    have e2 : a.length - (c :: suf).length = pre.length := by simp; omega
    rw [e1, e2, Int.toNat_natCast, List.take_add_one, List.getElem?_set_self (by omega), List.take_set_of_le (Nat.le_refl _)]
    simp
theorem szInt64S_eq (a : List Int) (n : Int) (h0 : 0 ≤ n) (h1 : n ≤ 1048576) (ha : a.length ≤ 9223372036854775807) : laws_szInt64S.f a n = some (if n - (a.length : Int) < 0 then -1 else n - (a.length : Int)) := by
  unfold laws_szInt64S.f
  rw [w64 (by omega) (by omega)]
  split <;> rfl
/-- The order of whole numbers as cmp.Compare tells it. -/
def cmpI (a b : Int) : Int := if a < b then -1 else if a > b then 1 else 0
theorem compare_eq (a b : Int) : cmp_Compare_int64.f a b = some (cmpI a b) := by
  unfold cmp_Compare_int64.f cmp_isNaN_int64.f cmpI
  simp only [bne_self_eq_false, Option.bind_some, Bool.false_eq_true, if_false]
  split
  · rfl
  · split <;> rfl
theorem cmpI_zero {a b : Int} : cmpI a b = 0 ↔ a = b := by
  unfold cmpI
  split
  · constructor <;> intro h <;> omega
  · split
    · constructor <;> intro h <;> omega
    · constructor <;> intro h <;> omega
end Go.Proofs.Ytabdmdkoffpppaa.L
