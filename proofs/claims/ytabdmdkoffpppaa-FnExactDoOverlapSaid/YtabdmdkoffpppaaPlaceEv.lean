/- Placements copied, compared and measured. -/
import Derived.Test.YtabdmdkoffpppaaInts
import Derived.Test.YtabdmdkoffpppaaFx3
namespace Go.Proofs.Ytabdmdkoffpppaa.L
open Go.RowKit Go.Proofs.YtabdmdkoffpppaaW.PrintWords Go.Proofs.YtabdmdkoffpppaaW.PrintLast Go.Proofs.YtabdmdkoffpppaaW.PrintMore Go.Proofs.Ytabdmdkoffpppaa.F
set_option linter.unusedVariables false
set_option linter.unusedSimpArgs false
theorem toPlacement_ev (p : Int) (a : List Int) (ha : a.length ≤ 1048576) : Ev (fun k => laws_toPlacement.f k p a) (p, a) := by
  unfold laws_toPlacement.f
  exact Ev.bind (toInt64S_ev a ha) (Ev.now _)
theorem eqPlacement_ev (p : Int) (a : List Int) (ha : small a) : Ev (fun k => laws_eqPlacement.f k p a p a) true := by
  unfold laws_eqPlacement.f
  exact Ev.pos (by trivial) (Ev.bind (eqInt64S_ev a ha) (Ev.pos rfl (Ev.now _)))
theorem szPlacement_eq (p : Int) (a : List Int) (n : Int) (h0 : 0 ≤ n) (h1 : n ≤ 1048576) (ha : a.length ≤ 9223372036854775807) : laws_szPlacement.f p a n = some (if n - (a.length : Int) < 0 then -1 else n - (a.length : Int)) := by
  unfold laws_szPlacement.f
  rw [szInt64S_eq a n h0 h1 ha]
  simp only [Option.bind_some]
  by_cases h : n - (a.length : Int) < 0
  · simp only [h, if_true]; rfl
  · simp only [h, if_false]

end Go.Proofs.Ytabdmdkoffpppaa.L
