/- Both sides answer alike on the least form of a solid. -/
import Derived.Test.YthgkgimjepbegaaCubeLeast
import Derived.Test.YthgkgimjepbegaaFx22
namespace Go.Proofs.Ythgkgimjepbegaa.Pure
open Go.RowKit Go.Proofs.YthgkgimjepbegaaW.PrintWords Go.Proofs.Ythgkgimjepbegaa.F Go.Proofs.Ythgkgimjepbegaa.L
set_option linter.unusedVariables false

theorem FnExactLeastForm (l : List LCube) (b : Bool) {V : LCube → Prop} (hv : l.length ≤ 9223372036854775807 ∧ ∀ a ∈ l, V a) : ∃ k, laws_FnExactLeastForm.f k l b = some true := by
  refine Ev.rounds ?_
  unfold laws_FnExactLeastForm.f
  rw [szCubeS_eq l 1048576 (by decide) (by decide) hv.1]
  simp only [Option.bind_some]
  by_cases h : (1048576 : Int) - (l.length : Int) < 0
  · rw [if_pos h]; exact Ev.pos (by decide) (Ev.now _)
  · rw [if_neg h]
    refine Ev.neg h ?_
    have la : l.length ≤ 1048576 := by omega
    have lm : (l.map cubeOf).length ≤ 1048576 := by simpa using la
    have hs : small (l.map cubeOf) := by unfold small; omega
    have hf : fits (l.map cubeOf) := lm
    have hb := leastR_len (l.map cubeOf) b
    have hbs : small (leastR (l.map cubeOf) b).1 := by unfold small; omega
    have hbf : fits (leastR (l.map cubeOf) b).1 := by unfold fits; omega
    refine Ev.bind (toCubeS_ev l la) (Ev.bind (specLeastR_ev _ b lm) (Ev.bind (toCubeS_ev l la) (Ev.bind (implLeastR_ev _ b lm) (Ev.bind (eqCubeS_ev _ hbs) (Ev.pos rfl ?_)))))
    refine Ev.step (fun k => laws_FnExactLeastForm.j0.eq_2 _ _ _ _ _ _ _ _ _) (Ev.neg (by simp) ?_)
    refine Ev.bind (toCubeS_ev l la) (Ev.bind (eqCubeS_ev _ hs) (Ev.pos rfl (Ev.bind (markCubeS_from _ 1 (by decide) (by decide) hf) (Ev.neg (by simp; omega) (Ev.bind (eqCubeS_ev _ hbs) (Ev.pos rfl ?_))))))
    refine Ev.step (fun k => laws_FnExactLeastForm.j1.eq_2 _ _ _ _ _ _ _) (Ev.neg (by simp) ?_)
    refine Ev.bind (markCubeS_from _ 1 (by decide) (by decide) hbf) (Ev.bind (heldCubeS_from 1 _ (by decide) (by decide) hbf) (Ev.neg (by omega) (Ev.pos rfl ?_)))
    refine Ev.bind (toCubeS_ev l la) (Ev.bind (implLeastR_ev _ b lm) (Ev.bind (eqCubeS_ev _ hbs) (Ev.pos rfl ?_)))
    refine Ev.step (fun k => laws_FnExactLeastForm.j2.eq_2 _ _ _ _) (Ev.neg (by simp) ?_)
    exact Ev.bind (heldCubeS_from 1 _ (by decide) (by decide) hbf) (Ev.neg (by omega) (Ev.pos rfl (Ev.now _)))
end Go.Proofs.Ythgkgimjepbegaa.Pure
