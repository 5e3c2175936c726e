/- Both sides answer alike, and the arguments stay. -/
import Derived.Test.YtpjioedfiigefaaRises
import Derived.Test.YtpjioedfiigefaaMarkI
import Derived.Test.YtpjioedfiigefaaFx41
namespace Go.Proofs.Ytpjioedfiigefaa.Pure
open Go.RowKit Go.Proofs.YtpjioedfiigefaaW.PrintWords Go.Proofs.Ytpjioedfiigefaa.F Go.Proofs.Ytpjioedfiigefaa.L
set_option linter.unusedVariables false

theorem FnExactCutRegion (l : List LCell) (s : List Int) {V : LCell → Prop} {V' : Int → Prop} (hv : l.length ≤ 9223372036854775807 ∧ ∀ a ∈ l, V a) (hv' : s.length ≤ 9223372036854775807 ∧ ∀ a ∈ s, V' a) : ∃ k, laws_FnExactCutRegion.f k l s = some true := by
  refine Ev.rounds ?_
  unfold laws_FnExactCutRegion.f
  by_cases hg : (s.length : Int) > 1048576
  · exact Ev.pos hg (Ev.now _)
  refine Ev.neg hg ?_
  rw [szCellS_eq l 1048576 (by decide) (by decide) hv.1]
  simp only [Option.bind_some]
  by_cases h : (1048576 : Int) - (l.length : Int) < 0
  · rw [if_pos h]; exact Ev.pos (by decide) (Ev.now _)
  · rw [if_neg h]
    refine Ev.neg h ?_
    have la : l.length ≤ 1048576 := by omega
    have lm : (l.map cellOf).length ≤ 1048576 := by simpa using la
    have hs : small (l.map cellOf) := by unfold small; omega
    have hf : fits (l.map cellOf) := lm
    have sa : s.length ≤ 1048576 := by omega
    have ss : small s := by unfold small; omega
    have sf : fits s := sa
    have hb := cutR_len (l.map cellOf) s
    have hbs : small (cutR (l.map cellOf) s).1 := by unfold small; omega
    have hbf : fits (cutR (l.map cellOf) s).1 := by unfold fits; omega
    refine Ev.bind (toCellS_ev l la) (Ev.bind (toInt64S_ev s sa) (Ev.bind (specCut_ev _ _ lm sa) (Ev.bind (toCellS_ev l la) (Ev.bind (toInt64S_ev s sa) (Ev.bind (implCut_ev _ _ lm sa) (Ev.bind (eqCellS_ev _ hbs) (Ev.pos rfl ?_)))))))
    refine Ev.step (fun k => laws_FnExactCutRegion.j0.eq_2 _ _ _ _ _ _ _ _ _ _) (Ev.neg (by simp) ?_)
    refine Ev.bind (toCellS_ev l la) (Ev.bind (eqCellS_ev _ hs) (Ev.pos rfl (Ev.bind (toInt64S_ev s sa) (Ev.bind (eqInt64S_ev _ ss) (Ev.pos rfl ?_)))))
    refine Ev.bind (markCellS_ev _ hf) (Ev.bind (markInt64S_ev _ _ (by simp only; omega) (by simp only; omega) sf) (Ev.neg (by simp only; omega) (Ev.bind (eqCellS_ev _ hbs) (Ev.pos rfl ?_))))
    refine Ev.step (fun k => laws_FnExactCutRegion.j1.eq_2 _ _ _ _ _ _ _) (Ev.neg (by simp) ?_)
    refine Ev.bind (markCellS_ev _ hbf) (Ev.bind (heldCellS_ev _ (by omega)) (Ev.neg (by omega) (Ev.pos rfl ?_)))
    refine Ev.bind (toCellS_ev l la) (Ev.bind (toInt64S_ev s sa) (Ev.bind (implCut_ev _ _ lm sa) (Ev.bind (eqCellS_ev _ hbs) (Ev.pos rfl ?_))))
    refine Ev.step (fun k => laws_FnExactCutRegion.j2.eq_2 _ _ _ _) (Ev.neg (by simp) ?_)
    exact Ev.bind (heldCellS_ev _ (by omega)) (Ev.neg (by omega) (Ev.pos rfl (Ev.now _)))
end Go.Proofs.Ytpjioedfiigefaa.Pure
