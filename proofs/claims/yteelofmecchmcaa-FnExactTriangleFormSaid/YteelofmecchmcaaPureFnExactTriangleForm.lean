/- Both sides answer alike on the form of a shape for a lattice turn. -/
import Derived.Test.YteelofmecchmcaaLattice
import Derived.Test.YteelofmecchmcaaFx33
namespace Go.Proofs.Yteelofmecchmcaa.Pure
open Go.RowKit Go.Proofs.YteelofmecchmcaaW.PrintWords Go.Proofs.Yteelofmecchmcaa.F Go.Proofs.Yteelofmecchmcaa.L
set_option linter.unusedVariables false

theorem FnExactTriangleForm (l : List LCell) (t : Int) {V : LCell → Prop} (hv : l.length ≤ 9223372036854775807 ∧ ∀ a ∈ l, V a) (ht : (Lit.int .i64 t).wf = true) : ∃ k, laws_FnExactTriangleForm.f k l t = some true := by
  refine Ev.rounds ?_
  unfold laws_FnExactTriangleForm.f
  rw [szCellS_eq l 1048576 (by decide) (by decide) hv.1]
  simp only [Option.bind_some]
  by_cases h : (1048576 : Int) - (l.length : Int) < 0
  · rw [if_pos h]; exact Ev.pos (by decide) (Ev.now _)
  · rw [if_neg h]
    refine Ev.neg h ?_
    have la : l.length ≤ 1048576 := by omega
    have lm : (l.map cellOf).length ≤ 1048576 := by simpa using la
    have hs : small (l.map cellOf) := by unfold small; omega
    have hf : fits (l.map cellOf) := lm
    have hb : (triFR (l.map cellOf) t).1.length ≤ (l.map cellOf).length := Nat.le_trans (formR_len _ _ _) (by rw [normalT_len, latL_len]; exact Nat.le_refl _)
    have hbs : small (triFR (l.map cellOf) t).1 := by unfold small; omega
    have hbf : fits (triFR (l.map cellOf) t).1 := by unfold fits; omega
    refine Ev.bind (toCellS_ev l la) (Ev.bind (specTriFormC_ev _ t lm) (Ev.bind (toCellS_ev l la) (Ev.bind (implTriFormC_ev _ t lm) (Ev.bind (eqCellS_ev _ hbs) (Ev.pos rfl ?_)))))
    refine Ev.step (fun k => laws_FnExactTriangleForm.j0.eq_2 _ _ _ _ _ _ _ _ _) (Ev.neg (by simp) ?_)
    refine Ev.bind (toCellS_ev l la) (Ev.bind (eqCellS_ev _ hs) (Ev.pos rfl (Ev.bind (markCellS_ev _ hf) (Ev.neg (by simp; omega) (Ev.bind (eqCellS_ev _ hbs) (Ev.pos rfl ?_))))))
    refine Ev.step (fun k => laws_FnExactTriangleForm.j1.eq_2 _ _ _ _ _ _ _) (Ev.neg (by simp) ?_)
    refine Ev.bind (markCellS_ev _ hbf) (Ev.bind (heldCellS_ev _ hbf) (Ev.neg (by omega) (Ev.pos rfl ?_)))
    refine Ev.bind (toCellS_ev l la) (Ev.bind (implTriFormC_ev _ t lm) (Ev.bind (eqCellS_ev _ hbs) (Ev.pos rfl ?_)))
    refine Ev.step (fun k => laws_FnExactTriangleForm.j2.eq_2 _ _ _ _) (Ev.neg (by simp) ?_)
    exact Ev.bind (heldCellS_ev _ hbf) (Ev.neg (by omega) (Ev.pos rfl (Ev.now _)))
end Go.Proofs.Yteelofmecchmcaa.Pure
