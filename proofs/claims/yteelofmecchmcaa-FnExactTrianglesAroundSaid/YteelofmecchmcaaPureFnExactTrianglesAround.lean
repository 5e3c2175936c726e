/- Both sides answer alike on the triangles around. -/
import Derived.Test.YteelofmecchmcaaTriNb
import Derived.Test.YteelofmecchmcaaFx13
import Derived.Test.YteelofmecchmcaaFx4
namespace Go.Proofs.Yteelofmecchmcaa.Pure
open Go.RowKit Go.Proofs.YteelofmecchmcaaW.PrintWords Go.Proofs.Yteelofmecchmcaa.F Go.Proofs.Yteelofmecchmcaa.L
set_option linter.unusedVariables false
set_option linter.unusedSimpArgs false

def triR (c : Cell) : List Cell × Int := if okC c ∧ triX c then (triC c, 0) else ([], 1)
theorem specTriR (c : Cell) : spec_TrianglesAround.f c.f0 c.f1 = some (triR c) := by
  unfold spec_TrianglesAround.f triR
  rw [specIsTriangle_eq, Option.bind_some]
  by_cases h : okC c ∧ triX c
  · have h' : (ok1 c.f0 ∧ ok1 c.f1) ∧ (c.f0 % 3 = c.f1 % 3 ∧ c.f0 % 3 ≠ 0) := h
    rw [if_pos h, decide_eq_true h', if_pos rfl, specTri_eq h.1 h.2]; rfl
  · have h' : ¬ ((ok1 c.f0 ∧ ok1 c.f1) ∧ (c.f0 % 3 = c.f1 % 3 ∧ c.f0 % 3 ≠ 0)) := h
    rw [if_neg h, decide_eq_false h', if_neg (by simp)]
theorem implTriR (c : Cell) : impl_TrianglesAround.f c.f0 c.f1 = some (triR c) := by
  unfold impl_TrianglesAround.f triR
  rw [implIsTriangle_eq, Option.bind_some]
  by_cases h : okC c ∧ triX c
  · have h' : (ok1 c.f0 ∧ ok1 c.f1) ∧ (c.f0 % 3 = c.f1 % 3 ∧ c.f0 % 3 ≠ 0) := h
    rw [if_pos h, decide_eq_true h', if_pos rfl, implTri_eq]; rfl
  · have h' : ¬ ((ok1 c.f0 ∧ ok1 c.f1) ∧ (c.f0 % 3 = c.f1 % 3 ∧ c.f0 % 3 ≠ 0)) := h
    rw [if_neg h, decide_eq_false h', if_neg (by simp)]
theorem tri_fits (c : Cell) : fits (triR c).1 := by
  unfold triR fits
  have := triC_len c
  split
  · simp only; omega
  · simp

theorem FnExactTrianglesAround (x y : Int) {V : Prop} (_ : V) : ∃ k, laws_FnExactTrianglesAround.f k x y = some true := by
  refine Ev.rounds ?_
  have hf := tri_fits ⟨x, y⟩
  have hS := specTriR ⟨x, y⟩
  have hI := implTriR ⟨x, y⟩
  simp only at hS hI
  unfold laws_FnExactTrianglesAround.f
  simp only [toCell_eq, hS, hI, Option.bind_some]
  refine Ev.bind (eqCellS_ev _ hf.small) (Ev.pos rfl (Ev.step (fun k => laws_FnExactTrianglesAround.j0.eq_2 ..) (Ev.neg (by simp) ?_)))
  refine Ev.bind (markCellS_ev _ hf) (Ev.bind (heldCellS_ev _ hf) (Ev.neg (by omega) (Ev.pos rfl ?_)))
  simp only [toCell_eq, hI, Option.bind_some]
  refine Ev.bind (eqCellS_ev _ hf.small) (Ev.pos rfl (Ev.step (fun k => laws_FnExactTrianglesAround.j1.eq_2 ..) (Ev.neg (by simp) ?_)))
  exact Ev.bind (heldCellS_ev _ hf) (Ev.neg (by omega) (Ev.pos rfl (Ev.now _)))
end Go.Proofs.Yteelofmecchmcaa.Pure
