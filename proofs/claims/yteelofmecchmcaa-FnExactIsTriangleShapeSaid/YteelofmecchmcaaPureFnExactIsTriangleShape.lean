/- Both sides answer alike on triangle shapes. -/
import Derived.Test.YteelofmecchmcaaGrow
import Derived.Test.YteelofmecchmcaaTriShape
import Derived.Test.YteelofmecchmcaaTriWf
import Derived.Test.YteelofmecchmcaaPartsTri
import Derived.Test.YteelofmecchmcaaFx20
import Derived.Test.YteelofmecchmcaaFx21
import Derived.Test.YteelofmecchmcaaFx23
namespace Go.Proofs.Yteelofmecchmcaa.L
open Go.RowKit Go.Proofs.YteelofmecchmcaaW.PrintWords Go.Proofs.YteelofmecchmcaaW.PrintLast Go.Proofs.YteelofmecchmcaaW.PrintMore Go.Proofs.Yteelofmecchmcaa.F
set_option linter.unusedVariables false
set_option linter.unusedSimpArgs false
theorem shape_fine {l : List Cell} (h : shapeB l = true) : l ≠ [] ∧ l.Nodup ∧ l.all wfC = true ∧ l.length ≤ 1048576 := by
  obtain ⟨h1, h2, h3, h4⟩ := shapeB_iff.1 h
  refine ⟨shape_ne h, h2.imp fun {a b} hab e => ?_, List.all_eq_true.2 fun c hc => wfC_ok (h1 c hc), by omega⟩
  subst e
  unfold ltC at hab
  omega
def triB (l : List Cell) : Bool × Bool := if allTri l && shapeB l then (true, oneB (partsR triC l)) else (false, false)
theorem specTriShape_ev (l : List Cell) (hs : small l) : Ev (fun k => spec_IsTriangleShape.f k l) (triB l) := by
  unfold spec_IsTriangleShape.f triB
  refine Ev.bind (specShape0_ev l hs) (Ev.if_ (fun h => ?_) (fun _ => Ev.now _))
  rw [Bool.and_eq_true] at h
  obtain ⟨h1, h2, h3, h4⟩ := shape_fine h.2
  have ho := (shapeB_iff.1 h.2).1
  have ht : ∀ c ∈ l, triX c := fun c hc => by simpa using List.all_eq_true.1 h.1 c hc
  exact Ev.bind (gr_ev 0 triC l (fun c hc => specTri_eq (ho c hc) (ht c hc)) triC_len h4 h1 h2) (Ev.now _)
theorem implTriShapeC_ev (l : List Cell) (hs : small l) : Ev (fun k => impl_IsTriangleShape.f k l) (triB l) := by
  unfold impl_IsTriangleShape.f triB
  refine Ev.bind (implTriShape_ev l hs) (Ev.if_ (fun h => ?_) (fun _ => Ev.now _))
  rw [Bool.and_eq_true] at h
  obtain ⟨h1, h2, h3, h4⟩ := shape_fine h.2
  exact Ev.bind (pt_conn l h4 h1 h2 h3) (Ev.now _)
end Go.Proofs.Yteelofmecchmcaa.L
namespace Go.Proofs.Yteelofmecchmcaa.Pure
open Go.RowKit Go.Proofs.YteelofmecchmcaaW.PrintWords Go.Proofs.Yteelofmecchmcaa.F Go.Proofs.Yteelofmecchmcaa.L
set_option linter.unusedVariables false

theorem FnExactIsTriangleShape (l : List LCell) {V : LCell → Prop} (hv : l.length ≤ 9223372036854775807 ∧ ∀ a ∈ l, V a) : ∃ k, laws_FnExactIsTriangleShape.f k l = some true := by
  refine Ev.rounds ?_
  unfold laws_FnExactIsTriangleShape.f
  rw [szCellS_eq l 1048576 (by decide) (by decide) hv.1]
  simp only [Option.bind_some]
  by_cases h : (1048576 : Int) - (l.length : Int) < 0
  · rw [if_pos h]; exact Ev.pos (by decide) (Ev.now _)
  · rw [if_neg h]
    refine Ev.neg h ?_
    have la : l.length ≤ 1048576 := by omega
    have hs : small (l.map cellOf) := by unfold small; simp; omega
    refine Ev.bind (toCellS_ev l la) (Ev.bind (specTriShape_ev _ hs) (Ev.bind (toCellS_ev l la) (Ev.bind (implTriShapeC_ev _ hs) (Ev.neg (by simp) ?_))))
    refine Ev.step (fun k => laws_FnExactIsTriangleShape.j0.eq_2 _ _ _ _) (Ev.neg (by simp) ?_)
    exact Ev.bind (toCellS_ev l la) (Ev.bind (eqCellS_ev _ hs) (Ev.pos rfl (Ev.now _)))
end Go.Proofs.Yteelofmecchmcaa.Pure
