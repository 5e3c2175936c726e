/- Both sides answer alike on the cell set of some cells. -/
import Derived.Test.YtpjioedfiigefaaBsearch
import Derived.Test.YtpjioedfiigefaaMarkI
import Derived.Test.YtpjioedfiigefaaMarkC
import Derived.Test.YtpjioedfiigefaaFx16
import Derived.Test.YtpjioedfiigefaaFx18
import Derived.Test.YtpjioedfiigefaaFx19
namespace Go.Proofs.Ytpjioedfiigefaa.L
open Go.RowKit Go.Proofs.YtpjioedfiigefaaW.PrintWords Go.Proofs.YtpjioedfiigefaaW.PrintLast Go.Proofs.YtpjioedfiigefaaW.PrintMore Go.Proofs.Ytpjioedfiigefaa.F
set_option linter.unusedVariables false
set_option linter.unusedSimpArgs false
def cellsSet (l r : List Cell) : List Int × Int := if regionB l = true then (if shapeB r = true then (if (setF l r []).2 = true then ((setF l r []).1, 0) else ([], 4)) else ([], 4)) else ([], 1)
theorem cellsSet_len (l r : List Cell) : (cellsSet l r).1.length ≤ r.length := by
  unfold cellsSet
  have := setF_len l r []
  split
  · split
    · split
      · simpa using this
      · simp
    · simp
  · simp
theorem region_sorted {l : List Cell} (h : regionB l = true) : l.Pairwise ltC := by
  unfold regionB at h
  rw [Bool.and_eq_true] at h
  exact (shapeB_iff.1 h.1).2.1
theorem specCellsSet_ev (l r : List Cell) (hl : l.length ≤ 1048576) (hr : r.length ≤ 1048576) : Ev (fun k => spec_CellsToSet.f k l r) (cellsSet l r) := by
  have hs : small r := by unfold small; omega
  have hs' : small l := by unfold small; omega
  unfold spec_CellsToSet.f cellsSet
  refine Ev.bind (specIsRegion_ev l hs') (Ev.if_ (fun _ => ?_) (fun _ => Ev.now _))
  refine Ev.bind (specSet_ev l r hl hr) ?_
  by_cases h : (setF l r []).2 = true
  · refine Ev.pos h (Ev.bind (specIsShape_ev r hs) ?_)
    simp only [h, if_true]
    exact Ev.if_ (fun _ => Ev.now _) (fun _ => Ev.now _)
  · refine Ev.neg h (Ev.of_eq (Ev.now _) ?_)
    simp only [h, if_false]
    simp
theorem implCellsSet_ev (l r : List Cell) (hl : l.length ≤ 1048576) (hr : r.length ≤ 1048576) : Ev (fun k => impl_CellsToSet.f k l r) (cellsSet l r) := by
  have hs : small r := by unfold small; omega
  have hs' : small l := by unfold small; omega
  unfold impl_CellsToSet.f cellsSet
  refine Ev.bind (implIsRegion_ev l hs') (Ev.if_ (fun hr_ => ?_) (fun _ => Ev.now _))
  refine Ev.bind (implIsShape_ev r hs) (Ev.if_ (fun _ => ?_) (fun _ => Ev.now _))
  exact Ev.bind (implSet_ev l r hl hr (region_sorted hr_)) (Ev.if_ (fun _ => Ev.now _) (fun _ => Ev.now _))
end Go.Proofs.Ytpjioedfiigefaa.L
namespace Go.Proofs.Ytpjioedfiigefaa.Pure
open Go.RowKit Go.Proofs.YtpjioedfiigefaaW.PrintWords Go.Proofs.Ytpjioedfiigefaa.F Go.Proofs.Ytpjioedfiigefaa.L
set_option linter.unusedVariables false

theorem FnExactCellsToSet (l r : List LCell) {V V' : LCell → Prop} (hv : l.length ≤ 9223372036854775807 ∧ ∀ a ∈ l, V a) (hv' : r.length ≤ 9223372036854775807 ∧ ∀ a ∈ r, V' a) : ∃ k, laws_FnExactCellsToSet.f k l r = some true := by
  refine Ev.rounds ?_
  unfold laws_FnExactCellsToSet.f
  rw [szCellS_eq l 1048576 (by decide) (by decide) hv.1]
  simp only [Option.bind_some]
  by_cases h : (1048576 : Int) - (l.length : Int) < 0
  · rw [if_pos h]; exact Ev.pos (by decide) (Ev.now _)
  · rw [if_neg h]
    refine Ev.neg h ?_
    rw [szCellS_eq r _ (by omega) (by omega) hv'.1]
    simp only [Option.bind_some]
    by_cases h' : (1048576 : Int) - (l.length : Int) - (r.length : Int) < 0
    · rw [if_pos h']; exact Ev.pos (by decide) (Ev.now _)
    rw [if_neg h']
    refine Ev.neg h' ?_
    have la : l.length ≤ 1048576 := by omega
    have lm : (l.map cellOf).length ≤ 1048576 := by simpa using la
    have hs : small (l.map cellOf) := by unfold small; omega
    have hf : fits (l.map cellOf) := lm
    have ra : r.length ≤ 1048576 := by omega
    have rm : (r.map cellOf).length ≤ 1048576 := by simpa using ra
    have rs : small (r.map cellOf) := by unfold small; omega
    have rf : fits (r.map cellOf) := rm
    have hb := cellsSet_len (l.map cellOf) (r.map cellOf)
    have hbs : small (cellsSet (l.map cellOf) (r.map cellOf)).1 := by unfold small; omega
    have hbf : fits (cellsSet (l.map cellOf) (r.map cellOf)).1 := by unfold fits; omega
    refine Ev.bind (toCellS_ev l la) (Ev.bind (toCellS_ev r ra) (Ev.bind (specCellsSet_ev _ _ lm rm) (Ev.bind (toCellS_ev l la) (Ev.bind (toCellS_ev r ra) (Ev.bind (implCellsSet_ev _ _ lm rm) (Ev.bind (eqInt64S_ev _ hbs) (Ev.pos rfl ?_)))))))
    refine Ev.step (fun k => laws_FnExactCellsToSet.j0.eq_2 _ _ _ _ _ _ _ _ _ _) (Ev.neg (by simp) ?_)
    refine Ev.bind (toCellS_ev l la) (Ev.bind (eqCellS_ev _ hs) (Ev.pos rfl (Ev.bind (toCellS_ev r ra) (Ev.bind (eqCellS_ev _ rs) (Ev.pos rfl ?_)))))
    refine Ev.bind (markCellS_ev _ hf) (Ev.bind (markCellS_from _ _ (by simp only; omega) (by simp only; omega) rf) (Ev.neg (by simp only; omega) (Ev.bind (eqInt64S_ev _ hbs) (Ev.pos rfl ?_))))
    refine Ev.step (fun k => laws_FnExactCellsToSet.j1.eq_2 _ _ _ _ _ _ _) (Ev.neg (by simp) ?_)
    refine Ev.bind (markInt64S_ev _ 1 (by decide) (by decide) hbf) (Ev.bind (heldInt64S_ev _ (by omega)) (Ev.neg (by omega) (Ev.pos rfl ?_)))
    refine Ev.bind (toCellS_ev l la) (Ev.bind (toCellS_ev r ra) (Ev.bind (implCellsSet_ev _ _ lm rm) (Ev.bind (eqInt64S_ev _ hbs) (Ev.pos rfl ?_))))
    refine Ev.step (fun k => laws_FnExactCellsToSet.j2.eq_2 _ _ _ _) (Ev.neg (by simp) ?_)
    exact Ev.bind (heldInt64S_ev _ (by omega)) (Ev.neg (by omega) (Ev.pos rfl (Ev.now _)))
end Go.Proofs.Ytpjioedfiigefaa.Pure
