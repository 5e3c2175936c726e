/- Both sides answer alike on what a piece is. -/
import Derived.Test.YtpjioedfiigefaaPartsSpec
import Derived.Test.YtpjioedfiigefaaPartsAround
import Derived.Test.YtpjioedfiigefaaFOpn
import Derived.Test.YtpjioedfiigefaaFx26
import Derived.Test.YtpjioedfiigefaaFx27
import Derived.Test.YtpjioedfiigefaaFx30
namespace Go.Proofs.Ytpjioedfiigefaa.L
open Go.RowKit Go.Proofs.YtpjioedfiigefaaW.PrintWords Go.Proofs.YtpjioedfiigefaaW.PrintLast Go.Proofs.YtpjioedfiigefaaW.PrintMore Go.Proofs.Ytpjioedfiigefaa.F
set_option linter.unusedVariables false
set_option linter.unusedSimpArgs false
theorem one_ev (l : List Int) (hs : small l) : Ev (fun k => spec_l02One.f k l) (oneB l) := by
  unfold spec_l02One.f
  refine loop_list l (fun k i (_ : Unit) => spec_l02One.l0 k l i) (fun pre suf _ => oneB suf) (fun _ _ => True) ?_ ?_ () trivial
  · intro _ _
    simp only [spec_l02One.l0, len_lt, if_false]
    exact Ev.now _
  · intro pre c suf _ hx _ ih
    simp only [spec_l02One.l0, pre_lt hx, pre_0, if_true, at_preI hx, pre_w hx hs]
    by_cases hc : c = 0
    · exact Ev.pos hc (Ev.of_eq (ih () trivial) (by simp [oneB, hc]))
    · exact Ev.neg hc (Ev.of_eq (Ev.now _) (by simp [oneB, hc]))
def connB (l : List Cell) : Bool := oneB (partsR aroundC l)
theorem shape_fine {l : List Cell} (h : shapeB l = true) : l ≠ [] ∧ l.Nodup ∧ l.all wfC = true ∧ l.length ≤ 1048576 := by
  obtain ⟨h1, h2, h3, h4⟩ := shapeB_iff.1 h
  refine ⟨shape_ne h, h2.imp fun {a b} hab e => ?_, List.all_eq_true.2 fun c hc => wfC_ok (h1 c hc), by omega⟩
  subst e
  unfold ltC at hab
  omega
theorem specConn_ev (l : List Cell) (hl : l.length ≤ 1048576) : Ev (fun k => spec_IsConnected.f k l) (shapeB l && connB l) := by
  have hs : small l := by unfold small; omega
  unfold spec_IsConnected.f
  refine Ev.bind (specIsShape_ev l hs) ?_
  by_cases h : shapeB l = true
  · refine Ev.pos h (Ev.bind (ps_ev l hl) (Ev.bind (one_ev _ (by unfold small; rw [partsR_len]; omega)) (Ev.of_eq (Ev.now _) ?_)))
    simp [h, connB]
  · exact Ev.neg h (Ev.of_eq (Ev.now _) (by simp [h]))
theorem region_shape {l : List Cell} (h : regionB l = true) : shapeB l = true := by
  unfold regionB at h
  rw [Bool.and_eq_true] at h
  exact h.1
def pieceB (l : List Cell) (n : Int) : Bool := regionB l && (connB l && decide (1 ≤ n ∧ n ≤ 8))
theorem specIsPiece_ev (l : List Cell) (n : Int) (b : Bool) (hl : l.length ≤ 1048576) : Ev (fun k => spec_IsPiece.f k l n b) (pieceB l n) := by
  have hs : small l := by unfold small; omega
  unfold spec_IsPiece.f pieceB
  refine Ev.bind (specIsRegion_ev l hs) ?_
  by_cases h : regionB l = true
  · refine Ev.pos h (Ev.bind (specConn_ev l hl) ?_)
    rw [region_shape h, Bool.true_and, h, Bool.true_and]
    by_cases hc : connB l = true
    · refine Ev.pos hc ?_
      simp only [in_eq, Option.bind_some, hc, Bool.true_and]
      exact Ev.now _
    · exact Ev.neg hc (Ev.of_eq (Ev.now _) (by simp [hc]))
  · exact Ev.neg h (Ev.of_eq (Ev.now _) (by simp [h]))
theorem implIsPiece_ev (l : List Cell) (n : Int) (b : Bool) (hl : l.length ≤ 1048576) : Ev (fun k => impl_IsPiece.f k l n b) (pieceB l n) := by
  have hs : small l := by unfold small; omega
  unfold impl_IsPiece.f pieceB
  refine Ev.bind (implIsRegion_ev l hs) ?_
  by_cases h : regionB l = true
  · obtain ⟨h1, h2, h3, _⟩ := shape_fine (region_shape h)
    refine Ev.pos h (Ev.bind (pa_conn l hl h1 h2 h3) ?_)
    rw [h, Bool.true_and]
    by_cases hc : connB l = true
    · refine Ev.pos hc ?_
      simp only [within_eq, Option.bind_some, hc, Bool.true_and]
      exact Ev.now _
    · exact Ev.neg hc (Ev.of_eq (Ev.now _) (by simp [hc]))
  · exact Ev.neg h (Ev.of_eq (Ev.now _) (by simp [h]))
end Go.Proofs.Ytpjioedfiigefaa.L
namespace Go.Proofs.Ytpjioedfiigefaa.Pure
open Go.RowKit Go.Proofs.YtpjioedfiigefaaW.PrintWords Go.Proofs.Ytpjioedfiigefaa.F Go.Proofs.Ytpjioedfiigefaa.L
set_option linter.unusedVariables false

theorem FnExactIsPiece (l : List LCell) (n : Int) (b : Bool) (hv : V41 ⟨l, n, b⟩) : ∃ k, laws_FnExactIsPiece.f k l n b = some true := by
  have hv1 : l.length ≤ 9223372036854775807 := hv.1.1
  refine Ev.rounds ?_
  unfold laws_FnExactIsPiece.f laws_szPiece.f
  rw [szCellS_eq l 1048576 (by decide) (by decide) hv1]
  simp only [Option.bind_some]
  by_cases h : (1048576 : Int) - (l.length : Int) < 0
  · rw [if_pos h]
    simp only [show ((-1 : Int) < 0) = True by simp, if_true, Option.bind_some]
    exact Ev.now _
  · rw [if_neg h]
    simp only [h, if_false, Option.bind_some]
    have la : l.length ≤ 1048576 := by omega
    have lm : (l.map cellOf).length ≤ 1048576 := by simpa using la
    have hs : small (l.map cellOf) := by unfold small; omega
    have tp : Ev (fun k => laws_toPiece.f k l n b) (l.map cellOf, n, b) := by
      unfold laws_toPiece.f
      exact Ev.bind (toCellS_ev l la) (Ev.now _)
    have ep : Ev (fun k => laws_eqPiece.f k (l.map cellOf) n b (l.map cellOf) n b) true := by
      unfold laws_eqPiece.f
      exact Ev.bind (eqCellS_ev _ hs) (Ev.pos rfl (Ev.pos rfl (Ev.neg (by simp) (Ev.now _))))
    refine Ev.bind tp (Ev.bind (specIsPiece_ev _ n b lm) (Ev.bind tp (Ev.bind (implIsPiece_ev _ n b lm) (Ev.neg (by simp) ?_))))
    exact Ev.bind tp (Ev.bind ep (Ev.pos rfl (Ev.now _)))
end Go.Proofs.Ytpjioedfiigefaa.Pure
