/- Whether a number stands in a list: both sides' searches. -/
import Derived.Test.YtabdmdkoffpppaaInts
import Derived.Test.YtabdmdkoffpppaaFx4
namespace Go.Proofs.Ytabdmdkoffpppaa.L
open Go.RowKit Go.Proofs.YtabdmdkoffpppaaW.PrintWords Go.Proofs.YtabdmdkoffpppaaW.PrintLast Go.Proofs.YtabdmdkoffpppaaW.PrintMore Go.Proofs.Ytabdmdkoffpppaa.F
set_option linter.unusedVariables false
set_option linter.unusedSimpArgs false
/-- Whether a number is in a list. -/
def hasI (s : List Int) (i : Int) : Bool := decide (i ∈ s)
theorem specHas_ev (s : List Int) (i : Int) (hs : small s) : Ev (fun k => spec_l01Has.f k s i) (hasI s i) := by
  unfold spec_l01Has.f
  refine loop_list s (fun k j (_ : Unit) => spec_l01Has.l0 k s i j) (fun pre suf _ => hasI suf i) (fun _ _ => True) ?_ ?_ () trivial
  · intro _ _
    simp only [spec_l01Has.l0, len_lt, if_false]
    exact Ev.of_eq (Ev.now _) (by simp [hasI])
  · intro pre c suf _ hx _ ih
    simp only [spec_l01Has.l0, pre_lt hx, pre_0, if_true, at_preI hx, pre_w hx hs]
    by_cases hc : c = i
    · exact Ev.pos hc (Ev.of_eq (Ev.now _) (by simp [hasI, hc]))
    · refine Ev.neg hc (Ev.of_eq (ih () trivial) ?_)
      have : ¬ i = c := fun e => hc e.symm
      simp [hasI, this]
def idxI : List Int → Int → Int → Int
  | [], _, _ => -1
  | a :: r, c, i => if c = a then i else idxI r c (i + 1)
theorem idxI_mem : ∀ (s : List Int) (c i : Int), 0 ≤ i → (idxI s c i ≥ 0 ↔ c ∈ s)
  | [], c, i, _ => by simp [idxI]
  | a :: r, c, i, hi => by
    unfold idxI
    by_cases h : c = a
    · rw [if_pos h]; simp [h, hi]
    · rw [if_neg h, idxI_mem r c (i + 1) (by omega)]; simp [h]
theorem implHas_ev (s : List Int) (i : Int) (hs : small s) : Ev (fun k => slices_Contains_int64_int64.f k s i) (hasI s i) := by
  unfold slices_Contains_int64_int64.f slices_Index_int64_int64.f
  have := loop_list s (fun k j (_ : Unit) => slices_Index_int64_int64.l0 k s i (s.length : Int) j) (fun pre suf _ => idxI suf i (pre.length : Int)) (fun _ _ => True) ?_ ?_ () trivial
  · refine Ev.bind this (Ev.of_eq (Ev.now _) ?_)
    have h := idxI_mem s i 0 (Int.le_refl _)
    unfold hasI
    rw [Bool.eq_iff_iff, decide_eq_true_eq, decide_eq_true_eq]
    exact h
  · intro _ _
    simp only [slices_Index_int64_int64.l0, len_lt, if_false]
    exact Ev.of_eq (Ev.now _) (by simp [idxI])
  · intro pre c suf _ hx _ ih
    simp only [slices_Index_int64_int64.l0, pre_lt hx, pre_0, if_true, at_preI hx, pre_w hx hs, idxI]
    refine Ev.if_ (fun _ => Ev.now _) (fun _ => Ev.of_eq (ih () trivial) ?_)
    simp
end Go.Proofs.Ytabdmdkoffpppaa.L
