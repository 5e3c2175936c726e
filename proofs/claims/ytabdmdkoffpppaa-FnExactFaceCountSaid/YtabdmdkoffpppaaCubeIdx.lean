/- Where a cube stands in a list; the cubes around a cube. -/
import Derived.Test.YtabdmdkoffpppaaCubeB
import Derived.Test.YtabdmdkoffpppaaFx14
namespace Go.Proofs.Ytabdmdkoffpppaa.L
open Go.RowKit Go.Proofs.YtabdmdkoffpppaaW.PrintWords Go.Proofs.YtabdmdkoffpppaaW.PrintLast Go.Proofs.YtabdmdkoffpppaaW.PrintMore Go.Proofs.Ytabdmdkoffpppaa.F
set_option linter.unusedVariables false
set_option linter.unusedSimpArgs false
def sameQ (a b : Cube) : Bool := decide (a.f0 = b.f0) && (decide (a.f1 = b.f1) && decide (a.f2 = b.f2))
theorem sameQ_iff {a b : Cube} : sameQ a b = true ↔ a = b := by
  obtain ⟨a0, a1, a2⟩ := a
  obtain ⟨b0, b1, b2⟩ := b
  simp [sameQ]
def idxFQ : List Cube → Cube → Int → Int
  | [], _, _ => -1
  | a :: r, c, i => if sameQ a c = true then i else idxFQ r c (i + 1)
def idxQ (l : List Cube) (c : Cube) : Int := idxFQ l c 0
theorem specIndexQ_ev (l : List Cube) (c : Cube) (hs : small l) : Ev (fun k => spec_l09Index.f k l c.f0 c.f1 c.f2) (idxQ l c) := by
  unfold spec_l09Index.f
  refine loop_list l (fun k i (_ : Unit) => spec_l09Index.l0 k l i c.f0 c.f1 c.f2) (fun pre suf _ => idxFQ suf c (pre.length : Int)) (fun _ _ => True) ?_ ?_ () trivial
  · intro _ _
    simp only [spec_l09Index.l0, len_lt, if_false]
    exact Ev.now _
  · intro pre d suf _ hx _ ih
    simp only [spec_l09Index.l0, pre_lt hx, pre_0, if_true, at_preQ hx, pre_w hx hs, idxFQ]
    have e : (d.f0 == c.f0 && (d.f1 == c.f1 && d.f2 == c.f2)) = sameQ d c := by simp [sameQ, BEq.beq]
    rw [e]
    refine Ev.if_ (fun _ => Ev.now _) (fun _ => Ev.of_eq (ih () trivial) ?_)
    simp
theorem implIndexQ_ev (l : List Cube) (c : Cube) (hs : small l) : Ev (fun k => impl_Cube_139.f k l c.f0 c.f1 c.f2) (idxQ l c) := by
  unfold impl_Cube_139.f
  refine loop_list l (fun k i (_ : Unit) => impl_Cube_139.l0 k l (l.length : Int) i c.f0 c.f1 c.f2) (fun pre suf _ => idxFQ suf c (pre.length : Int)) (fun _ _ => True) ?_ ?_ () trivial
  · intro _ _
    simp only [impl_Cube_139.l0, len_lt, if_false]
    exact Ev.now _
  · intro pre d suf _ hx _ ih
    simp only [impl_Cube_139.l0, pre_lt hx, pre_0, if_true, at_preQ hx, pre_w hx hs, idxFQ]
    have e : (c.f0 == d.f0 && (c.f1 == d.f1 && c.f2 == d.f2)) = sameQ d c := by
      rw [Bool.eq_iff_iff]
      simp only [sameQ, Bool.and_eq_true, beq_iff_eq, decide_eq_true_eq]
      constructor <;> (rintro ⟨h, h', h''⟩; exact ⟨h.symm, h'.symm, h''.symm⟩)
    rw [e]
    refine Ev.if_ (fun _ => Ev.now _) (fun _ => Ev.of_eq (ih () trivial) ?_)
    simp
theorem implContainsQ_ev (l : List Cube) (c : Cube) (hs : small l) : Ev (fun k => impl_Cube_83.f k l c.f0 c.f1 c.f2) (decide (idxQ l c ≥ 0)) := by
  unfold impl_Cube_83.f
  exact Ev.bind (implIndexQ_ev l c hs) (Ev.now _)
def stepsQ : List Cube := [⟨0, 0, -1⟩, ⟨0, -1, 0⟩, ⟨-1, 0, 0⟩, ⟨1, 0, 0⟩, ⟨0, 1, 0⟩, ⟨0, 0, 1⟩]
theorem steps_eq : spec_l09Steps.f = some stepsQ := rfl
def addQ (c d : Cube) : Cube := ⟨wrap64 (c.f0 + d.f0), wrap64 (c.f1 + d.f1), wrap64 (c.f2 + d.f2)⟩
def nbQ (c : Cube) : List Cube := [⟨c.f0, c.f1, wrap64 (c.f2 - 1)⟩, ⟨c.f0, wrap64 (c.f1 - 1), c.f2⟩, ⟨wrap64 (c.f0 - 1), c.f1, c.f2⟩, ⟨wrap64 (c.f0 + 1), c.f1, c.f2⟩, ⟨c.f0, wrap64 (c.f1 + 1), c.f2⟩, ⟨c.f0, c.f1, wrap64 (c.f2 + 1)⟩]
theorem nbQ_len (c : Cube) : (nbQ c).length = 6 := rfl
theorem implAroundQ_eq (c : Cube) : impl_cubesAround.f c.f0 c.f1 c.f2 = some (nbQ c) := rfl
theorem steps_nb {c : Cube} (h : okQ c) : stepsQ.map (addQ c) = nbQ c := by
  obtain ⟨x, y, z⟩ := c
  unfold okQ ok1 at h
  simp only at h
  have w (n : Int) (h0 : -1000 ≤ n) (h1 : n ≤ 1000) : wrap64 n = n := w64 (by omega) (by omega)
  simp only [stepsQ, nbQ, addQ, List.map_cons, List.map_nil, Int.add_zero]
  rw [w x (by omega) (by omega), w y (by omega) (by omega), w z (by omega) (by omega)]
  simp [Int.sub_eq_add_neg]
end Go.Proofs.Ytabdmdkoffpppaa.L
