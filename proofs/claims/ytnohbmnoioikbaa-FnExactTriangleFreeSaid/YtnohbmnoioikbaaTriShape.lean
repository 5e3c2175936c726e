/- Shapes of triangles. -/
import Derived.Test.YtnohbmnoioikbaaTri
import Derived.Test.YtnohbmnoioikbaaShapes
import Derived.Test.YtnohbmnoioikbaaFx12
import Derived.Test.YtnohbmnoioikbaaFx17
namespace Go.Proofs.Ytnohbmnoioikbaa.L
open Go.RowKit Go.Proofs.YtnohbmnoioikbaaW.PrintWords Go.Proofs.YtnohbmnoioikbaaW.PrintLast Go.Proofs.YtnohbmnoioikbaaW.PrintMore Go.Proofs.Ytnohbmnoioikbaa.F
set_option linter.unusedVariables false
set_option linter.unusedSimpArgs false
def allTri (l : List Cell) : Bool := l.all fun c => decide (triX c)
theorem l07Is0 (c : Cell) : spec_l07Is.f 0 c.f0 c.f1 = some (decide (triX c)) := by
  rw [l07Is_eq]; congr 1
theorem l07Is1 (c : Cell) : spec_l07Is.f 1 c.f0 c.f1 = some true := by
  unfold spec_l07Is.f
  rw [if_pos rfl]
theorem specShape0_ev (l : List Cell) (hs : small l) : Ev (fun k => spec_l07Shape.f k 0 l) (allTri l && shapeB l) := by
  unfold spec_l07Shape.f
  refine loop_list l (fun k i (_ : Unit) => spec_l07Shape.l0 k 0 l i) (fun pre suf _ => allTri suf && shapeB l) (fun _ _ => True) ?_ ?_ () trivial
  · intro _ _
    simp only [spec_l07Shape.l0, len_lt, if_false]
    exact Ev.bind (specIsShape_ev l hs) (Ev.of_eq (Ev.now _) (by simp [allTri]))
  · intro pre c suf _ hx _ ih
    simp only [spec_l07Shape.l0, pre_lt hx, pre_0, if_true, at_pre hx, pre_w hx hs, l07Is0, Option.bind_some]
    by_cases h : triX c
    · refine Ev.pos (by simpa using h) (Ev.of_eq (ih () trivial) ?_)
      simp [allTri, h]
    · refine Ev.neg (by simpa using h) (Ev.of_eq (Ev.now _) ?_)
      simp [allTri, h]
theorem specShape1_ev (l : List Cell) (hs : small l) : Ev (fun k => spec_l07Shape.f k 1 l) (shapeB l) := by
  unfold spec_l07Shape.f
  refine loop_list l (fun k i (_ : Unit) => spec_l07Shape.l0 k 1 l i) (fun pre suf _ => shapeB l) (fun _ _ => True) ?_ ?_ () trivial
  · intro _ _
    simp only [spec_l07Shape.l0, len_lt, if_false]
    exact Ev.bind (specIsShape_ev l hs) (Ev.now _)
  · intro pre c suf _ hx _ ih
    simp only [spec_l07Shape.l0, pre_lt hx, pre_0, if_true, at_pre hx, pre_w hx hs, l07Is1, Option.bind_some]
    exact ih () trivial
def badI : List Cell → Int → Int
  | [], _ => -1
  | c :: r, i => if triX c then badI r (i + 1) else i
theorem badI_spec : ∀ (l : List Cell) (i : Int), 0 ≤ i → (badI l i ≥ 0 ↔ allTri l = false)
  | [], i, _ => by simp [badI, allTri]
  | c :: r, i, hi => by
    unfold badI
    by_cases h : triX c
    · rw [if_pos h, badI_spec r (i + 1) (by omega)]; simp [allTri, h]
    · rw [if_neg h]; simp [allTri, h, hi]
theorem implTriShape_ev (l : List Cell) (hs : small l) : Ev (fun k => impl_isTriangleShape.f k l) (allTri l && shapeB l) := by
  unfold impl_isTriangleShape.f
  refine Ev.bind (implIsShape_ev l hs) ?_
  by_cases hsh : shapeB l = true
  · refine Ev.pos hsh ?_
    have hb : Ev (fun k => impl_Cell_111__impl_isTriangleShape_1.f k l) (badI l 0) := by
      unfold impl_Cell_111__impl_isTriangleShape_1.f
      refine loop_list l (fun k i (_ : Unit) => impl_Cell_111__impl_isTriangleShape_1.l0 k l (l.length : Int) i) (fun pre suf _ => badI suf (pre.length : Int)) (fun _ _ => True) ?_ ?_ () trivial
      · intro _ _
        simp only [impl_Cell_111__impl_isTriangleShape_1.l0, len_lt, if_false]
        exact Ev.now _
      · intro pre c suf _ hx _ ih
        simp only [impl_Cell_111__impl_isTriangleShape_1.l0, pre_lt hx, pre_0, if_true, at_pre hx, pre_w hx hs]
        have e : impl_isTriangleShape_1.f c.f0 c.f1 = some (!decide (triX c)) := by
          unfold impl_isTriangleShape_1.f
          rw [isTriangle_eq]
          rfl
        simp only [e, Option.bind_some, badI]
        by_cases h : triX c
        · rw [if_pos h]
          exact Ev.neg (by simp [h]) (Ev.of_eq (ih () trivial) (by simp))
        · rw [if_neg h]
          exact Ev.pos (by simp [h]) (Ev.now _)
    have hc : Ev (fun k => impl_Cell_89__impl_isTriangleShape_1.f k l) (!allTri l) := by
      unfold impl_Cell_89__impl_isTriangleShape_1.f
      refine Ev.bind hb (Ev.of_eq (Ev.now _) ?_)
      have := badI_spec l 0 (Int.le_refl _)
      cases h : allTri l
      · simpa using this.2 h
      · have : ¬ badI l 0 ≥ 0 := fun e => by rw [this.1 e] at h; cases h
        simpa using this
    refine Ev.bind hc (Ev.of_eq (Ev.now _) ?_)
    simp [hsh]
  · refine Ev.neg hsh (Ev.of_eq (Ev.now _) ?_)
    simp [hsh]
end Go.Proofs.Ytnohbmnoioikbaa.L
