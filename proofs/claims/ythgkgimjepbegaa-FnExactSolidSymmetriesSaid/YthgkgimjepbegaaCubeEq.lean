/- Whether two solids are the same. -/
import Derived.Test.YthgkgimjepbegaaCubeCmp
import Derived.Test.YthgkgimjepbegaaFx18
namespace Go.Proofs.Ythgkgimjepbegaa.L
open Go.RowKit Go.Proofs.YthgkgimjepbegaaW.PrintWords Go.Proofs.YthgkgimjepbegaaW.PrintLast Go.Proofs.YthgkgimjepbegaaW.PrintMore Go.Proofs.Ythgkgimjepbegaa.F
set_option linter.unusedVariables false
set_option linter.unusedSimpArgs false
theorem equalQ_ev (a b : List Cube) (ha : small a) : Ev (fun k => impl_Cube_51.f k a b) (decide (a = b)) := by
  unfold impl_Cube_51.f
  by_cases hl : a.length = b.length
  · refine Ev.pos (by omega) ?_
    refine loop_list a (fun k i (_ : Unit) => impl_Cube_51.l0 k a b (a.length : Int) i) (fun pre suf _ => decide (suf = b.drop pre.length)) (fun _ _ => True) ?_ ?_ () trivial
    · intro _ _
      simp only [impl_Cube_51.l0, len_lt, if_false]
      refine Ev.of_eq (Ev.now _) ?_
      rw [hl, List.drop_length]
      simp
    · intro pre c suf _ hx _ ih
      have hp := pre_len hx
      have hpb : pre.length < b.length := by omega
      have hlt : ((pre.length : Int) < (b.length : Int)) = True := by simp; omega
      have eb := rdQ b pre.length hpb
      simp only [impl_Cube_51.l0, pre_lt hx, pre_0, if_true, hlt, at_preQ hx, pre_w hx ha, eb]
      rw [List.drop_eq_getElem_cons hpb]
      by_cases he : c = b[pre.length]
      · refine Ev.neg (by rw [← he]; simp) (Ev.of_eq (ih () trivial) ?_)
        rw [List.length_append, List.length_singleton]
        generalize b.drop (pre.length + 1) = R
        rw [← he]
        simp only [List.cons.injEq, true_and]
      · refine Ev.pos ?_ (Ev.of_eq (Ev.now _) ?_)
        · refine Decidable.byContradiction fun h => he ?_
          generalize b[pre.length] = d at h
          obtain ⟨c0, c1, c2⟩ := c
          obtain ⟨d0, d1, d2⟩ := d
          simp at h
          simp [h]
        · generalize b.drop (pre.length + 1) = R
          simp only [List.cons.injEq, he, false_and, decide_false]
  · refine Ev.neg (by omega) (Ev.of_eq (Ev.now _) ?_)
    have : a ≠ b := fun e => hl (by rw [e])
    simp [this]
end Go.Proofs.Ythgkgimjepbegaa.L
