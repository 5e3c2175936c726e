/- Lattice turns and the forms. -/
import Derived.Test.YtnohbmnoioikbaaLattice
import Derived.Test.YtnohbmnoioikbaaNormal
import Derived.Test.YtnohbmnoioikbaaTriShape
import Derived.Test.YtnohbmnoioikbaaFx10
import Derived.Test.YtnohbmnoioikbaaFx18
import Derived.Test.YtnohbmnoioikbaaFx6
namespace Go.Proofs.Ytnohbmnoioikbaa.L
open Go.RowKit Go.Proofs.YtnohbmnoioikbaaW.PrintWords Go.Proofs.YtnohbmnoioikbaaW.PrintLast Go.Proofs.YtnohbmnoioikbaaW.PrintMore Go.Proofs.Ytnohbmnoioikbaa.F
set_option linter.unusedVariables false
set_option linter.unusedSimpArgs false
/-- Moved by multiples of 3. -/
def normalT (l : List Cell) : List Cell := moveL l (wrap64 ((leastOf l).1 % 3 - (leastOf l).1)) (wrap64 ((leastOf l).2 % 3 - (leastOf l).2))
theorem normalT_len (l : List Cell) : (normalT l).length = l.length := moveL_len _ _ _
theorem specNormal0_ev (l : List Cell) (hl : l.length ≤ 1048576) (h0 : 0 < l.length) : Ev (fun k => spec_l07Normal.f k 0 l) (normalT l) := by
  unfold spec_l07Normal.f
  refine Ev.bind (specLeast_ev l (by unfold small; omega) h0) (Ev.neg (by decide) ?_)
  simp only [l01Mod3, Option.bind_some]
  exact Ev.bind (specMove_ev l _ _ hl) (Ev.now _)
theorem implNormalT_ev (l : List Cell) (hl : l.length ≤ 1048576) (h0 : 0 < l.length) : Ev (fun k => impl_normalTriangles.f k l) (normalT l) := by
  unfold impl_normalTriangles.f
  refine Ev.bind (implCorner_ev l (by unfold small; omega) h0) ?_
  simp only [modOf3, Option.bind_some]
  exact Ev.bind (implMoved_ev l _ _ hl) (Ev.now _)
theorem specForm0_ev (l : List Cell) (t : Int) (ht : 0 ≤ t) (hl : l.length ≤ 1048576) (h0 : 0 < l.length) : Ev (fun k => spec_l07Form.f k 0 l t) (normalT (latL l t)) := by
  have hs : small l := by unfold small; omega
  unfold spec_l07Form.f latL
  have := loop_list l (fun k i (s : List Cell) => spec_l07Form.l0 k 0 l t s i) (fun pre suf s => normalT (sortC (s ++ suf.map (latD t)))) (fun pre s => s.length = pre.length) ?_ ?_ [] rfl
  · simpa using this
  · intro s hi
    have hi' : s.length = l.length := hi
    simp only [spec_l07Form.l0, len_lt, if_false]
    refine Ev.bind (specSort_ev s (by omega)) (Ev.bind (specNormal0_ev _ (by rw [sortC_len]; omega) (by rw [sortC_len]; omega)) (Ev.of_eq (Ev.now _) (by simp)))
  · intro pre c suf s hx hi ih
    have hp := pre_len hx
    simp only [spec_l07Form.l0, pre_lt hx, pre_0, if_true, at_pre hx, pre_w hx hs]
    refine Ev.bind (specLat_ev c t ht) (Ev.pos (by omega) (Ev.of_eq (ih (s ++ [latD t c]) (by simp [hi])) (by simp)))
theorem implTriForm_ev (l : List Cell) (t : Int) (ht : 0 ≤ t) (hl : l.length ≤ 1048576) (h0 : 0 < l.length) : Ev (fun k => impl_triangleForm.f k l t) (normalT (latL l t)) := by
  unfold impl_triangleForm.f
  exact Ev.bind (implLattice_ev l t ht hl h0) (Ev.bind (implNormalT_ev _ (by rw [latL_len]; omega) (by rw [latL_len]; omega)) (Ev.now _))
end Go.Proofs.Ytnohbmnoioikbaa.L
