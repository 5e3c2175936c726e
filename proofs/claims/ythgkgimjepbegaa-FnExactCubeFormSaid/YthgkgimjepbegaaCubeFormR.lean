/- The form of a solid, with its code. -/
import Derived.Test.YthgkgimjepbegaaCubeForm
import Derived.Test.YthgkgimjepbegaaFx12
namespace Go.Proofs.Ythgkgimjepbegaa.L
open Go.RowKit Go.Proofs.YthgkgimjepbegaaW.PrintWords Go.Proofs.YthgkgimjepbegaaW.PrintLast Go.Proofs.YthgkgimjepbegaaW.PrintMore Go.Proofs.Ythgkgimjepbegaa.F
set_option linter.unusedVariables false
set_option linter.unusedSimpArgs false
/-- The form, with its code. -/
def cubeR (l : List Cube) (t : Int) : List Cube × Int := if solidB l = true then (if 0 ≤ t ∧ t ≤ 47 then (if codeQ l = 0 then (formQ l t, 0) else ([], codeQ l)) else ([], 2)) else ([], 1)
theorem cubeR_len (l : List Cube) (t : Int) : (cubeR l t).1.length ≤ l.length := by
  unfold cubeR
  split
  · split
    · split
      · rw [formQ_len]; exact Nat.le_refl _
      · simp
    · simp
  · simp
theorem specCubeR_ev (l : List Cube) (t : Int) (hl : l.length ≤ 1048576) : Ev (fun k => spec_CubeForm.f k l t) (cubeR l t) := by
  unfold spec_CubeForm.f cubeR
  refine Ev.bind (specCodeQ_ev l hl) ?_
  by_cases hs : solidB l = true
  · have hc : codeQ l ≠ 1 := by unfold codeQ; rw [if_pos hs]; split <;> decide
    rw [if_pos hs]
    simp only [in_eq, Option.bind_some]
    refine Ev.neg hc (Ev.step (fun k => spec_CubeForm.j0.eq_2 _ _ _ _ _) ?_)
    by_cases ht : 0 ≤ t ∧ t ≤ 47
    · rw [if_pos ht]
      refine Ev.neg (by simp [ht]) ?_
      by_cases h0 : codeQ l = 0
      · rw [if_pos h0]
        exact Ev.pos h0 (Ev.bind (specFormQ_ev l t ht.1 (by omega) hl (solid_pos hs)) (Ev.now _))
      · rw [if_neg h0]
        exact Ev.neg h0 (Ev.now _)
    · rw [if_neg ht]
      exact Ev.pos (by simp [ht]) (Ev.neg (by decide) (Ev.now _))
  · have hc : codeQ l = 1 := by unfold codeQ; rw [if_neg hs]
    rw [if_neg hs]
    refine Ev.pos hc (Ev.step (fun k => spec_CubeForm.j0.eq_2 _ _ _ _ _) ?_)
    refine Ev.neg (by simp) (Ev.neg (by omega) (Ev.of_eq (Ev.now _) ?_))
    rw [hc]
theorem implCubeR_ev (l : List Cube) (t : Int) (hl : l.length ≤ 1048576) : Ev (fun k => impl_CubeForm.f k l t) (cubeR l t) := by
  have hs : small l := by unfold small; omega
  unfold impl_CubeForm.f cubeR
  refine Ev.bind (implSolid_ev l hs) (Ev.if_ (fun h => ?_) (fun _ => Ev.now _))
  simp only [within_eq, Option.bind_some, decide_eq_true_eq]
  refine Ev.if_ (fun ht => ?_) (fun _ => Ev.now _)
  refine Ev.bind (implCodeQ_ev l hl) (Ev.if_ (fun h0 => ?_) (fun _ => Ev.now _))
  exact Ev.bind (implFormQ_ev l t ht.1 (by omega) hl (solid_pos h) (solidB_iff.1 h).1) (Ev.now _)
end Go.Proofs.Ythgkgimjepbegaa.L
