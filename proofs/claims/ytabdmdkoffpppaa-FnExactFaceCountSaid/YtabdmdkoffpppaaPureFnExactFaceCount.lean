/- Both sides count the same faces. -/
import Derived.Test.YtabdmdkoffpppaaCubeIdx
import Derived.Test.YtabdmdkoffpppaaFx0
import Derived.Test.YtabdmdkoffpppaaFx14
import Derived.Test.YtabdmdkoffpppaaFx15
import Derived.Test.YtabdmdkoffpppaaFx16
namespace Go.Proofs.Ytabdmdkoffpppaa.L
open Go.RowKit Go.Proofs.YtabdmdkoffpppaaW.PrintWords Go.Proofs.YtabdmdkoffpppaaW.PrintLast Go.Proofs.YtabdmdkoffpppaaW.PrintMore Go.Proofs.Ytabdmdkoffpppaa.F
set_option linter.unusedVariables false
set_option linter.unusedSimpArgs false
def cntF (l : List Cube) : List Cube → Int → Int
  | [], n => n
  | d :: r, n => cntF l r (if idxQ l d ≥ 0 then n else wrap64 (n + 1))
def faceF (l : List Cube) : List Cube → Int → Int
  | [], n => n
  | c :: r, n => faceF l r (cntF l (nbQ c) n)
def faceR (l : List Cube) : Int × Int := if solidB l = true then (faceF l l 0, 0) else (0, 1)
theorem specFace_l (l : List Cube) (hs : small l) (c : Cube) (i : Int) (hi0 : 0 ≤ i) (hi1 : i < (l.length : Int)) (hrd : rd_T57 l i = c) {r : Int × Int} : ∀ (suf pre : List Cube) (n : Int), stepsQ = pre ++ suf →
    Ev (fun k => spec_FaceCount.l0 k l (cntF l (suf.map (addQ c)) n) (wrap64 (i + 1))) r → Ev (fun k => spec_FaceCount.l1 k l n i (pre.length : Int)) r
  | [], pre, n, hx, hc => by
    refine Ev.succ ?_
    have hp : pre.length = 6 := by have := congrArg List.length hx; simp [stepsQ] at this; omega
    simp only [spec_FaceCount.l1]
    exact Ev.neg (by omega) hc
  | d :: suf, pre, n, hx, hc => by
    refine Ev.succ ?_
    have hp : pre.length + (suf.length + 1) = 6 := by have := congrArg List.length hx; simp [stepsQ] at this; omega
    have h6 : stepsQ.length = 6 := rfl
    have ew : wrap64 ((pre.length : Int) + 1) = ((pre ++ [d]).length : Int) := by rw [w64 (by omega) (by omega)]; simp
    have hadd : spec_l09Add.f c.f0 c.f1 c.f2 (rd_T57 stepsQ (pre.length : Int)).f0 (rd_T57 stepsQ (pre.length : Int)).f1 (rd_T57 stepsQ (pre.length : Int)).f2 = some ((addQ c d).f0, (addQ c d).f1, (addQ c d).f2) := by
      rw [at_preQ hx]; rfl
    have hi (n' : Int) (hc' : Ev (fun k => spec_FaceCount.l0 k l (cntF l (suf.map (addQ c)) n') (wrap64 (i + 1))) r) := specFace_l l hs c i hi0 hi1 hrd suf (pre ++ [d]) n' (by rw [hx]; simp) hc'
    simp only [spec_FaceCount.l1, hrd, ew]
    refine Ev.pos (by omega) (Ev.pos hi0 (Ev.pos hi1 (Ev.bind0 steps_eq (Ev.pos (by omega) (Ev.pos (by omega) (Ev.bind0 hadd (Ev.bind (specIndexQ_ev l (addQ c d) hs) ?_)))))))
    rw [List.map_cons, cntF] at hc
    by_cases hm : idxQ l (addQ c d) ≥ 0
    · rw [if_pos hm] at hc
      exact Ev.neg (by omega) (hi _ hc)
    · rw [if_neg hm] at hc
      exact Ev.pos (by omega) (hi _ hc)
theorem specFace_ev (l : List Cube) (hs : small l) : Ev (fun k => spec_FaceCount.f k l) (faceR l) := by
  unfold spec_FaceCount.f faceR
  refine Ev.bind (specSolid_ev l hs) (Ev.if_ (fun h => ?_) (fun _ => Ev.now _))
  have hok := (solidB_iff.1 h).1
  refine loop_list l (fun k i (n : Int) => spec_FaceCount.l0 k l n i) (fun _ suf n => (faceF l suf n, 0)) (fun _ _ => True) ?_ ?_ 0 trivial
  · intro n _
    simp only [spec_FaceCount.l0, len_lt, if_false]
    exact Ev.now _
  · intro pre c suf n hx _ ih
    have hp := pre_len hx
    simp only [spec_FaceCount.l0, pre_lt hx, if_true]
    refine specFace_l l hs c (pre.length : Int) (by omega) (by omega) (at_preQ hx) stepsQ [] n rfl ?_
    rw [pre_w hx hs, steps_nb (hok c (by rw [hx]; simp))]
    exact ih _ trivial
theorem implFace_l (l : List Cube) (hs : small l) (xs : List Cube) (nb : List Cube) (hn : nb.length = 6) (len i : Int) {r : Int × Int} : ∀ (suf pre : List Cube) (n : Int), nb = pre ++ suf →
    Ev (fun k => impl_FaceCount.l0 k l (cntF l suf n) xs len (wrap64 (i + 1))) r → Ev (fun k => impl_FaceCount.l1 k l n xs len i nb (nb.length : Int) (pre.length : Int)) r
  | [], pre, n, hx, hc => by
    refine Ev.succ ?_
    rw [List.append_nil] at hx
    subst hx
    simp only [impl_FaceCount.l1]
    exact Ev.neg (by omega) hc
  | d :: suf, pre, n, hx, hc => by
    refine Ev.succ ?_
    have hsm : small nb := by unfold small; omega
    have hi (n' : Int) (hc' : Ev (fun k => impl_FaceCount.l0 k l (cntF l suf n') xs len (wrap64 (i + 1))) r) := implFace_l l hs xs nb hn len i suf (pre ++ [d]) n' (by rw [hx]; simp) hc'
    simp only [List.length_append, List.length_singleton, Int.natCast_add] at hi
    simp only [impl_FaceCount.l1, pre_lt hx, pre_0, if_true, at_preQ hx, pre_w hx hsm]
    refine Ev.bind (implContainsQ_ev l d hs) ?_
    rw [cntF] at hc
    by_cases hm : idxQ l d ≥ 0
    · rw [if_pos hm] at hc
      exact Ev.pos (by simpa using hm) (hi _ hc)
    · rw [if_neg hm] at hc
      exact Ev.neg (by simpa using hm) (hi _ hc)
theorem implFace_ev (l : List Cube) (hs : small l) : Ev (fun k => impl_FaceCount.f k l) (faceR l) := by
  unfold impl_FaceCount.f faceR
  refine Ev.bind (implSolid_ev l hs) (Ev.if_ (fun h => ?_) (fun _ => Ev.now _))
  refine loop_list l (fun k i (n : Int) => impl_FaceCount.l0 k l n l (l.length : Int) i) (fun _ suf n => (faceF l suf n, 0)) (fun _ _ => True) ?_ ?_ 0 trivial
  · intro n _
    simp only [impl_FaceCount.l0, len_lt, if_false]
    exact Ev.now _
  · intro pre c suf n hx _ ih
    simp only [impl_FaceCount.l0, pre_lt hx, pre_0, if_true, at_preQ hx]
    refine Ev.bind0 (implAroundQ_eq c) ?_
    refine implFace_l l hs l (nbQ c) rfl _ _ (nbQ c) [] n rfl ?_
    rw [pre_w hx hs]
    exact ih _ trivial
end Go.Proofs.Ytabdmdkoffpppaa.L
namespace Go.Proofs.Ytabdmdkoffpppaa.Pure
open Go.RowKit Go.Proofs.YtabdmdkoffpppaaW.PrintWords Go.Proofs.Ytabdmdkoffpppaa.F Go.Proofs.Ytabdmdkoffpppaa.L
set_option linter.unusedVariables false

theorem FnExactFaceCount (l : List LCube) {V : LCube → Prop} (hv : l.length ≤ 9223372036854775807 ∧ ∀ a ∈ l, V a) : ∃ k, laws_FnExactFaceCount.f k l = some true := by
  refine Ev.rounds ?_
  unfold laws_FnExactFaceCount.f
  rw [szCubeS_eq l 1048576 (by decide) (by decide) hv.1]
  simp only [Option.bind_some]
  by_cases h : (1048576 : Int) - (l.length : Int) < 0
  · rw [if_pos h]; exact Ev.pos (by decide) (Ev.now _)
  · rw [if_neg h]
    refine Ev.neg h ?_
    have la : l.length ≤ 1048576 := by omega
    have lm : (l.map cubeOf).length ≤ 1048576 := by simpa using la
    have hs : small (l.map cubeOf) := by unfold small; omega
    refine Ev.bind (toCubeS_ev l la) (Ev.bind (specFace_ev _ hs) (Ev.bind (toCubeS_ev l la) (Ev.bind (implFace_ev _ hs) (Ev.pos rfl ?_))))
    refine Ev.step (fun k => laws_FnExactFaceCount.j0.eq_2 _ _ _ _) (Ev.neg (by simp) ?_)
    exact Ev.bind (toCubeS_ev l la) (Ev.bind (eqCubeS_ev _ hs) (Ev.pos rfl (Ev.now _)))
end Go.Proofs.Ytabdmdkoffpppaa.Pure
