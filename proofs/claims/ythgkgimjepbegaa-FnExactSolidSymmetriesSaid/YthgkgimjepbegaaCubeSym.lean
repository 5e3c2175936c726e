/- The symmetries of a solid. -/
import Derived.Test.YthgkgimjepbegaaCubeEq
import Derived.Test.YthgkgimjepbegaaFx17
namespace Go.Proofs.Ythgkgimjepbegaa.L
open Go.RowKit Go.Proofs.YthgkgimjepbegaaW.PrintWords Go.Proofs.YthgkgimjepbegaaW.PrintLast Go.Proofs.YthgkgimjepbegaaW.PrintMore Go.Proofs.Ythgkgimjepbegaa.F
set_option linter.unusedVariables false
set_option linter.unusedSimpArgs false
/-- The symmetries from t on, n of them looked at. -/
def symQ (l : List Cube) : Nat → Int → List Int
  | 0, _ => []
  | n + 1, t => if formQ l t = normalQ l then t :: symQ l n (t + 1) else symQ l n (t + 1)
theorem symQ_len (l : List Cube) : ∀ (n : Nat) (t : Int), (symQ l n t).length ≤ n
  | 0, _ => Nat.le_refl _
  | n + 1, t => by
    unfold symQ
    have := symQ_len l n (t + 1)
    split
    · simp; omega
    · omega
theorem specSymQ_l (l : List Cube) (hl : l.length ≤ 1048576) (hp : 0 < l.length) : ∀ (n : Nat) (t : Int) (s : List Int), 0 ≤ t → t + (n : Int) = 48 → s.length + n ≤ 48 → Ev (fun k => spec_SolidSymmetries.l0 k l s t) (s ++ symQ l n t, (0 : Int))
  | 0, t, s, h1, h2, h3 => by
    refine Ev.succ ?_
    simp only [spec_SolidSymmetries.l0]
    exact Ev.neg (by omega) (Ev.of_eq (Ev.now _) (by simp [symQ]))
  | n + 1, t, s, h1, h2, h3 => by
    refine Ev.succ ?_
    simp only [spec_SolidSymmetries.l0]
    have ew : wrap64 (t + 1) = t + 1 := w64 (by omega) (by omega)
    have hf : small (formQ l t) := by unfold small; rw [formQ_len]; omega
    refine Ev.pos (by omega) (Ev.bind (specFormQ_ev l t h1 (by omega) hl hp) (Ev.bind (specNormalQ_ev l (by omega) hp) (Ev.bind (specCompareQ_ev _ _ hf) ?_)))
    simp only [ew]
    unfold symQ
    by_cases h : formQ l t = normalQ l
    · rw [if_pos h]
      exact Ev.pos ((cmpSQ_zero _ _).2 h) (Ev.pos (by omega) (Ev.of_eq (specSymQ_l l hl hp n (t + 1) (s ++ [t]) (by omega) (by omega) (by simp; omega)) (by simp)))
    · rw [if_neg h]
      exact Ev.neg (fun e => h ((cmpSQ_zero _ _).1 e)) (specSymQ_l l hl hp n (t + 1) s (by omega) (by omega) (by omega))
theorem implSymQ_l (l : List Cube) (hl : l.length ≤ 1048576) (hp : 0 < l.length) (ho : ∀ c ∈ l, okQ c) : ∀ (n : Nat) (t : Int) (s : List Int), 0 ≤ t → t + (n : Int) = 48 → s.length + n ≤ 48 → Ev (fun k => impl_SolidSymmetries.l0 k l s (normalQ l) t) (s ++ symQ l n t, (0 : Int))
  | 0, t, s, h1, h2, h3 => by
    refine Ev.succ ?_
    simp only [impl_SolidSymmetries.l0]
    exact Ev.neg (by omega) (Ev.of_eq (Ev.now _) (by simp [symQ]))
  | n + 1, t, s, h1, h2, h3 => by
    refine Ev.succ ?_
    simp only [impl_SolidSymmetries.l0]
    have ew : wrap64 (t + 1) = t + 1 := w64 (by omega) (by omega)
    have hf : small (formQ l t) := by unfold small; rw [formQ_len]; omega
    refine Ev.pos (by omega) (Ev.bind (implFormQ_ev l t h1 (by omega) hl hp ho) (Ev.bind (equalQ_ev _ _ hf) ?_))
    simp only [ew, decide_eq_true_eq]
    unfold symQ
    by_cases h : formQ l t = normalQ l
    · rw [if_pos h]
      exact Ev.pos h (Ev.pos (by omega) (Ev.of_eq (implSymQ_l l hl hp ho n (t + 1) (s ++ [t]) (by omega) (by omega) (by simp; omega)) (by simp)))
    · rw [if_neg h]
      exact Ev.neg h (implSymQ_l l hl hp ho n (t + 1) s (by omega) (by omega) (by omega))
def symR (l : List Cube) : List Int × Int := if codeQ l = 0 then (symQ l 48 0, 0) else ([], codeQ l)
theorem symR_len (l : List Cube) : (symR l).1.length ≤ 48 := by
  unfold symR
  split
  · exact symQ_len l 48 0
  · simp
theorem specSymR_ev (l : List Cube) (hl : l.length ≤ 1048576) : Ev (fun k => spec_SolidSymmetries.f k l) (symR l) := by
  unfold spec_SolidSymmetries.f symR
  refine Ev.bind (specCodeQ_ev l hl) (Ev.if_ (fun h => ?_) (fun _ => Ev.now _))
  exact Ev.of_eq (specSymQ_l l hl (solid_pos (codeQ_zero h).1) 48 0 [] (by omega) (by omega) (by simp)) (by simp)
theorem implSymR_ev (l : List Cube) (hl : l.length ≤ 1048576) : Ev (fun k => impl_SolidSymmetries.f k l) (symR l) := by
  unfold impl_SolidSymmetries.f symR
  refine Ev.bind (implCodeQ_ev l hl) (Ev.if_ (fun h => ?_) (fun _ => Ev.now _))
  refine Ev.bind (implNormalQ_ev l (by omega) (solid_pos (codeQ_zero h).1)) ?_
  exact Ev.of_eq (implSymQ_l l hl (solid_pos (codeQ_zero h).1) (solidB_iff.1 (codeQ_zero h).1).1 48 0 [] (by omega) (by omega) (by simp)) (by simp)
end Go.Proofs.Ythgkgimjepbegaa.L
