/- Comparing solids. -/
import Derived.Test.YthgkgimjepbegaaCubeForm
import Derived.Test.YthgkgimjepbegaaFx0
import Derived.Test.YthgkgimjepbegaaFx16
namespace Go.Proofs.Ythgkgimjepbegaa.L
open Go.RowKit Go.Proofs.YthgkgimjepbegaaW.PrintWords Go.Proofs.YthgkgimjepbegaaW.PrintLast Go.Proofs.YthgkgimjepbegaaW.PrintMore Go.Proofs.Ythgkgimjepbegaa.F
set_option linter.unusedVariables false
set_option linter.unusedSimpArgs false
instance decEqCube : DecidableEq Cube := fun a b => decidable_of_iff (a.f0 = b.f0 ∧ a.f1 = b.f1 ∧ a.f2 = b.f2) (by cases a; cases b; simp)
def cmpLQ : List Cube → List Cube → Int
  | [], _ => 0
  | _ :: _, [] => 0
  | a :: r, b :: s => if ltQ a b then -1 else if ltQ b a then 1 else cmpLQ r s
def cmpSQ (a b : List Cube) : Int := if a.length = b.length then cmpLQ a b else if a.length < b.length then -1 else 1
theorem cmpLQ_zero : ∀ (a b : List Cube), a.length = b.length → (cmpLQ a b = 0 ↔ a = b)
  | [], b, h => by
    have : b = [] := List.length_eq_zero_iff.1 h.symm
    simp [cmpLQ, this]
  | a :: r, [], h => by simp at h
  | a :: r, b :: s, h => by
    unfold cmpLQ
    by_cases h1 : ltQ a b
    · rw [if_pos h1]
      have : a ≠ b := fun e => ltQ_irrefl b (e ▸ h1)
      simp [this]
    · rw [if_neg h1]
      by_cases h2 : ltQ b a
      · rw [if_pos h2]
        have : a ≠ b := fun e => ltQ_irrefl b (e ▸ h2)
        simp [this]
      · rw [if_neg h2, cmpLQ_zero r s (by simpa using h)]
        simp [ltQ_total h1 h2]
theorem cmpSQ_zero (a b : List Cube) : cmpSQ a b = 0 ↔ a = b := by
  unfold cmpSQ
  by_cases h : a.length = b.length
  · rw [if_pos h]; exact cmpLQ_zero a b h
  · rw [if_neg h]
    have : a ≠ b := fun e => h (by rw [e])
    split <;> simp [this]
theorem rdQ (b : List Cube) (i : Nat) (h : i < b.length) : rd_T62 b (i : Int) = b[i] := by
  unfold rd_T62
  rw [List.getD_eq_getElem?_getD, Int.toNat_natCast, List.getElem?_eq_getElem h]
  rfl
theorem specCompareQ_ev (a b : List Cube) (ha : small a) : Ev (fun k => spec_l09Compare.f k a b) (cmpSQ a b) := by
  unfold spec_l09Compare.f cmpSQ
  by_cases hl : a.length = b.length
  · rw [if_pos hl]
    refine Ev.pos (by omega) ?_
    refine loop_list a (fun k i (_ : Unit) => spec_l09Compare.l0 k a b i) (fun pre suf _ => cmpLQ suf (b.drop pre.length)) (fun _ _ => True) ?_ ?_ () trivial
    · intro _ _
      simp only [spec_l09Compare.l0, len_lt, if_false]
      exact Ev.of_eq (Ev.now _) (by simp [cmpLQ])
    · intro pre c suf _ hx _ ih
      have hp := pre_len hx
      have hpb : pre.length < b.length := by omega
      have hlt : ((pre.length : Int) < (b.length : Int)) = True := by simp; omega
      have eb := rdQ b pre.length hpb
      have e1 := less9_eq c b[pre.length]
      have e2 := less9_eq b[pre.length] c
      simp only [spec_l09Compare.l0, pre_lt hx, pre_0, if_true, hlt, at_preQ hx, pre_w hx ha, eb]
      rw [List.drop_eq_getElem_cons hpb, cmpLQ]
      have hih := ih () trivial
      rw [List.length_append, List.length_singleton] at hih
      rw [e1, e2]
      generalize b.drop (pre.length + 1) = R at hih ⊢
      generalize b[pre.length] = d at hih ⊢
      simp only [Option.bind_some, decide_eq_true_eq]
      by_cases h1 : ltQ c d
      · rw [if_pos h1]
        exact Ev.pos h1 (Ev.now _)
      · rw [if_neg h1]
        refine Ev.neg h1 ?_
        by_cases h2 : ltQ d c
        · rw [if_pos h2]
          exact Ev.pos h2 (Ev.now _)
        · rw [if_neg h2]
          exact Ev.neg h2 hih
  · rw [if_neg hl]
    refine Ev.neg (by omega) ?_
    by_cases h : a.length < b.length
    · rw [if_pos h]; exact Ev.pos (by omega) (Ev.now _)
    · rw [if_neg h]; exact Ev.neg (by omega) (Ev.now _)
end Go.Proofs.Ythgkgimjepbegaa.L
