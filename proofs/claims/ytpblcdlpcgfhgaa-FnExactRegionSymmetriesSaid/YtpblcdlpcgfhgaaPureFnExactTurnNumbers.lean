/- Both sides answer alike on the permutation of a turn. -/
import Derived.Test.YtpblcdlpcgfhgaaBsearch
import Derived.Test.YtpblcdlpcgfhgaaNormal
import Derived.Test.YtpblcdlpcgfhgaaMarkI
import Derived.Test.YtpblcdlpcgfhgaaFx10
import Derived.Test.YtpblcdlpcgfhgaaFx31
import Derived.Test.YtpblcdlpcgfhgaaFx45
namespace Go.Proofs.Ytpblcdlpcgfhgaa.L
open Go.RowKit Go.Proofs.YtpblcdlpcgfhgaaW.PrintWords Go.Proofs.YtpblcdlpcgfhgaaW.PrintLast Go.Proofs.YtpblcdlpcgfhgaaW.PrintMore Go.Proofs.Ytpblcdlpcgfhgaa.F
set_option linter.unusedVariables false
set_option linter.unusedSimpArgs false
def turnNums (l : List Cell) (t : Int) : List Int × Bool := setF l (normalL (l.map (turnD t))) []
theorem region_sorted' {l : List Cell} (h : regionB l = true) : l.Pairwise ltC ∧ 0 < l.length ∧ l.length ≤ 40 := by
  unfold regionB at h
  rw [Bool.and_eq_true] at h
  have := shapeB_iff.1 h.1
  exact ⟨this.2.1, by omega, this.2.2.2⟩
theorem specNumbers_ev (l : List Cell) (t : Int) (ht : 0 ≤ t) (hl : l.length ≤ 1048576) (h0 : 0 < l.length) : Ev (fun k => spec_l10Numbers.f k l t) (turnNums l t) := by
  have hs : small l := by unfold small; omega
  unfold spec_l10Numbers.f turnNums
  refine loop_list l (fun k i (s : List Cell) => spec_l10Numbers.l0 k l t s i) (fun pre suf s => setF l (normalL (s ++ suf.map (turnD t))) []) (fun pre s => s.length = pre.length) ?_ ?_ [] rfl
  · intro s hi
    have hi' : s.length = l.length := hi
    have hsl : s.length ≤ 1048576 := by omega
    simp only [spec_l10Numbers.l0, len_lt, if_false]
    refine Ev.bind (specLeast_ev s (by unfold small; omega) (by omega)) (Ev.bind (specMove_ev s _ _ hsl) ?_)
    have hm := moveL_len s (wrap64 (-(leastOf s).1)) (wrap64 (-(leastOf s).2))
    have hms : small (normalL s) := by unfold small; rw [normalL_len]; omega
    refine Ev.of_eq (r := setF l (normalL s) []) ?_ (by simp)
    refine loop_list (normalL s) (fun k i (q : List Int) => spec_l10Numbers.l1 k l (normalL s) q i) (fun pre suf q => setF l suf q) (fun pre q => q.length ≤ pre.length) ?_ ?_ [] (Nat.le_refl _)
    · intro q _
      simp only [spec_l10Numbers.l1, len_lt, if_false]
      exact Ev.now _
    · intro pre c suf q hx hq ih
      have hp := pre_len hx
      rw [normalL_len] at hp
      simp only [spec_l10Numbers.l1, pre_lt hx, pre_0, if_true, at_pre hx, pre_w hx hms]
      refine Ev.bind (specIndex_ev l c hs) ?_
      unfold setF
      refine Ev.if_ (fun _ => Ev.now _) (fun _ => Ev.pos (by omega) (ih _ (by simp; omega)))
  · intro pre c suf s hx hi ih
    have hp := pre_len hx
    simp only [spec_l10Numbers.l0, pre_lt hx, pre_0, if_true, at_pre hx, pre_w hx hs]
    refine Ev.bind (specTurn_ev c t ht) (Ev.pos (by omega) (Ev.of_eq (ih (s ++ [turnD t c]) (by simp [hi])) ?_))
    simp
theorem implNumbers_ev (l : List Cell) (t : Int) (ht : 0 ≤ t) (hl : l.length ≤ 1048576) (h0 : 0 < l.length) (hp : l.Pairwise ltC) : Ev (fun k => impl_turnNumbers.f k l t) (turnNums l t) := by
  have hs : small l := by unfold small; omega
  unfold impl_turnNumbers.f turnNums
  refine loop_list l (fun k i (s : List Cell) => impl_turnNumbers.l0 k l t s l (l.length : Int) i) (fun pre suf s => setF l (normalL (s ++ suf.map (turnD t))) []) (fun pre s => s.length = pre.length) ?_ ?_ [] rfl
  · intro s hi
    have hi' : s.length = l.length := hi
    have hsl : s.length ≤ 1048576 := by omega
    simp only [impl_turnNumbers.l0, len_lt, if_false]
    refine Ev.bind (implNormal_ev s hsl (by omega)) (Ev.bind (implSet_ev l _ hl (by rw [normalL_len]; omega) hp) (Ev.of_eq (Ev.now _) ?_))
    simp
  · intro pre c suf s hx hi ih
    have hp' := pre_len hx
    simp only [impl_turnNumbers.l0, pre_lt hx, pre_0, if_true, at_pre hx, pre_w hx hs]
    refine Ev.bind (implTurn_ev c t ht) (Ev.pos (by omega) (Ev.of_eq (ih (s ++ [turnD t c]) (by simp [hi])) ?_))
    simp
def turnNumbers (l : List Cell) (t : Int) : List Int × Int := if regionB l = true then (if 0 ≤ t ∧ t ≤ 7 then (if (turnNums l t).2 = true then ((turnNums l t).1, 0) else ([], 5)) else ([], 2)) else ([], 1)
theorem turnNumbers_len (l : List Cell) (t : Int) : (turnNumbers l t).1.length ≤ l.length := by
  unfold turnNumbers
  have h := setF_len l (normalL (l.map (turnD t))) []
  rw [normalL_len] at h
  split
  · split
    · split
      · unfold turnNums; simpa using h
      · simp
    · simp
  · simp
theorem specTurnNumbers_ev (l : List Cell) (t : Int) (hl : l.length ≤ 1048576) : Ev (fun k => spec_TurnNumbers.f k l t) (turnNumbers l t) := by
  have hs : small l := by unfold small; omega
  unfold spec_TurnNumbers.f turnNumbers
  refine Ev.bind (specIsRegion_ev l hs) (Ev.if_ (fun hr => ?_) (fun _ => Ev.now _))
  have h1 : spec_l03Is.f t = some (decide (0 ≤ t ∧ t ≤ 7)) := by unfold spec_l03Is.f; rw [in_eq]; rfl
  simp only [h1, Option.bind_some, decide_eq_true_eq]
  refine Ev.if_ (fun ht => ?_) (fun _ => Ev.now _)
  exact Ev.bind (specNumbers_ev l t ht.1 hl (region_sorted' hr).2.1) (Ev.if_ (fun _ => Ev.now _) (fun _ => Ev.now _))
theorem implTurnNumbers_ev (l : List Cell) (t : Int) (hl : l.length ≤ 1048576) : Ev (fun k => impl_TurnNumbers.f k l t) (turnNumbers l t) := by
  have hs : small l := by unfold small; omega
  unfold impl_TurnNumbers.f turnNumbers
  refine Ev.bind (implIsRegion_ev l hs) (Ev.if_ (fun hr => ?_) (fun _ => Ev.now _))
  have h1 : impl_isTurn.f t = some (decide (0 ≤ t ∧ t ≤ 7)) := by unfold impl_isTurn.f; rw [within_eq]; rfl
  simp only [h1, Option.bind_some, decide_eq_true_eq]
  refine Ev.if_ (fun ht => ?_) (fun _ => Ev.now _)
  exact Ev.bind (implNumbers_ev l t ht.1 hl (region_sorted' hr).2.1 (region_sorted' hr).1) (Ev.if_ (fun _ => Ev.now _) (fun _ => Ev.now _))
end Go.Proofs.Ytpblcdlpcgfhgaa.L
namespace Go.Proofs.Ytpblcdlpcgfhgaa.Pure
open Go.RowKit Go.Proofs.YtpblcdlpcgfhgaaW.PrintWords Go.Proofs.Ytpblcdlpcgfhgaa.F Go.Proofs.Ytpblcdlpcgfhgaa.L
set_option linter.unusedVariables false

end Go.Proofs.Ytpblcdlpcgfhgaa.Pure
