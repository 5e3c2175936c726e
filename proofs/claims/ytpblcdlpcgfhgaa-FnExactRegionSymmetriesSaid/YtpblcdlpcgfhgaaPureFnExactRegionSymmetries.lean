/- Both sides answer alike on the symmetries of a region. -/
import Derived.Test.YtpblcdlpcgfhgaaTurned
import Derived.Test.YtpblcdlpcgfhgaaEqualC
import Derived.Test.YtpblcdlpcgfhgaaPureFnExactTurnNumbers
import Derived.Test.YtpblcdlpcgfhgaaMarkI
import Derived.Test.YtpblcdlpcgfhgaaFx10
import Derived.Test.YtpblcdlpcgfhgaaFx11
import Derived.Test.YtpblcdlpcgfhgaaFx14
import Derived.Test.YtpblcdlpcgfhgaaFx7
namespace Go.Proofs.Ytpblcdlpcgfhgaa.L
open Go.RowKit Go.Proofs.YtpblcdlpcgfhgaaW.PrintWords Go.Proofs.YtpblcdlpcgfhgaaW.PrintLast Go.Proofs.YtpblcdlpcgfhgaaW.PrintMore Go.Proofs.Ytpblcdlpcgfhgaa.F
set_option linter.unusedVariables false
set_option linter.unusedSimpArgs false
theorem implForm_ev (l : List Cell) (t : Int) (ht : 0 ≤ t) (hl : l.length ≤ 1048576) (h0 : 0 < l.length) : Ev (fun k => impl_form.f k l t) (formC l t) := by
  have hs : small l := by unfold small; omega
  unfold impl_form.f formC
  refine Ev.pos (by omega) (Ev.pos (by omega) ?_)
  have := loop_list l (fun k i (s : List Cell) => impl_form.l0 k t s l (l.length : Int) i) (fun pre suf s => normalL (sortC (s ++ suf.map (turnD t)))) (fun pre s => s.length = pre.length) ?_ ?_ [] rfl
  · simpa using this
  · intro s hi
    have hi' : s.length = l.length := hi
    simp only [impl_form.l0, len_lt, if_false, implSorted_eq s (by omega) (by omega), Option.bind_some]
    exact Ev.bind (implNormal_ev _ (by rw [sortC_len]; omega) (by rw [sortC_len]; omega)) (Ev.of_eq (Ev.now _) (by simp))
  · intro pre c suf s hx hi ih
    have hp := pre_len hx
    simp only [impl_form.l0, pre_lt hx, pre_0, if_true, at_pre hx, pre_w hx hs]
    refine Ev.bind (implTurn_ev c t ht) (Ev.pos (by omega) (Ev.of_eq (ih (s ++ [turnD t c]) (by simp [hi])) (by simp)))
/-- From some turn on, those that are symmetries. -/
def symF (l : List Cell) : Nat → Int → List Int
  | 0, _ => []
  | n + 1, t => if (turnNums l t).2 = true then t :: symF l n (t + 1) else symF l n (t + 1)
theorem symF_len (l : List Cell) : ∀ (n : Nat) (t : Int), (symF l n t).length ≤ n
  | 0, _ => Nat.le_refl _
  | n + 1, t => by
    have := symF_len l n (t + 1)
    unfold symF
    split
    · rw [List.length_cons]; omega
    · omega
theorem specSym_l (l : List Cell) (hl : l.length ≤ 1048576) (h0 : 0 < l.length) : ∀ (n : Nat) (t : Int) (s : List Int), 0 ≤ t → t + (n : Int) = 8 → s.length + n ≤ 8 → Ev (fun k => spec_l10Symmetries.l0 k l s t) (s ++ symF l n t)
  | 0, t, s, h1, h2, h3 => by
    refine Ev.succ ?_
    simp only [spec_l10Symmetries.l0]
    exact Ev.neg (by omega) (Ev.of_eq (Ev.now _) (by simp [symF]))
  | n + 1, t, s, h1, h2, h3 => by
    refine Ev.succ ?_
    simp only [spec_l10Symmetries.l0]
    have ew : wrap64 (t + 1) = t + 1 := w64 (by omega) (by omega)
    refine Ev.pos (by omega) (Ev.bind (specNumbers_ev l t h1 hl h0) ?_)
    simp only [ew]
    unfold symF
    by_cases h : (turnNums l t).2 = true
    · rw [if_pos h]
      refine Ev.pos h (Ev.pos (by omega) (Ev.of_eq (specSym_l l hl h0 n (t + 1) (s ++ [t]) (by omega) (by omega) (by simp; omega)) (by simp)))
    · rw [if_neg h]
      exact Ev.neg h (specSym_l l hl h0 n (t + 1) s (by omega) (by omega) (by omega))
theorem implSym_l (l : List Cell) (hl : l.length ≤ 1048576) (h0 : l ≠ []) (ho : ∀ c ∈ l, okC c) (hs : l.Pairwise ltC) : ∀ (n : Nat) (t : Int) (s : List Int), 0 ≤ t → t + (n : Int) = 8 → s.length + n ≤ 8 → Ev (fun k => impl_symmetries.l0 k l s l t) (s ++ symF l n t)
  | 0, t, s, h1, h2, h3 => by
    refine Ev.succ ?_
    simp only [impl_symmetries.l0]
    exact Ev.neg (by omega) (Ev.of_eq (Ev.now _) (by simp [symF]))
  | n + 1, t, s, h1, h2, h3 => by
    refine Ev.succ ?_
    simp only [impl_symmetries.l0]
    have ew : wrap64 (t + 1) = t + 1 := w64 (by omega) (by omega)
    have hfl : (formC l t).length ≤ 1048576 := by unfold formC; rw [normalL_len, sortC_len]; simpa using hl
    refine Ev.pos (by omega) (Ev.bind (implForm_ev l t h1 hl (List.length_pos_iff.2 h0)) (Ev.bind (equalC_ev _ l (by unfold small; omega)) ?_))
    simp only [ew, decide_eq_true_eq]
    have hi := symm_iff h0 ho hs t
    unfold symF
    by_cases h : formC l t = l
    · have h' : (turnNums l t).2 = true := hi.1 h
      rw [if_pos h']
      refine Ev.pos h (Ev.pos (by omega) (Ev.of_eq (implSym_l l hl h0 ho hs n (t + 1) (s ++ [t]) (by omega) (by omega) (by simp; omega)) (by simp)))
    · have h' : ¬ (turnNums l t).2 = true := fun e => h (hi.2 e)
      rw [if_neg h']
      exact Ev.neg h (implSym_l l hl h0 ho hs n (t + 1) s (by omega) (by omega) (by omega))
def symR (l : List Cell) : List Int × Int := if regionB l = true then (symF l 8 0, 0) else ([], 1)
theorem symR_len (l : List Cell) : (symR l).1.length ≤ 8 := by
  unfold symR
  split
  · exact symF_len l 8 0
  · simp
theorem specSymR_ev (l : List Cell) (hl : l.length ≤ 1048576) : Ev (fun k => spec_RegionSymmetries.f k l) (symR l) := by
  have hs : small l := by unfold small; omega
  unfold spec_RegionSymmetries.f symR
  refine Ev.bind (specIsRegion_ev l hs) (Ev.if_ (fun hr => ?_) (fun _ => Ev.now _))
  unfold spec_l10Symmetries.f
  exact Ev.bind (specSym_l l hl (region_sorted' hr).2.1 8 0 [] (by omega) (by omega) (by simp)) (Ev.now _)
theorem region_own {l : List Cell} (hr : regionB l = true) : normalL l = l := by
  have hsh : shapeB l = true := by unfold regionB at hr; rw [Bool.and_eq_true] at hr; exact hr.1
  have ho := (shapeB_iff.1 hsh).1
  rw [normalL_shift (shape_ne hsh) ho]
  unfold regionB at hr
  simp only [Bool.and_eq_true, decide_eq_true_eq] at hr
  rw [hr.2.1, hr.2.2.1]
  have : shiftC 0 0 = id := by funext c; obtain ⟨c0, c1⟩ := c; simp [shiftC]
  rw [this, List.map_id]
theorem implSymR_ev (l : List Cell) (hl : l.length ≤ 1048576) : Ev (fun k => impl_RegionSymmetries.f k l) (symR l) := by
  have hs : small l := by unfold small; omega
  unfold impl_RegionSymmetries.f symR
  refine Ev.bind (implIsRegion_ev l hs) (Ev.if_ (fun hr => ?_) (fun _ => Ev.now _))
  have hsh : shapeB l = true := by unfold regionB at hr; rw [Bool.and_eq_true] at hr; exact hr.1
  have h1 := shapeB_iff.1 hsh
  have e : Ev (fun k => impl_symmetries.f k l) (symF l 8 0) := by
    unfold impl_symmetries.f
    refine Ev.bind (Ev.of_eq (implNormal_ev l hl (region_sorted' hr).2.1) (region_own hr)) ?_
    exact implSym_l l hl (shape_ne hsh) h1.1 h1.2.1 8 0 [] (by omega) (by omega) (by simp)
  exact Ev.bind e (Ev.now _)
end Go.Proofs.Ytpblcdlpcgfhgaa.L
namespace Go.Proofs.Ytpblcdlpcgfhgaa.Pure
open Go.RowKit Go.Proofs.YtpblcdlpcgfhgaaW.PrintWords Go.Proofs.Ytpblcdlpcgfhgaa.F Go.Proofs.Ytpblcdlpcgfhgaa.L
set_option linter.unusedVariables false

theorem FnExactRegionSymmetries (l : List LCell) {V : LCell → Prop} (hv : l.length ≤ 9223372036854775807 ∧ ∀ a ∈ l, V a) : ∃ k, laws_FnExactRegionSymmetries.f k l = some true := by
  refine Ev.rounds ?_
  unfold laws_FnExactRegionSymmetries.f
  rw [szCellS_eq l 1048576 (by decide) (by decide) hv.1]
  simp only [Option.bind_some]
  by_cases h : (1048576 : Int) - (l.length : Int) < 0
  · rw [if_pos h]; exact Ev.pos (by decide) (Ev.now _)
  · rw [if_neg h]
    refine Ev.neg h ?_
    have la : l.length ≤ 1048576 := by omega
    have lm : (l.map cellOf).length ≤ 1048576 := by simpa using la
    have hs : small (l.map cellOf) := by unfold small; omega
    have hf : fits (l.map cellOf) := lm
    have hb := symR_len (l.map cellOf)
    have hbs : small (symR (l.map cellOf)).1 := by unfold small; omega
    have hbf : fits (symR (l.map cellOf)).1 := by unfold fits; omega
    refine Ev.bind (toCellS_ev l la) (Ev.bind (specSymR_ev _ lm) (Ev.bind (toCellS_ev l la) (Ev.bind (implSymR_ev _ lm) (Ev.bind (eqInt64S_ev _ hbs) (Ev.pos rfl ?_)))))
    refine Ev.step (fun k => laws_FnExactRegionSymmetries.j0.eq_2 _ _ _ _ _ _ _ _) (Ev.neg (by simp) ?_)
    refine Ev.bind (toCellS_ev l la) (Ev.bind (eqCellS_ev _ hs) (Ev.pos rfl (Ev.bind (markCellS_ev _ hf) (Ev.neg (by simp; omega) (Ev.bind (eqInt64S_ev _ hbs) (Ev.pos rfl ?_))))))
    refine Ev.step (fun k => laws_FnExactRegionSymmetries.j1.eq_2 _ _ _ _ _ _) (Ev.neg (by simp) ?_)
    refine Ev.bind (markInt64S_ev _ 1 (by decide) (by decide) hbf) (Ev.bind (heldInt64S_ev _ (by omega)) (Ev.neg (by omega) (Ev.pos rfl ?_)))
    refine Ev.bind (toCellS_ev l la) (Ev.bind (implSymR_ev _ lm) (Ev.bind (eqInt64S_ev _ hbs) (Ev.pos rfl ?_)))
    refine Ev.step (fun k => laws_FnExactRegionSymmetries.j2.eq_2 _ _ _ _) (Ev.neg (by simp) ?_)
    exact Ev.bind (heldInt64S_ev _ (by omega)) (Ev.neg (by omega) (Ev.pos rfl (Ev.now _)))
end Go.Proofs.Ytpblcdlpcgfhgaa.Pure
