/- The law FnExactRectangleRegion answers true for all two numbers: inside 1 to 20 by the kernel's own reckoning, outside because both sides refuse. -/
import Derived.Test.YtkbhkdnanoddoaaPFnExactRectangleRegionx3
namespace Go.Proofs.Ytkbhkdnanoddoaa.Pure
open Go.RowKit Go.Proofs.Ytkbhkdnanoddoaa.PFnExactRectangleRegion Go.Proofs.YtkbhkdnanoddoaaW.PrintWords Go.Proofs.YtkbhkdnanoddoaaW.PrintLast

theorem rect_small : ∀ w : Fin 20, ∀ h : Fin 20, laws_FnExactRectangleRegion.f 100 ((w.val : Int) + 1) ((h.val : Int) + 1) = some true := by decide +kernel

theorem in_eq (a b c : Int) : spec_l01In.f a b c = some (decide (b ≤ a ∧ a ≤ c)) := by
  unfold spec_l01In.f
  by_cases h : a ≥ b
  · rw [if_pos h]; simp [show b ≤ a from h]
  · rw [if_neg h]; simp [show ¬ b ≤ a from h]

theorem within_eq (a b c : Int) : impl_within.f a b c = some (decide (b ≤ a ∧ a ≤ c)) := by
  unfold impl_within.f
  by_cases h : a ≥ b
  · rw [if_pos h]; simp [show b ≤ a from h]
  · rw [if_neg h]; simp [show ¬ b ≤ a from h]

theorem rect_spec_out (a0 a1 : Int) (h : ¬ ((1 ≤ a0 ∧ a0 ≤ 20) ∧ (1 ≤ a1 ∧ a1 ≤ 20))) (k : Nat) : spec_RectangleRegion.f k a0 a1 = some ([], 2) := by
  unfold spec_RectangleRegion.f
  rw [in_eq, in_eq]
  simp only [Option.bind_some, decide_eq_true_eq]
  by_cases h0 : 1 ≤ a0 ∧ a0 ≤ 20
  · rw [if_pos h0, if_neg (fun g => h ⟨h0, g⟩)]
  · rw [if_neg h0]

theorem rect_impl_out (a0 a1 : Int) (h : ¬ ((1 ≤ a0 ∧ a0 ≤ 20) ∧ (1 ≤ a1 ∧ a1 ≤ 20))) (k : Nat) : impl_RectangleRegion.f (k + 1) a0 a1 = some ([], 2) := by
  unfold impl_RectangleRegion.f
  rw [within_eq, within_eq]
  simp only [Option.bind_some, decide_eq_true_eq]
  by_cases h0 : 1 ≤ a0 ∧ a0 ≤ 20
  · rw [if_pos h0, if_neg (fun g => h ⟨h0, g⟩)]; rfl
  · rw [if_neg h0]; rfl

theorem FnExactRectangleRegion : laws_FnExactRectangleRegion.Pure := by
  intro a0 a1 _ _
  by_cases h : (1 ≤ a0 ∧ a0 ≤ 20) ∧ (1 ≤ a1 ∧ a1 ≤ 20)
  · have := rect_small ⟨(a0 - 1).toNat, by omega⟩ ⟨(a1 - 1).toNat, by omega⟩
    simp only at this
    rw [show ((a0 - 1).toNat : Int) + 1 = a0 by omega, show ((a1 - 1).toNat : Int) + 1 = a1 by omega] at this
    exact ⟨100, this⟩
  · refine ⟨4, ?_⟩
    unfold laws_FnExactRectangleRegion.f
    rw [rect_spec_out a0 a1 h, rect_impl_out a0 a1 h]
    simp only [Option.bind_some]
    rw [show laws_eqCellS.f 4 [] [] = some true from rfl]
    simp only [Option.bind_some, if_true, laws_FnExactRectangleRegion.j0]
    rw [rect_impl_out a0 a1 h]
    rfl

end Go.Proofs.Ytkbhkdnanoddoaa.Pure
