/- The cells in order. -/
import Derived.Test.YtnohbmnoioikbaaCells
import Derived.Test.YtnohbmnoioikbaaFx10
namespace Go.Proofs.Ytnohbmnoioikbaa.L
open Go.RowKit Go.Proofs.YtnohbmnoioikbaaW.PrintWords Go.Proofs.YtnohbmnoioikbaaW.PrintLast Go.Proofs.YtnohbmnoioikbaaW.PrintMore Go.Proofs.Ytnohbmnoioikbaa.F
set_option linter.unusedVariables false
set_option linter.unusedSimpArgs false
theorem sorted_le (x y : Cell) : (!Go.Proofs.ltOf cmpV y x) = decide (¬ ltC y x) := by
  rw [ltV]
  by_cases h : ltC y x
  · have h' : y.f1 < x.f1 ∨ y.f1 = x.f1 ∧ y.f0 < x.f0 := h
    simp [h, h']
  · have h' : ¬ (y.f1 < x.f1 ∨ y.f1 = x.f1 ∧ y.f0 < x.f0) := h
    simp only [h, h', decide_false]
    rfl
theorem sortC_perm (l : List Cell) : (sortC l).Perm l := List.mergeSort_perm _ _
theorem sortC_len (l : List Cell) : (sortC l).length = l.length := (sortC_perm l).length_eq
theorem sortC_mem {l : List Cell} {c : Cell} : c ∈ sortC l ↔ c ∈ l := (sortC_perm l).mem_iff
theorem sortC_sorted (l : List Cell) : (sortC l).Pairwise fun a b => ¬ ltC b a := by
  have := List.pairwise_mergeSort (le := fun x y : Cell => !Go.Proofs.ltOf cmpV y x) (fun a b c h1 h2 => by
    rw [sorted_le, decide_eq_true_eq] at *
    unfold ltC at *
    omega) (fun a b => by
    rw [sorted_le, sorted_le, Bool.or_eq_true, decide_eq_true_eq, decide_eq_true_eq]
    unfold ltC
    omega) l
  exact this.imp fun h => by rw [sorted_le, decide_eq_true_eq] at h; exact h
theorem eq_of_sorted : ∀ (l l' : List Cell), l.Perm l' → (l.Pairwise fun a b => ¬ ltC b a) → (l'.Pairwise fun a b => ¬ ltC b a) → l = l'
  | [], l', hp, _, _ => (List.Perm.nil_eq hp)
  | a :: r, [], hp, _, _ => absurd hp.symm (by simp)
  | a :: r, b :: s, hp, h1, h2 => by
    obtain ⟨h3, h4⟩ := List.pairwise_cons.1 h1
    obtain ⟨h5, h6⟩ := List.pairwise_cons.1 h2
    have hab : a = b := by
      have ha : a ∈ b :: s := hp.mem_iff.1 List.mem_cons_self
      have hb : b ∈ a :: r := hp.mem_iff.2 List.mem_cons_self
      have n1 : ¬ ltC b a := by
        rcases List.mem_cons.1 hb with e | e
        · rw [e]; unfold ltC; omega
        · exact h3 b e
      have n2 : ¬ ltC a b := by
        rcases List.mem_cons.1 ha with e | e
        · rw [e]; unfold ltC; omega
        · exact h5 a e
      obtain ⟨a0, a1⟩ := a
      obtain ⟨b0, b1⟩ := b
      unfold ltC at n1 n2
      simp only at n1 n2
      simp only [S55.mk.injEq]
      omega
    subst hab
    rw [eq_of_sorted r s (List.Perm.cons_inv hp) h4 h6]
theorem sortC_eq {l l' : List Cell} (hp : l'.Perm l) (hs : l'.Pairwise fun a b => ¬ ltC b a) : sortC l = l' :=
  eq_of_sorted _ _ ((sortC_perm l).trans hp.symm) (sortC_sorted l) hs
theorem sortC_id {l : List Cell} (hs : l.Pairwise fun a b => ¬ ltC b a) : sortC l = l := sortC_eq (List.Perm.refl _) hs
theorem implSorted_eq (l : List Cell) (h0 : 0 < l.length) (h1 : l.length ≤ 1000000000000) : impl_sorted.f l = some (sortC l) := by
  unfold impl_sorted.f impl_Cell_116.f impl_Cell_117__impl_compareCells.f
  rw [if_pos h1, Option.bind_some, if_pos ⟨h0, by omega⟩]
  rfl
end Go.Proofs.Ytnohbmnoioikbaa.L
