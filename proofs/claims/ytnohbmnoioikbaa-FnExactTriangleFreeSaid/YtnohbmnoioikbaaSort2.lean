/- The specification's sort answers the cells in order. -/
import Derived.Test.YtnohbmnoioikbaaSortC
import Derived.Test.YtnohbmnoioikbaaShapes
import Derived.Test.YtnohbmnoioikbaaFx10
import Derived.Test.YtnohbmnoioikbaaFx5
namespace Go.Proofs.Ytnohbmnoioikbaa.L
open Go.RowKit Go.Proofs.YtnohbmnoioikbaaW.PrintWords Go.Proofs.YtnohbmnoioikbaaW.PrintLast Go.Proofs.YtnohbmnoioikbaaW.PrintMore Go.Proofs.Ytnohbmnoioikbaa.F
set_option linter.unusedVariables false
set_option linter.unusedSimpArgs false
def insC (c : Cell) : List Cell → List Cell
  | [] => [c]
  | a :: r => if ltC c a then c :: a :: r else a :: insC c r
theorem insC_perm (c : Cell) : ∀ l : List Cell, (insC c l).Perm (c :: l)
  | [] => List.Perm.refl _
  | a :: r => by
    unfold insC
    split
    · exact List.Perm.refl _
    · exact ((insC_perm c r).cons a).trans (List.Perm.swap c a r)
theorem insC_sorted (c : Cell) : ∀ l : List Cell, (l.Pairwise fun a b => ¬ ltC b a) → (insC c l).Pairwise fun a b => ¬ ltC b a
  | [], _ => by simp [insC]
  | a :: r, h => by
    obtain ⟨h1, h2⟩ := List.pairwise_cons.1 h
    unfold insC
    split
    · rename_i hc
      refine List.pairwise_cons.2 ⟨fun b hb => ?_, h⟩
      rcases List.mem_cons.1 hb with rfl | hb
      · unfold ltC at *; omega
      · have := h1 b hb
        unfold ltC at *; omega
    · rename_i hc
      refine List.pairwise_cons.2 ⟨fun b hb => ?_, insC_sorted c r h2⟩
      rcases List.mem_cons.1 ((insC_perm c r).mem_iff.1 hb) with rfl | hb
      · exact hc
      · exact h1 b hb
theorem specInsert_ev (l : List Cell) (c : Cell) (hl : l.length ≤ 1048576) : Ev (fun k => spec_l02Insert.f k l c.f0 c.f1) (insC c l) := by
  have hs : small l := by unfold small; omega
  unfold spec_l02Insert.f
  have := loop_list l (fun k i (s : List Cell × Bool) => spec_l02Insert.l0 k l s.1 s.2 i c.f0 c.f1) (fun pre suf s => if s.2 = true then s.1 ++ suf else s.1 ++ insC c suf) (fun pre s => s.1.length ≤ pre.length + 1 ∧ (s.2 = false → s.1.length = pre.length)) ?_ ?_ ([], false) ⟨by simp, fun _ => rfl⟩
  · simpa using this
  · rintro ⟨s, b⟩ ⟨h1, h2⟩
    simp only at h1 h2
    simp only [spec_l02Insert.l0, len_lt, if_false]
    cases b
    · refine Ev.neg (by simp) (Ev.pos (by omega) (Ev.of_eq (Ev.now _) ?_))
      simp [insC]
    · refine Ev.pos rfl (Ev.of_eq (Ev.now _) ?_)
      simp
  · rintro pre d suf ⟨s, b⟩ hx ⟨h1, h2⟩ ih
    have hp := pre_len hx
    simp only at h1 h2
    simp only [spec_l02Insert.l0, pre_lt hx, pre_0, if_true, at_pre hx, pre_w hx hs]
    cases b
    · refine Ev.neg (by simp) ?_
      simp only [l02Less_eq, Option.bind_some]
      have h2' := h2 rfl
      by_cases hd : ltC c d
      · have hd' : c.f1 < d.f1 ∨ c.f1 = d.f1 ∧ c.f0 < d.f0 := hd
        refine Ev.pos (by simpa using hd') (Ev.pos (by omega) ?_)
        refine Ev.pos (by simp; omega) (Ev.of_eq (ih ((s ++ [(⟨c.f0, c.f1⟩ : Cell)]) ++ [(⟨d.f0, d.f1⟩ : Cell)], true) ⟨by simp; omega, fun h => by cases h⟩) ?_)
        simp [insC, hd]
      · have hd' : ¬ (c.f1 < d.f1 ∨ c.f1 = d.f1 ∧ c.f0 < d.f0) := hd
        refine Ev.neg (by simpa using hd') (Ev.pos (by omega) (Ev.of_eq (ih (s ++ [(⟨d.f0, d.f1⟩ : Cell)], false) ⟨by simp; omega, fun _ => by simp; omega⟩) ?_))
        simp [insC, hd]
    · refine Ev.pos rfl (Ev.pos (by omega) (Ev.of_eq (ih (s ++ [(⟨d.f0, d.f1⟩ : Cell)], true) ⟨by simp; omega, fun h => by cases h⟩) ?_))
      simp
def insAll : List Cell → List Cell → List Cell
  | acc, [] => acc
  | acc, c :: r => insAll (insC c acc) r
theorem insAll_spec : ∀ (l acc : List Cell), (acc.Pairwise fun a b => ¬ ltC b a) → (insAll acc l).Perm (acc ++ l) ∧ (insAll acc l).Pairwise fun a b => ¬ ltC b a
  | [], acc, h => ⟨by simp [insAll], h⟩
  | c :: r, acc, h => by
    obtain ⟨h1, h2⟩ := insAll_spec r (insC c acc) (insC_sorted c acc h)
    refine ⟨h1.trans ?_, h2⟩
    refine ((insC_perm c acc).append_right r).trans ?_
    exact List.perm_middle.symm
theorem insAll_eq (l : List Cell) : insAll [] l = sortC l := by
  obtain ⟨h1, h2⟩ := insAll_spec l [] List.Pairwise.nil
  exact (sortC_eq (by simpa using h1) h2).symm
theorem specSort_ev (l : List Cell) (hl : l.length ≤ 1048576) : Ev (fun k => spec_l02Sort.f k l) (sortC l) := by
  have hs : small l := by unfold small; omega
  unfold spec_l02Sort.f
  rw [← insAll_eq]
  refine loop_list l (fun k i (s : List Cell) => spec_l02Sort.l0 k l s i) (fun pre suf s => insAll s suf) (fun pre s => s.length = pre.length) ?_ ?_ [] rfl
  · intro s _
    simp only [spec_l02Sort.l0, len_lt, if_false]
    exact Ev.now _
  · intro pre c suf s hx hi ih
    have hp := pre_len hx
    simp only [spec_l02Sort.l0, pre_lt hx, pre_0, if_true, at_pre hx, pre_w hx hs]
    refine Ev.bind (specInsert_ev s c (by omega)) (ih _ ?_)
    rw [(insC_perm c s).length_eq]
    simp [hi]
end Go.Proofs.Ytnohbmnoioikbaa.L
