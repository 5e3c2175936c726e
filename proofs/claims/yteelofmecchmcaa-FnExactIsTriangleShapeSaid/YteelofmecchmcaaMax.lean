/- The greatest of a list of whole numbers. -/
import Derived.Test.YteelofmecchmcaaBfsOne
import Derived.Test.YteelofmecchmcaaFx20
namespace Go.Proofs.Yteelofmecchmcaa.L
open Go.RowKit Go.Proofs.YteelofmecchmcaaW.PrintWords Go.Proofs.YteelofmecchmcaaW.PrintLast Go.Proofs.YteelofmecchmcaaW.PrintMore Go.Proofs.Yteelofmecchmcaa.F
set_option linter.unusedVariables false
set_option linter.unusedSimpArgs false

theorem max_ev (l : List Int) (hs : small l) (h0 : 0 < l.length) (hp : ∀ x ∈ l, 0 ≤ x) : Ev (fun k => slices_Max_int64_int64.f k l) (l.foldl mx 0) := by
  unfold slices_Max_int64_int64.f
  obtain ⟨c, r, rfl⟩ : ∃ c r, l = c :: r := by cases l with | nil => simp at h0 | cons c r => exact ⟨c, r, rfl⟩
  refine Ev.neg (by omega) (Ev.pos (by omega) ?_)
  have h1 : rd (c :: r) 0 = c := rfl
  rw [h1]
  have := loop_tail c r (fun k i (s : Int) => slices_Max_int64_int64.l0 k (c :: r) s i) (fun _ suf s => suf.foldl mx s) (fun _ _ => True) ?_ ?_ c trivial
  · refine Ev.of_eq this ?_
    have hc := hp c List.mem_cons_self
    have : mx 0 c = c := by unfold mx; split <;> omega
    simp [this]
  · rintro s _
    simp only [slices_Max_int64_int64.l0, len_lt, if_false]
    exact Ev.now _
  · rintro pre d suf s hx _ _ ih
    simp only [slices_Max_int64_int64.l0, pre_lt hx, pre_0, if_true, at_preI hx, pre_w hx hs]
    exact ih (mx s d) trivial
theorem foldl_mx : ∀ (l : List Int) (a : Int), 0 ≤ a → (∀ x ∈ l, 0 ≤ x) → 0 ≤ l.foldl mx a ∧ (l.foldl mx a = 0 ↔ a = 0 ∧ oneB l = true)
  | [], a, ha, _ => ⟨ha, by simp [oneB]⟩
  | c :: r, a, ha, h => by
    have hc := h c List.mem_cons_self
    have h1 : 0 ≤ mx a c := by unfold mx; split <;> omega
    obtain ⟨h2, h3⟩ := foldl_mx r (mx a c) h1 (fun x hx => h x (List.mem_cons_of_mem _ hx))
    refine ⟨h2, h3.trans ?_⟩
    have h4 : mx a c = 0 ↔ a = 0 ∧ c = 0 := by unfold mx; split <;> omega
    rw [h4]
    simp [oneB, and_assoc]
end Go.Proofs.Yteelofmecchmcaa.L
