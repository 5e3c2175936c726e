/- Where a cell stands in a list. -/
import Derived.Test.YtnohbmnoioikbaaShapes
import Derived.Test.YtnohbmnoioikbaaFx20
namespace Go.Proofs.Ytnohbmnoioikbaa.L
open Go.RowKit Go.Proofs.YtnohbmnoioikbaaW.PrintWords Go.Proofs.YtnohbmnoioikbaaW.PrintLast Go.Proofs.YtnohbmnoioikbaaW.PrintMore Go.Proofs.Ytnohbmnoioikbaa.F
set_option linter.unusedVariables false
set_option linter.unusedSimpArgs false

def sameC (a b : Cell) : Bool := decide (a.f0 = b.f0) && decide (a.f1 = b.f1)
theorem sameC_iff {a b : Cell} : sameC a b = true ↔ a = b := by
  obtain ⟨a0, a1⟩ := a
  obtain ⟨b0, b1⟩ := b
  simp [sameC]
def idxF : List Cell → Cell → Int → Int
  | [], _, _ => -1
  | a :: r, c, i => if sameC a c = true then i else idxF r c (i + 1)
def idxC (l : List Cell) (c : Cell) : Int := idxF l c 0
theorem specIndex_ev (l : List Cell) (c : Cell) (hs : small l) : Ev (fun k => spec_l02Index.f k l c.f0 c.f1) (idxC l c) := by
  unfold spec_l02Index.f
  refine loop_list l (fun k i (_ : Unit) => spec_l02Index.l0 k l i c.f0 c.f1) (fun pre suf _ => idxF suf c (pre.length : Int)) (fun _ _ => True) ?_ ?_ () trivial
  · intro _ _
    simp only [spec_l02Index.l0, len_lt, if_false]
    exact Ev.now _
  · intro pre d suf _ hx _ ih
    simp only [spec_l02Index.l0, pre_lt hx, pre_0, if_true, at_pre hx, pre_w hx hs, idxF]
    have e : (d.f0 == c.f0 && d.f1 == c.f1) = sameC d c := by simp [sameC, BEq.beq]
    rw [e]
    refine Ev.if_ (fun _ => Ev.now _) (fun _ => Ev.of_eq (ih () trivial) ?_)
    simp
theorem idxF_spec : ∀ (l : List Cell) (c : Cell) (i : Int), 0 ≤ i → (idxF l c i = -1 ∧ c ∉ l) ∨ (∃ j : Nat, j < l.length ∧ idxF l c i = i + (j : Int) ∧ l[j]? = some c ∧ ∀ q : Nat, q < j → l[q]? ≠ some c)
  | [], c, i, _ => .inl ⟨rfl, by simp⟩
  | a :: r, c, i, hi => by
    unfold idxF
    by_cases h : sameC a c = true
    · rw [if_pos h]
      exact .inr ⟨0, by simp, by simp, by simp [sameC_iff.1 h], fun q hq => by omega⟩
    · rw [if_neg h]
      have hne : a ≠ c := fun e => h (sameC_iff.2 e)
      rcases idxF_spec r c (i + 1) (by omega) with ⟨h1, h2⟩ | ⟨j, h1, h2, h3, h4⟩
      · exact .inl ⟨h1, by simp only [List.mem_cons, not_or]; exact ⟨fun e => hne e.symm, h2⟩⟩
      · refine .inr ⟨j + 1, by simpa using h1, by rw [h2]; simp; omega, by simpa using h3, fun q hq => ?_⟩
        cases q with
        | zero => simpa using hne
        | succ q => simpa using h4 q (by omega)
theorem idxC_spec (l : List Cell) (c : Cell) : (idxC l c = -1 ∧ c ∉ l) ∨ (∃ j : Nat, j < l.length ∧ idxC l c = (j : Int) ∧ l[j]? = some c ∧ ∀ q : Nat, q < j → l[q]? ≠ some c) := by
  rcases idxF_spec l c 0 (Int.le_refl _) with h | ⟨j, h1, h2, h3⟩
  · exact .inl h
  · exact .inr ⟨j, h1, by unfold idxC; rw [h2]; omega, h3⟩
theorem idxC_mem (l : List Cell) (c : Cell) : idxC l c ≥ 0 ↔ c ∈ l := by
  rcases idxC_spec l c with ⟨h1, h2⟩ | ⟨j, h1, h2, h3, _⟩
  · rw [h1]; constructor
    · intro h; omega
    · intro h; exact absurd h h2
  · rw [h2]; constructor
    · intro _; exact List.mem_of_getElem? h3
    · intro _; omega
end Go.Proofs.Ytnohbmnoioikbaa.L
