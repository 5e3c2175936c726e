/- Comparing shapes; the least of some. -/
import Derived.Test.YtnohbmnoioikbaaBsearch
import Derived.Test.YtnohbmnoioikbaaFx0
import Derived.Test.YtnohbmnoioikbaaFx11
import Derived.Test.YtnohbmnoioikbaaFx7
namespace Go.Proofs.Ytnohbmnoioikbaa.L
open Go.RowKit Go.Proofs.YtnohbmnoioikbaaW.PrintWords Go.Proofs.YtnohbmnoioikbaaW.PrintLast Go.Proofs.YtnohbmnoioikbaaW.PrintMore Go.Proofs.Ytnohbmnoioikbaa.F
set_option linter.unusedVariables false
set_option linter.unusedSimpArgs false
def cmpL : List Cell → List Cell → Int
  | [], _ => 0
  | _ :: _, [] => 0
  | a :: r, b :: s => if ltC a b then -1 else if ltC b a then 1 else cmpL r s
def cmpS (a b : List Cell) : Int := if a.length = b.length then cmpL a b else if a.length < b.length then -1 else 1
theorem cmpL_zero : ∀ (a b : List Cell), a.length = b.length → (cmpL a b = 0 ↔ a = b)
  | [], b, h => by
    have : b = [] := List.length_eq_zero_iff.1 h.symm
    simp [cmpL, this]
  | a :: r, [], h => by simp at h
  | a :: r, b :: s, h => by
    unfold cmpL
    by_cases h1 : ltC a b
    · rw [if_pos h1]
      have : a ≠ b := fun e => ltC_irrefl b (e ▸ h1)
      simp [this]
    · rw [if_neg h1]
      by_cases h2 : ltC b a
      · rw [if_pos h2]
        have : a ≠ b := fun e => ltC_irrefl b (e ▸ h2)
        simp [this]
      · rw [if_neg h2, cmpL_zero r s (by simpa using h)]
        simp [ltC_total h1 h2]
theorem cmpS_zero (a b : List Cell) : cmpS a b = 0 ↔ a = b := by
  unfold cmpS
  by_cases h : a.length = b.length
  · rw [if_pos h]; exact cmpL_zero a b h
  · rw [if_neg h]
    have : a ≠ b := fun e => h (by rw [e])
    split <;> simp [this]
theorem specCompare_ev (a b : List Cell) (ha : small a) : Ev (fun k => spec_CompareShapes.f k a b) (cmpS a b) := by
  unfold spec_CompareShapes.f cmpS
  by_cases hl : a.length = b.length
  · rw [if_pos hl]
    refine Ev.pos (by omega) ?_
    refine loop_list a (fun k i (_ : Unit) => spec_CompareShapes.l0 k a b i) (fun pre suf _ => cmpL suf (b.drop pre.length)) (fun _ _ => True) ?_ ?_ () trivial
    · intro _ _
      simp only [spec_CompareShapes.l0, len_lt, if_false]
      exact Ev.of_eq (Ev.now _) (by simp [cmpL])
    · intro pre c suf _ hx _ ih
      have hp := pre_len hx
      have hpb : pre.length < b.length := by omega
      have hlt : ((pre.length : Int) < (b.length : Int)) = True := by simp; omega
      have eb : rd_T55 b (pre.length : Int) = b[pre.length] := by
        unfold rd_T55
        rw [List.getD_eq_getElem?_getD, Int.toNat_natCast, List.getElem?_eq_getElem hpb]
        rfl
      simp only [spec_CompareShapes.l0, pre_lt hx, pre_0, if_true, hlt, at_pre hx, pre_w hx ha, eb, l02Less_eq, Option.bind_some]
      rw [List.drop_eq_getElem_cons hpb, cmpL]
      have hih := ih () trivial
      rw [List.length_append, List.length_singleton] at hih
      generalize b.drop (pre.length + 1) = R at hih ⊢
      generalize b[pre.length] = d at hih ⊢
      by_cases h1 : ltC c d
      · have h1' : c.f1 < d.f1 ∨ c.f1 = d.f1 ∧ c.f0 < d.f0 := h1
        rw [if_pos h1]
        exact Ev.pos (by simpa using h1') (Ev.now _)
      · have h1' : ¬ (c.f1 < d.f1 ∨ c.f1 = d.f1 ∧ c.f0 < d.f0) := h1
        rw [if_neg h1]
        refine Ev.neg (by simpa using h1') ?_
        by_cases h2 : ltC d c
        · have h2' : d.f1 < c.f1 ∨ d.f1 = c.f1 ∧ d.f0 < c.f0 := h2
          rw [if_pos h2]
          exact Ev.pos (by simpa using h2') (Ev.now _)
        · have h2' : ¬ (d.f1 < c.f1 ∨ d.f1 = c.f1 ∧ d.f0 < c.f0) := h2
          rw [if_neg h2]
          exact Ev.neg (by simpa using h2') hih
  · rw [if_neg hl]
    refine Ev.neg (by omega) ?_
    by_cases h : a.length < b.length
    · rw [if_pos h]; exact Ev.pos (by omega) (Ev.now _)
    · rw [if_neg h]; exact Ev.neg (by omega) (Ev.now _)
theorem cmpC_val (c d : Cell) : cmpC c d = if ltC c d then -1 else if ltC d c then 1 else 0 := by
  unfold cmpC cmpI ltC
  repeat' split
  all_goals omega
theorem implCompareS_ev (a b : List Cell) (ha : small a) : Ev (fun k => impl_compareShapes.f k a b) (cmpS a b) := by
  unfold impl_compareShapes.f cmpS
  by_cases hl : a.length = b.length
  · rw [if_pos hl]
    refine Ev.pos (by omega) (Ev.bind ?_ (Ev.now _))
    unfold impl_Cell_104__impl_compareCells.f
    refine loop_list a (fun k i (_ : Unit) => impl_Cell_104__impl_compareCells.l0 k a b a (a.length : Int) i) (fun pre suf _ => cmpL suf (b.drop pre.length)) (fun _ _ => True) ?_ ?_ () trivial
    · intro _ _
      simp only [impl_Cell_104__impl_compareCells.l0, len_lt, if_false]
      exact Ev.neg (by omega) (Ev.of_eq (Ev.now _) (by simp [cmpL]))
    · intro pre c suf _ hx _ ih
      have hp := pre_len hx
      have hpb : pre.length < b.length := by omega
      have eb : rd_T55 b (pre.length : Int) = b[pre.length] := by
        unfold rd_T55
        rw [List.getD_eq_getElem?_getD, Int.toNat_natCast, List.getElem?_eq_getElem hpb]
        rfl
      simp only [impl_Cell_104__impl_compareCells.l0, pre_lt hx, pre_0, if_true, at_pre hx, pre_w hx ha, eb, compareCells_eq, Option.bind_some]
      refine Ev.neg (by omega) (Ev.pos (by omega) ?_)
      rw [List.drop_eq_getElem_cons hpb, cmpL]
      have hih := ih () trivial
      rw [List.length_append, List.length_singleton] at hih
      generalize b.drop (pre.length + 1) = R at hih ⊢
      generalize b[pre.length] = d at hih ⊢
      have hv := cmpC_val c d
      by_cases h1 : ltC c d
      · rw [if_pos h1] at hv ⊢
        exact Ev.neg (by omega) (Ev.of_eq (Ev.now _) hv)
      · rw [if_neg h1] at hv ⊢
        by_cases h2 : ltC d c
        · rw [if_pos h2] at hv ⊢
          exact Ev.neg (by omega) (Ev.of_eq (Ev.now _) hv)
        · rw [if_neg h2] at hv ⊢
          exact Ev.pos hv hih
  · rw [if_neg hl]
    refine Ev.neg (by omega) ?_
    by_cases h : a.length < b.length
    · rw [if_pos h]; exact Ev.pos (by omega) (Ev.now _)
    · rw [if_neg h]; exact Ev.neg (by omega) (Ev.now _)
/-- The least of some shapes, the first of them. -/
def minS : List Cell → List (List Cell) → List Cell
  | m, [] => m
  | m, x :: r => minS (if cmpS x m < 0 then x else m) r
theorem at_preL2 {xs pre suf : List (List Cell)} {c : List Cell} (h : xs = pre ++ c :: suf) : rd_L2 xs (pre.length : Int) = c := by
  subst h; exact getD_at pre suf c _
theorem implMin_ev (c : List Cell) (r : List (List Cell)) (hs : small (c :: r)) (hx_ : ∀ x ∈ c :: r, small x) : Ev (fun k => impl_leastOf.f k (c :: r)) (minS c r) := by
  unfold impl_leastOf.f
  refine Ev.bind ?_ (Ev.now _)
  unfold impl_Cell_110__impl_compareShapes.f
  refine Ev.neg (by rw [List.length_cons]; omega) (Ev.pos (by rw [List.length_cons]; omega) ?_)
  have h1 : rd_L2 (c :: r) 0 = c := rfl
  rw [h1]
  refine loop_tail c r (fun k i (s : List Cell) => impl_Cell_110__impl_compareShapes.l0 k (c :: r) s i) (fun _ suf s => minS s suf) (fun _ s => True) ?_ ?_ c trivial
  · rintro s _
    simp only [impl_Cell_110__impl_compareShapes.l0, len_lt, if_false]
    exact Ev.now _
  · rintro pre d suf s hx _ _ ih
    simp only [impl_Cell_110__impl_compareShapes.l0, pre_lt hx, pre_0, if_true, at_preL2 hx, pre_w hx hs]
    refine Ev.bind (implCompareS_ev d s (hx_ d (by rw [hx]; simp))) ?_
    unfold minS
    by_cases h : cmpS d s < 0
    · rw [if_pos h]; exact Ev.pos h (ih d trivial)
    · rw [if_neg h]; exact Ev.neg h (ih s trivial)
end Go.Proofs.Ytnohbmnoioikbaa.L
