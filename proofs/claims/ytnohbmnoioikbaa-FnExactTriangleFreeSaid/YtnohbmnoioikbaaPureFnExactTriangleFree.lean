/- Both sides answer alike on the least triangle form of a shape. -/
import Derived.Test.YtnohbmnoioikbaaLatticeC
import Derived.Test.YtnohbmnoioikbaaShapeCmp
import Derived.Test.YtnohbmnoioikbaaFx0
import Derived.Test.YtnohbmnoioikbaaFx12
import Derived.Test.YtnohbmnoioikbaaFx17
import Derived.Test.YtnohbmnoioikbaaFx18
import Derived.Test.YtnohbmnoioikbaaFx19
import Derived.Test.YtnohbmnoioikbaaFx6
import Derived.Test.YtnohbmnoioikbaaFx7
namespace Go.Proofs.Ytnohbmnoioikbaa.L
open Go.RowKit Go.Proofs.YtnohbmnoioikbaaW.PrintWords Go.Proofs.YtnohbmnoioikbaaW.PrintLast Go.Proofs.YtnohbmnoioikbaaW.PrintMore Go.Proofs.Ytnohbmnoioikbaa.F
set_option linter.unusedVariables false
set_option linter.unusedSimpArgs false
def triG (l : List Cell) (t : Int) : List Cell := normalT (latL l t)
theorem triG_len (l : List Cell) (t : Int) : (triG l t).length = l.length := by unfold triG; rw [normalT_len, latL_len]
def triGOk (l : List Cell) : Nat → Int → Bool
  | 0, _ => true
  | n + 1, t => shapeB (triG l t) && triGOk l n (t + 1)
def triGS (l : List Cell) : Nat → Int → List (List Cell)
  | 0, _ => []
  | n + 1, t => triG l t :: triGS l n (t + 1)
theorem triGS_len (l : List Cell) : ∀ (n : Nat) (t : Int), (triGS l n t).length = n
  | 0, _ => rfl
  | n + 1, t => by unfold triGS; rw [List.length_cons, triGS_len l n]
theorem triGS_mem (l : List Cell) : ∀ (n : Nat) (t : Int), ∀ x ∈ triGS l n t, x.length = l.length
  | 0, _, x, h => by simp [triGS] at h
  | n + 1, t, x, h => by
    unfold triGS at h
    rcases List.mem_cons.1 h with rfl | h
    · exact triG_len l t
    · exact triGS_mem l n _ x h
theorem minS_mem : ∀ (r : List (List Cell)) (m : List Cell), minS m r ∈ m :: r
  | [], m => by simp [minS]
  | x :: r, m => by
    unfold minS
    have h := minS_mem r (if cmpS x m < 0 then x else m)
    rcases List.mem_cons.1 h with h | h
    · rw [h]
      split
      · simp
      · simp
    · exact List.mem_cons_of_mem _ (List.mem_cons_of_mem _ h)
def minA : List (List Cell) → List Cell
  | [] => []
  | c :: r => minS c r
theorem specForms0_l (l : List Cell) (hl : l.length ≤ 1048576) (h0 : 0 < l.length) : ∀ (n : Nat) (t : Int) (acc : List (List Cell)) (b : Bool), 0 ≤ t → t + (n : Int) = 12 → acc.length + n ≤ 12 → Ev (fun k => spec_l07Forms.l0 k 0 l acc b t) (acc ++ triGS l n t, b && triGOk l n t)
  | 0, t, acc, b, h1, h2, h3 => by
    refine Ev.succ ?_
    simp only [spec_l07Forms.l0]
    exact Ev.neg (by omega) (Ev.of_eq (Ev.now _) (by simp [triGS, triGOk]))
  | n + 1, t, acc, b, h1, h2, h3 => by
    refine Ev.succ ?_
    simp only [spec_l07Forms.l0]
    have ew : wrap64 (t + 1) = t + 1 := w64 (by omega) (by omega)
    refine Ev.pos (by omega) (Ev.bind (specForm0_ev l t h1 hl h0) ?_)
    have hf : small (normalT (latL l t)) := by have := triG_len l t; unfold triG at this; unfold small; omega
    simp only [ew]
    cases b
    · refine Ev.neg (by simp) (Ev.pos (by omega) (Ev.of_eq (specForms0_l l hl h0 n (t + 1) (acc ++ [triG l t]) false (by omega) (by omega) (by simp; omega)) ?_))
      simp [triGS]
    · refine Ev.pos rfl (Ev.bind (specIsShape_ev _ hf) (Ev.pos (by omega) (Ev.of_eq (specForms0_l l hl h0 n (t + 1) (acc ++ [triG l t]) _ (by omega) (by omega) (by simp; omega)) ?_)))
      simp [triGS, triGOk, triG]
theorem specLeastS_ev (c : List Cell) (r : List (List Cell)) (hs : small (c :: r)) (hx_ : ∀ x ∈ c :: r, small x) : Ev (fun k => spec_l07Least.f k (c :: r)) (minS c r) := by
  unfold spec_l07Least.f
  refine Ev.pos (by rw [List.length_cons]; omega) ?_
  have h1 : rd_L2 (c :: r) 0 = c := rfl
  rw [h1]
  refine loop_tail c r (fun k i (s : List Cell) => spec_l07Least.l0 k (c :: r) s i) (fun _ suf s => minS s suf) (fun _ s => True) ?_ ?_ c trivial
  · rintro s _
    simp only [spec_l07Least.l0, len_lt, if_false]
    exact Ev.now _
  · rintro pre d suf s hx _ _ ih
    simp only [spec_l07Least.l0, pre_lt hx, pre_0, if_true, at_preL2 hx, pre_w hx hs]
    refine Ev.bind (specCompare_ev d s (hx_ d (by rw [hx]; simp))) ?_
    unfold minS
    by_cases h : cmpS d s < 0
    · rw [if_pos h]; exact Ev.pos h (ih d trivial)
    · rw [if_neg h]; exact Ev.neg h (ih s trivial)
theorem implLeast0_l (l : List Cell) (hl : l.length ≤ 1048576) (h0 : 0 < l.length) : ∀ (n : Nat) (t : Int) (acc : List (List Cell)), 0 ≤ t → t + (n : Int) = 12 → acc.length + n = 12 → (∀ x ∈ acc, small x) → Ev (fun k => impl_leastForm__impl_triangleForm.l0 k l acc t) (if triGOk l n t = true then (minA (acc ++ triGS l n t), true) else ([], false))
  | 0, t, acc, h1, h2, h3, h4 => by
    obtain ⟨c, r, rfl⟩ : ∃ c r, acc = c :: r := by cases acc with | nil => simp at h3 | cons c r => exact ⟨c, r, rfl⟩
    refine Ev.succ ?_
    simp only [impl_leastForm__impl_triangleForm.l0]
    refine Ev.neg (by omega) (Ev.bind (implMin_ev c r (by unfold small; omega) h4) (Ev.of_eq (Ev.now _) ?_))
    simp [triGOk, triGS, minA]
  | n + 1, t, acc, h1, h2, h3, h4 => by
    have ew : wrap64 (t + 1) = t + 1 := w64 (by omega) (by omega)
    have hf : small (normalT (latL l t)) := by have := triG_len l t; unfold triG at this; unfold small; omega
    by_cases hs : shapeB (normalT (latL l t)) = true
    · have hm := implLeast0_l l hl h0 n (t + 1) (acc ++ [normalT (latL l t)]) (by omega) (by omega) (by simp; omega) (fun x hx => by
        rcases List.mem_append.1 hx with hx | hx
        · exact h4 x hx
        · simp at hx; exact hx ▸ hf)
      refine Ev.succ ?_
      simp only [impl_leastForm__impl_triangleForm.l0]
      refine Ev.pos (by omega) (Ev.bind (implTriForm_ev l t h1 hl h0) (Ev.bind (implIsShape_ev _ hf) (Ev.pos hs (Ev.pos (by omega) ?_))))
      simp only [ew]
      refine Ev.of_eq hm ?_
      simp [triGOk, triGS, triG, hs]
    · refine Ev.succ ?_
      simp only [impl_leastForm__impl_triangleForm.l0]
      refine Ev.pos (by omega) (Ev.bind (implTriForm_ev l t h1 hl h0) (Ev.bind (implIsShape_ev _ hf) (Ev.neg hs (Ev.of_eq (Ev.now _) ?_))))
      simp [triGOk, triG, hs]
def triGMin (l : List Cell) : List Cell := minS (triG l 0) (triGS l 11 1)
theorem triGMin_len (l : List Cell) : (triGMin l).length = l.length := by
  have h := minS_mem (triGS l 11 1) (triG l 0)
  rcases List.mem_cons.1 h with h | h
  · unfold triGMin; rw [h, triG_len]
  · exact triGS_mem l 11 1 _ h
def triGFree (l : List Cell) : List Cell × Int := if (allTri l && shapeB l) = true then (if triGOk l 12 0 = true then (triGMin l, 0) else ([], 3)) else ([], 1)
theorem triGFree_len (l : List Cell) : (triGFree l).1.length ≤ l.length := by
  unfold triGFree
  split
  · split
    · rw [triGMin_len]; exact Nat.le_refl _
    · simp
  · simp
theorem specTriangleFree_ev (l : List Cell) (hl : l.length ≤ 1048576) : Ev (fun k => spec_TriangleFree.f k l) (triGFree l) := by
  have hs : small l := by unfold small; omega
  unfold spec_TriangleFree.f
  refine Ev.bind (a := triGFree l) ?_ (Ev.now _)
  unfold spec_l07FreeCode.f triGFree
  refine Ev.bind (specShape0_ev l hs) (Ev.if_ (fun h => ?_) (fun _ => Ev.now _))
  have hp : 0 < l.length := shape_pos (by rw [Bool.and_eq_true] at h; exact h.2)
  have hF : Ev (fun k => spec_l07Forms.f k 0 l) (triGS l 12 0, triGOk l 12 0) := by
    unfold spec_l07Forms.f
    exact Ev.of_eq (specForms0_l l hl hp 12 0 [] true (by omega) (by omega) (by simp)) (by simp)
  refine Ev.bind hF (Ev.if_ (fun _ => ?_) (fun _ => Ev.now _))
  simp only [Option.bind_some, List.nil_append, List.length_nil]
  have e12 : triGS l 12 0 = triG l 0 :: triGS l 11 1 := rfl
  have hmem : ∀ x ∈ triG l 0 :: triGS l 11 1, small x := by
    intro x hx
    rw [← e12] at hx
    have := triGS_mem l 12 0 x hx
    unfold small; omega
  simp only [e12]
  refine Ev.bind (specLeastS_ev _ _ (by unfold small; rw [List.length_cons, triGS_len]; omega) hmem) ?_
  have hml := triGMin_len l
  unfold triGMin at hml
  exact Ev.pos (by omega) (Ev.of_eq (Ev.now _) rfl)
theorem implTriangleFree_ev (l : List Cell) (hl : l.length ≤ 1048576) : Ev (fun k => impl_TriangleFree.f k l) (triGFree l) := by
  have hs : small l := by unfold small; omega
  unfold impl_TriangleFree.f triGFree
  refine Ev.bind (implTriShape_ev l hs) (Ev.if_ (fun h => ?_) (fun _ => Ev.now _))
  have hp : 0 < l.length := shape_pos (by rw [Bool.and_eq_true] at h; exact h.2)
  have hL : Ev (fun k => impl_leastForm__impl_triangleForm.f k l) (if triGOk l 12 0 = true then (minA (triGS l 12 0), true) else ([], false)) := by
    unfold impl_leastForm__impl_triangleForm.f
    exact Ev.of_eq (implLeast0_l l hl hp 12 0 [] (by omega) (by omega) (by simp) (fun x hx => by simp at hx)) (by simp)
  by_cases ho : triGOk l 12 0 = true
  · rw [if_pos ho] at hL ⊢
    exact Ev.bind hL (Ev.pos rfl (Ev.of_eq (Ev.now _) rfl))
  · rw [if_neg ho] at hL ⊢
    exact Ev.bind hL (Ev.neg (by simp) (Ev.now _))
end Go.Proofs.Ytnohbmnoioikbaa.L
namespace Go.Proofs.Ytnohbmnoioikbaa.Pure
open Go.RowKit Go.Proofs.YtnohbmnoioikbaaW.PrintWords Go.Proofs.Ytnohbmnoioikbaa.F Go.Proofs.Ytnohbmnoioikbaa.L
set_option linter.unusedVariables false

theorem FnExactTriangleFree (l : List LCell) {V : LCell → Prop} (hv : l.length ≤ 9223372036854775807 ∧ ∀ a ∈ l, V a) : ∃ k, laws_FnExactTriangleFree.f k l = some true := by
  refine Ev.rounds ?_
  unfold laws_FnExactTriangleFree.f
  rw [szCellS_eq l 1048576 (by decide) (by decide) hv.1]
  simp only [Option.bind_some]
  by_cases h : (1048576 : Int) - (l.length : Int) < 0
  · rw [if_pos h]; exact Ev.pos (by decide) (Ev.now _)
  · rw [if_neg h]
    refine Ev.neg h ?_
    have la : l.length ≤ 1048576 := by omega
    have lm : (l.map cellOf).length ≤ 1048576 := by simpa using la
    have hs : small (l.map cellOf) := by unfold small; omega
    have hf : fits (l.map cellOf) := lm
    have hb := triGFree_len (l.map cellOf)
    have hbs : small (triGFree (l.map cellOf)).1 := by unfold small; omega
    have hbf : fits (triGFree (l.map cellOf)).1 := by unfold fits; omega
    refine Ev.bind (toCellS_ev l la) (Ev.bind (specTriangleFree_ev _ lm) (Ev.bind (toCellS_ev l la) (Ev.bind (implTriangleFree_ev _ lm) (Ev.bind (eqCellS_ev _ hbs) (Ev.pos rfl ?_)))))
    refine Ev.step (fun k => laws_FnExactTriangleFree.j0.eq_2 _ _ _ _ _ _ _ _) (Ev.neg (by simp) ?_)
    refine Ev.bind (toCellS_ev l la) (Ev.bind (eqCellS_ev _ hs) (Ev.pos rfl (Ev.bind (markCellS_ev _ hf) (Ev.neg (by simp; omega) (Ev.bind (eqCellS_ev _ hbs) (Ev.pos rfl ?_))))))
    refine Ev.step (fun k => laws_FnExactTriangleFree.j1.eq_2 _ _ _ _ _ _) (Ev.neg (by simp) ?_)
    refine Ev.bind (markCellS_ev _ hbf) (Ev.bind (heldCellS_ev _ hbf) (Ev.neg (by omega) (Ev.pos rfl ?_)))
    refine Ev.bind (toCellS_ev l la) (Ev.bind (implTriangleFree_ev _ lm) (Ev.bind (eqCellS_ev _ hbs) (Ev.pos rfl ?_)))
    refine Ev.step (fun k => laws_FnExactTriangleFree.j2.eq_2 _ _ _ _) (Ev.neg (by simp) ?_)
    exact Ev.bind (heldCellS_ev _ hbf) (Ev.neg (by omega) (Ev.pos rfl (Ev.now _)))
end Go.Proofs.Ytnohbmnoioikbaa.Pure
