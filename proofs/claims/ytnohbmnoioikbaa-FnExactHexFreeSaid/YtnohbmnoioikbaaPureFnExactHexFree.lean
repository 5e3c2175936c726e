/- Both sides answer alike on the least hex form of a shape. -/
import Derived.Test.YtnohbmnoioikbaaLatticeC
import Derived.Test.YtnohbmnoioikbaaShapeCmp
import Derived.Test.YtnohbmnoioikbaaFx0
import Derived.Test.YtnohbmnoioikbaaFx12
import Derived.Test.YtnohbmnoioikbaaFx13
import Derived.Test.YtnohbmnoioikbaaFx14
import Derived.Test.YtnohbmnoioikbaaFx16
import Derived.Test.YtnohbmnoioikbaaFx6
import Derived.Test.YtnohbmnoioikbaaFx7
namespace Go.Proofs.Ytnohbmnoioikbaa.L
open Go.RowKit Go.Proofs.YtnohbmnoioikbaaW.PrintWords Go.Proofs.YtnohbmnoioikbaaW.PrintLast Go.Proofs.YtnohbmnoioikbaaW.PrintMore Go.Proofs.Ytnohbmnoioikbaa.F
set_option linter.unusedVariables false
set_option linter.unusedSimpArgs false
def hexG (l : List Cell) (t : Int) : List Cell := normalL (latL l t)
theorem hexG_len (l : List Cell) (t : Int) : (hexG l t).length = l.length := by unfold hexG; rw [normalL_len, latL_len]
def hexGOk (l : List Cell) : Nat → Int → Bool
  | 0, _ => true
  | n + 1, t => shapeB (hexG l t) && hexGOk l n (t + 1)
def hexGS (l : List Cell) : Nat → Int → List (List Cell)
  | 0, _ => []
  | n + 1, t => hexG l t :: hexGS l n (t + 1)
theorem hexGS_len (l : List Cell) : ∀ (n : Nat) (t : Int), (hexGS l n t).length = n
  | 0, _ => rfl
  | n + 1, t => by unfold hexGS; rw [List.length_cons, hexGS_len l n]
theorem hexGS_mem (l : List Cell) : ∀ (n : Nat) (t : Int), ∀ x ∈ hexGS l n t, x.length = l.length
  | 0, _, x, h => by simp [hexGS] at h
  | n + 1, t, x, h => by
    unfold hexGS at h
    rcases List.mem_cons.1 h with rfl | h
    · exact hexG_len l t
    · exact hexGS_mem l n _ x h
theorem minS_mem : ∀ (r : List (List Cell)) (m : List Cell), minS m r ∈ m :: r
  | [], m => by simp [minS]
  | x :: r, m => by
    unfold minS
    have h := minS_mem r (if cmpS x m < 0 then x else m)
    rcases List.mem_cons.1 h with h | h
    · rw [h]
      split
      · simp
      · simp
    · exact List.mem_cons_of_mem _ (List.mem_cons_of_mem _ h)
def minA : List (List Cell) → List Cell
  | [] => []
  | c :: r => minS c r
theorem specForms1_l (l : List Cell) (hl : l.length ≤ 1048576) (h0 : 0 < l.length) : ∀ (n : Nat) (t : Int) (acc : List (List Cell)) (b : Bool), 0 ≤ t → t + (n : Int) = 12 → acc.length + n ≤ 12 → Ev (fun k => spec_l07Forms.l0 k 1 l acc b t) (acc ++ hexGS l n t, b && hexGOk l n t)
  | 0, t, acc, b, h1, h2, h3 => by
    refine Ev.succ ?_
    simp only [spec_l07Forms.l0]
    exact Ev.neg (by omega) (Ev.of_eq (Ev.now _) (by simp [hexGS, hexGOk]))
  | n + 1, t, acc, b, h1, h2, h3 => by
    refine Ev.succ ?_
    simp only [spec_l07Forms.l0]
    have ew : wrap64 (t + 1) = t + 1 := w64 (by omega) (by omega)
    refine Ev.pos (by omega) (Ev.bind (specForm1_ev l t h1 hl h0) ?_)
    have hf : small (normalL (latL l t)) := by have := hexG_len l t; unfold hexG at this; unfold small; omega
    simp only [ew]
    cases b
    · refine Ev.neg (by simp) (Ev.pos (by omega) (Ev.of_eq (specForms1_l l hl h0 n (t + 1) (acc ++ [hexG l t]) false (by omega) (by omega) (by simp; omega)) ?_))
      simp [hexGS]
    · refine Ev.pos rfl (Ev.bind (specIsShape_ev _ hf) (Ev.pos (by omega) (Ev.of_eq (specForms1_l l hl h0 n (t + 1) (acc ++ [hexG l t]) _ (by omega) (by omega) (by simp; omega)) ?_)))
      simp [hexGS, hexGOk, hexG]
theorem specLeastS_ev (c : List Cell) (r : List (List Cell)) (hs : small (c :: r)) (hx_ : ∀ x ∈ c :: r, small x) : Ev (fun k => spec_l07Least.f k (c :: r)) (minS c r) := by
  unfold spec_l07Least.f
  refine Ev.pos (by rw [List.length_cons]; omega) ?_
  have h1 : rd_L2 (c :: r) 0 = c := rfl
  rw [h1]
  refine loop_tail c r (fun k i (s : List Cell) => spec_l07Least.l0 k (c :: r) s i) (fun _ suf s => minS s suf) (fun _ s => True) ?_ ?_ c trivial
  · rintro s _
    simp only [spec_l07Least.l0, len_lt, if_false]
    exact Ev.now _
  · rintro pre d suf s hx _ _ ih
    simp only [spec_l07Least.l0, pre_lt hx, pre_0, if_true, at_preL2 hx, pre_w hx hs]
    refine Ev.bind (specCompare_ev d s (hx_ d (by rw [hx]; simp))) ?_
    unfold minS
    by_cases h : cmpS d s < 0
    · rw [if_pos h]; exact Ev.pos h (ih d trivial)
    · rw [if_neg h]; exact Ev.neg h (ih s trivial)
theorem implLeast1_l (l : List Cell) (hl : l.length ≤ 1048576) (h0 : 0 < l.length) : ∀ (n : Nat) (t : Int) (acc : List (List Cell)), 0 ≤ t → t + (n : Int) = 12 → acc.length + n = 12 → (∀ x ∈ acc, small x) → Ev (fun k => impl_leastForm__impl_hexForm.l0 k l acc t) (if hexGOk l n t = true then (minA (acc ++ hexGS l n t), true) else ([], false))
  | 0, t, acc, h1, h2, h3, h4 => by
    obtain ⟨c, r, rfl⟩ : ∃ c r, acc = c :: r := by cases acc with | nil => simp at h3 | cons c r => exact ⟨c, r, rfl⟩
    refine Ev.succ ?_
    simp only [impl_leastForm__impl_hexForm.l0]
    refine Ev.neg (by omega) (Ev.bind (implMin_ev c r (by unfold small; omega) h4) (Ev.of_eq (Ev.now _) ?_))
    simp [hexGOk, hexGS, minA]
  | n + 1, t, acc, h1, h2, h3, h4 => by
    have ew : wrap64 (t + 1) = t + 1 := w64 (by omega) (by omega)
    have hf : small (normalL (latL l t)) := by have := hexG_len l t; unfold hexG at this; unfold small; omega
    by_cases hs : shapeB (normalL (latL l t)) = true
    · have hm := implLeast1_l l hl h0 n (t + 1) (acc ++ [normalL (latL l t)]) (by omega) (by omega) (by simp; omega) (fun x hx => by
        rcases List.mem_append.1 hx with hx | hx
        · exact h4 x hx
        · simp at hx; exact hx ▸ hf)
      refine Ev.succ ?_
      simp only [impl_leastForm__impl_hexForm.l0]
      refine Ev.pos (by omega) (Ev.bind (implHexForm_ev l t h1 hl h0) (Ev.bind (implIsShape_ev _ hf) (Ev.pos hs (Ev.pos (by omega) ?_))))
      simp only [ew]
      refine Ev.of_eq hm ?_
      simp [hexGOk, hexGS, hexG, hs]
    · refine Ev.succ ?_
      simp only [impl_leastForm__impl_hexForm.l0]
      refine Ev.pos (by omega) (Ev.bind (implHexForm_ev l t h1 hl h0) (Ev.bind (implIsShape_ev _ hf) (Ev.neg hs (Ev.of_eq (Ev.now _) ?_))))
      simp [hexGOk, hexG, hs]
def hexGMin (l : List Cell) : List Cell := minS (hexG l 0) (hexGS l 11 1)
theorem hexGMin_len (l : List Cell) : (hexGMin l).length = l.length := by
  have h := minS_mem (hexGS l 11 1) (hexG l 0)
  rcases List.mem_cons.1 h with h | h
  · unfold hexGMin; rw [h, hexG_len]
  · exact hexGS_mem l 11 1 _ h
def hexGFree (l : List Cell) : List Cell × Int := if shapeB l = true then (if hexGOk l 12 0 = true then (hexGMin l, 0) else ([], 3)) else ([], 1)
theorem hexGFree_len (l : List Cell) : (hexGFree l).1.length ≤ l.length := by
  unfold hexGFree
  split
  · split
    · rw [hexGMin_len]; exact Nat.le_refl _
    · simp
  · simp
theorem specHexFree_ev (l : List Cell) (hl : l.length ≤ 1048576) : Ev (fun k => spec_HexFree.f k l) (hexGFree l) := by
  have hs : small l := by unfold small; omega
  unfold spec_HexFree.f
  refine Ev.bind (a := hexGFree l) ?_ (Ev.now _)
  unfold spec_l07FreeCode.f hexGFree
  refine Ev.bind (specShape1_ev l hs) (Ev.if_ (fun h => ?_) (fun _ => Ev.now _))
  have hp : 0 < l.length := shape_pos h
  have hF : Ev (fun k => spec_l07Forms.f k 1 l) (hexGS l 12 0, hexGOk l 12 0) := by
    unfold spec_l07Forms.f
    exact Ev.of_eq (specForms1_l l hl hp 12 0 [] true (by omega) (by omega) (by simp)) (by simp)
  refine Ev.bind hF (Ev.if_ (fun _ => ?_) (fun _ => Ev.now _))
  simp only [Option.bind_some, List.nil_append, List.length_nil]
  have e12 : hexGS l 12 0 = hexG l 0 :: hexGS l 11 1 := rfl
  have hmem : ∀ x ∈ hexG l 0 :: hexGS l 11 1, small x := by
    intro x hx
    rw [← e12] at hx
    have := hexGS_mem l 12 0 x hx
    unfold small; omega
  simp only [e12]
  refine Ev.bind (specLeastS_ev _ _ (by unfold small; rw [List.length_cons, hexGS_len]; omega) hmem) ?_
  have hml := hexGMin_len l
  unfold hexGMin at hml
  exact Ev.pos (by omega) (Ev.of_eq (Ev.now _) rfl)
theorem implHexFree_ev (l : List Cell) (hl : l.length ≤ 1048576) : Ev (fun k => impl_HexFree.f k l) (hexGFree l) := by
  have hs : small l := by unfold small; omega
  unfold impl_HexFree.f hexGFree
  refine Ev.bind (implIsShape_ev l hs) (Ev.if_ (fun h => ?_) (fun _ => Ev.now _))
  have hp : 0 < l.length := shape_pos h
  have hL : Ev (fun k => impl_leastForm__impl_hexForm.f k l) (if hexGOk l 12 0 = true then (minA (hexGS l 12 0), true) else ([], false)) := by
    unfold impl_leastForm__impl_hexForm.f
    exact Ev.of_eq (implLeast1_l l hl hp 12 0 [] (by omega) (by omega) (by simp) (fun x hx => by simp at hx)) (by simp)
  by_cases ho : hexGOk l 12 0 = true
  · rw [if_pos ho] at hL ⊢
    exact Ev.bind hL (Ev.pos rfl (Ev.of_eq (Ev.now _) rfl))
  · rw [if_neg ho] at hL ⊢
    exact Ev.bind hL (Ev.neg (by simp) (Ev.now _))
end Go.Proofs.Ytnohbmnoioikbaa.L
namespace Go.Proofs.Ytnohbmnoioikbaa.Pure
open Go.RowKit Go.Proofs.YtnohbmnoioikbaaW.PrintWords Go.Proofs.Ytnohbmnoioikbaa.F Go.Proofs.Ytnohbmnoioikbaa.L
set_option linter.unusedVariables false

theorem FnExactHexFree (l : List LCell) {V : LCell → Prop} (hv : l.length ≤ 9223372036854775807 ∧ ∀ a ∈ l, V a) : ∃ k, laws_FnExactHexFree.f k l = some true := by
  refine Ev.rounds ?_
  unfold laws_FnExactHexFree.f
  rw [szCellS_eq l 1048576 (by decide) (by decide) hv.1]
  simp only [Option.bind_some]
  by_cases h : (1048576 : Int) - (l.length : Int) < 0
  · rw [if_pos h]; exact Ev.pos (by decide) (Ev.now _)
  · rw [if_neg h]
    refine Ev.neg h ?_
    have la : l.length ≤ 1048576 := by omega
    have lm : (l.map cellOf).length ≤ 1048576 := by simpa using la
    have hs : small (l.map cellOf) := by unfold small; omega
    have hf : fits (l.map cellOf) := lm
    have hb := hexGFree_len (l.map cellOf)
    have hbs : small (hexGFree (l.map cellOf)).1 := by unfold small; omega
    have hbf : fits (hexGFree (l.map cellOf)).1 := by unfold fits; omega
    refine Ev.bind (toCellS_ev l la) (Ev.bind (specHexFree_ev _ lm) (Ev.bind (toCellS_ev l la) (Ev.bind (implHexFree_ev _ lm) (Ev.bind (eqCellS_ev _ hbs) (Ev.pos rfl ?_)))))
    refine Ev.step (fun k => laws_FnExactHexFree.j0.eq_2 _ _ _ _ _ _ _ _) (Ev.neg (by simp) ?_)
    refine Ev.bind (toCellS_ev l la) (Ev.bind (eqCellS_ev _ hs) (Ev.pos rfl (Ev.bind (markCellS_ev _ hf) (Ev.neg (by simp; omega) (Ev.bind (eqCellS_ev _ hbs) (Ev.pos rfl ?_))))))
    refine Ev.step (fun k => laws_FnExactHexFree.j1.eq_2 _ _ _ _ _ _) (Ev.neg (by simp) ?_)
    refine Ev.bind (markCellS_ev _ hbf) (Ev.bind (heldCellS_ev _ hbf) (Ev.neg (by omega) (Ev.pos rfl ?_)))
    refine Ev.bind (toCellS_ev l la) (Ev.bind (implHexFree_ev _ lm) (Ev.bind (eqCellS_ev _ hbs) (Ev.pos rfl ?_)))
    refine Ev.step (fun k => laws_FnExactHexFree.j2.eq_2 _ _ _ _) (Ev.neg (by simp) ?_)
    exact Ev.bind (heldCellS_ev _ hbf) (Ev.neg (by omega) (Ev.pos rfl (Ev.now _)))
end Go.Proofs.Ytnohbmnoioikbaa.Pure
