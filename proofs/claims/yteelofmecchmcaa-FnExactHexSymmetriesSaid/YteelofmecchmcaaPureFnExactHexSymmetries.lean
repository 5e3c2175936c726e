/- Both sides answer alike on the symmetries of a hex form. -/
import Derived.Test.YteelofmecchmcaaLattice
import Derived.Test.YteelofmecchmcaaShapeCmp
import Derived.Test.YteelofmecchmcaaEqualC
import Derived.Test.YteelofmecchmcaaMarkI
import Derived.Test.YteelofmecchmcaaFx0
import Derived.Test.YteelofmecchmcaaFx34
import Derived.Test.YteelofmecchmcaaFx39
import Derived.Test.YteelofmecchmcaaFx41
import Derived.Test.YteelofmecchmcaaFx44
namespace Go.Proofs.Yteelofmecchmcaa.L
open Go.RowKit Go.Proofs.YteelofmecchmcaaW.PrintWords Go.Proofs.YteelofmecchmcaaW.PrintLast Go.Proofs.YteelofmecchmcaaW.PrintMore Go.Proofs.Yteelofmecchmcaa.F
set_option linter.unusedVariables false
set_option linter.unusedSimpArgs false
def hexF (l : List Cell) (t : Int) : List Cell := normalL (latL l t)
theorem hexF_len (l : List Cell) (t : Int) : (hexF l t).length = l.length := by unfold hexF; rw [normalL_len, latL_len]
def okF (l : List Cell) : Nat → Int → Bool
  | 0, _ => true
  | n + 1, t => shapeB (hexF l t) && okF l n (t + 1)
def formsF (l : List Cell) : Nat → Int → List (List Cell)
  | 0, _ => []
  | n + 1, t => hexF l t :: formsF l n (t + 1)
theorem formsF_get (l : List Cell) : ∀ (n : Nat) (t : Int) (j : Nat), j < n → (formsF l n t)[j]? = some (hexF l (t + (j : Int)))
  | 0, t, j, h => by omega
  | n + 1, t, 0, h => by simp [formsF]
  | n + 1, t, j + 1, h => by
    unfold formsF
    rw [List.getElem?_cons_succ, formsF_get l n (t + 1) j (by omega)]
    congr 2; omega
theorem formsF_len (l : List Cell) : ∀ (n : Nat) (t : Int), (formsF l n t).length = n
  | 0, _ => rfl
  | n + 1, t => by unfold formsF; rw [List.length_cons, formsF_len l n]
def symH (l : List Cell) : Nat → Int → List Int
  | 0, _ => []
  | n + 1, t => if hexF l t = hexF l 0 then t :: symH l n (t + 1) else symH l n (t + 1)
theorem symH_len (l : List Cell) : ∀ (n : Nat) (t : Int), (symH l n t).length ≤ n
  | 0, _ => Nat.le_refl _
  | n + 1, t => by
    have := symH_len l n (t + 1)
    unfold symH
    split
    · rw [List.length_cons]; omega
    · omega
theorem specForms_l (l : List Cell) (hl : l.length ≤ 1048576) (h0 : 0 < l.length) : ∀ (n : Nat) (t : Int) (acc : List (List Cell)) (b : Bool), 0 ≤ t → t + (n : Int) = 12 → acc.length + n ≤ 12 → Ev (fun k => spec_l07Forms.l0 k 1 l acc b t) (acc ++ formsF l n t, b && okF l n t)
  | 0, t, acc, b, h1, h2, h3 => by
    refine Ev.succ ?_
    simp only [spec_l07Forms.l0]
    exact Ev.neg (by omega) (Ev.of_eq (Ev.now _) (by simp [formsF, okF]))
  | n + 1, t, acc, b, h1, h2, h3 => by
    refine Ev.succ ?_
    simp only [spec_l07Forms.l0]
    have ew : wrap64 (t + 1) = t + 1 := w64 (by omega) (by omega)
    refine Ev.pos (by omega) (Ev.bind (specForm1_ev l t h1 hl h0) ?_)
    have hf : small (normalL (latL l t)) := by have := hexF_len l t; unfold hexF at this; unfold small; omega
    simp only [ew]
    cases b
    · refine Ev.neg (by simp) (Ev.pos (by omega) (Ev.of_eq (specForms_l l hl h0 n (t + 1) (acc ++ [hexF l t]) false (by omega) (by omega) (by simp; omega)) ?_))
      simp [formsF]
    · refine Ev.pos rfl (Ev.bind (specIsShape_ev _ hf) (Ev.pos (by omega) (Ev.of_eq (specForms_l l hl h0 n (t + 1) (acc ++ [hexF l t]) _ (by omega) (by omega) (by simp; omega)) ?_)))
      simp [formsF, okF, hexF]
theorem implLeast_l (l : List Cell) (hl : l.length ≤ 1048576) (h0 : 0 < l.length) : ∀ (n : Nat) (t : Int) (acc : List (List Cell)), 0 ≤ t → t + (n : Int) = 12 → acc.length + n = 12 → (∀ x ∈ acc, small x) → ∃ m, Ev (fun k => impl_leastForm__impl_hexForm.l0 k l acc t) (m, okF l n t)
  | 0, t, acc, h1, h2, h3, h4 => by
    obtain ⟨c, r, rfl⟩ : ∃ c r, acc = c :: r := by cases acc with | nil => simp at h3 | cons c r => exact ⟨c, r, rfl⟩
    refine ⟨minS c r, Ev.succ ?_⟩
    simp only [impl_leastForm__impl_hexForm.l0]
    exact Ev.neg (by omega) (Ev.bind (implMin_ev c r (by unfold small; omega) h4) (Ev.now _))
  | n + 1, t, acc, h1, h2, h3, h4 => by
    have ew : wrap64 (t + 1) = t + 1 := w64 (by omega) (by omega)
    have hf : small (normalL (latL l t)) := by have := hexF_len l t; unfold hexF at this; unfold small; omega
    by_cases hs : shapeB (normalL (latL l t)) = true
    · obtain ⟨m, hm⟩ := implLeast_l l hl h0 n (t + 1) (acc ++ [normalL (latL l t)]) (by omega) (by omega) (by simp; omega) (fun x hx => by
        rcases List.mem_append.1 hx with hx | hx
        · exact h4 x hx
        · simp at hx; exact hx ▸ hf)
      refine ⟨m, Ev.succ ?_⟩
      simp only [impl_leastForm__impl_hexForm.l0]
      refine Ev.pos (by omega) (Ev.bind (implHexForm_ev l t h1 hl h0) (Ev.bind (implIsShape_ev _ hf) (Ev.pos hs (Ev.pos (by omega) ?_))))
      simp only [ew]
      refine Ev.of_eq hm ?_
      simp [okF, hexF, hs]
    · refine ⟨[], Ev.succ ?_⟩
      simp only [impl_leastForm__impl_hexForm.l0]
      refine Ev.pos (by omega) (Ev.bind (implHexForm_ev l t h1 hl h0) (Ev.bind (implIsShape_ev _ hf) (Ev.neg hs (Ev.of_eq (Ev.now _) ?_))))
      simp [okF, hexF, hs]
theorem specHSym_l (l : List Cell) (hl : l.length ≤ 1048576) : ∀ (n : Nat) (t : Int) (s : List Int), 0 ≤ t → t + (n : Int) = 12 → s.length + n ≤ 12 → Ev (fun k => spec_HexSymmetries.l0 k (formsF l 12 0) s t) (s ++ symH l n t, (0 : Int))
  | 0, t, s, h1, h2, h3 => by
    refine Ev.succ ?_
    simp only [spec_HexSymmetries.l0]
    exact Ev.neg (by omega) (Ev.of_eq (Ev.now _) (by simp [symH]))
  | n + 1, t, s, h1, h2, h3 => by
    refine Ev.succ ?_
    simp only [spec_HexSymmetries.l0]
    have ew : wrap64 (t + 1) = t + 1 := w64 (by omega) (by omega)
    have hlen := formsF_len l 12 0
    have e1 : rd_L2 (formsF l 12 0) t = hexF l t := by
      unfold rd_L2
      rw [List.getD_eq_getElem?_getD, formsF_get l 12 0 t.toNat (by omega)]
      show hexF l (0 + (t.toNat : Int)) = _
      congr 1; omega
    have e0 : rd_L2 (formsF l 12 0) 0 = hexF l 0 := by
      unfold rd_L2
      rw [List.getD_eq_getElem?_getD, formsF_get l 12 0 (0 : Int).toNat (by decide)]
      rfl
    have hf : small (hexF l t) := by unfold small; rw [hexF_len]; omega
    simp only [e1, e0, ew]
    refine Ev.pos (by omega) (Ev.pos h1 (Ev.pos (by omega) (Ev.pos (by omega) (Ev.bind (specCompare_ev _ _ hf) ?_))))
    unfold symH
    by_cases h : hexF l t = hexF l 0
    · rw [if_pos h]
      exact Ev.pos ((cmpS_zero _ _).2 h) (Ev.pos (by omega) (Ev.of_eq (specHSym_l l hl n (t + 1) (s ++ [t]) (by omega) (by omega) (by simp; omega)) (by simp)))
    · rw [if_neg h]
      exact Ev.neg (fun e => h ((cmpS_zero _ _).1 e)) (specHSym_l l hl n (t + 1) s (by omega) (by omega) (by omega))
theorem implHSym_l (l : List Cell) (hl : l.length ≤ 1048576) (h0 : 0 < l.length) : ∀ (n : Nat) (t : Int) (s : List Int), 0 ≤ t → t + (n : Int) = 12 → s.length + n ≤ 12 → Ev (fun k => impl_HexSymmetries.l0 k l s (hexF l 0) t) (s ++ symH l n t, (0 : Int))
  | 0, t, s, h1, h2, h3 => by
    refine Ev.succ ?_
    simp only [impl_HexSymmetries.l0]
    exact Ev.neg (by omega) (Ev.of_eq (Ev.now _) (by simp [symH]))
  | n + 1, t, s, h1, h2, h3 => by
    refine Ev.succ ?_
    simp only [impl_HexSymmetries.l0]
    have ew : wrap64 (t + 1) = t + 1 := w64 (by omega) (by omega)
    have hf : small (normalL (latL l t)) := by have := hexF_len l t; unfold hexF at this; unfold small; omega
    refine Ev.pos (by omega) (Ev.bind (implHexForm_ev l t h1 hl h0) (Ev.bind (equalC_ev _ _ hf) ?_))
    simp only [ew, decide_eq_true_eq]
    unfold symH
    by_cases h : hexF l t = hexF l 0
    · rw [if_pos h]
      exact Ev.pos h (Ev.pos (by omega) (Ev.of_eq (implHSym_l l hl h0 n (t + 1) (s ++ [t]) (by omega) (by omega) (by simp; omega)) (by simp)))
    · rw [if_neg h]
      exact Ev.neg h (implHSym_l l hl h0 n (t + 1) s (by omega) (by omega) (by omega))
def hsymR (l : List Cell) : List Int × Int := if shapeB l = true then (if okF l 12 0 = true then (symH l 12 0, 0) else ([], 3)) else ([], 1)
theorem hsymR_len (l : List Cell) : (hsymR l).1.length ≤ 12 := by
  unfold hsymR
  split
  · split
    · exact symH_len l 12 0
    · simp
  · simp
theorem specHSymR_ev (l : List Cell) (hl : l.length ≤ 1048576) : Ev (fun k => spec_HexSymmetries.f k l) (hsymR l) := by
  have hs : small l := by unfold small; omega
  unfold spec_HexSymmetries.f hsymR
  refine Ev.bind (specIsShape_ev l hs) (Ev.if_ (fun hr => ?_) (fun _ => Ev.now _))
  have hF : Ev (fun k => spec_l07Forms.f k 1 l) (formsF l 12 0, okF l 12 0) := by
    unfold spec_l07Forms.f
    exact Ev.of_eq (specForms_l l hl (shape_pos hr) 12 0 [] true (by omega) (by omega) (by simp)) (by simp)
  exact Ev.bind hF (Ev.if_ (fun _ => Ev.of_eq (specHSym_l l hl 12 0 [] (by omega) (by omega) (by simp)) (by simp)) (fun _ => Ev.now _))
theorem hexF0 {l : List Cell} (h : shapeB l = true) : hexF l 0 = normalL l := by
  unfold hexF latL
  have e : l.map (latD 0) = l := by
    have : latD 0 = id := by funext c; rfl
    rw [this, List.map_id]
  rw [e, sortC_id ((shapeB_iff.1 h).2.1.imp fun {a b} hab hba => ltC_irrefl a (ltC_trans hab hba))]
theorem implHSymR_ev (l : List Cell) (hl : l.length ≤ 1048576) : Ev (fun k => impl_HexSymmetries.f k l) (hsymR l) := by
  have hs : small l := by unfold small; omega
  unfold impl_HexSymmetries.f hsymR
  refine Ev.bind (implIsShape_ev l hs) (Ev.if_ (fun hr => ?_) (fun _ => Ev.now _))
  obtain ⟨m, hm⟩ := implLeast_l l hl (shape_pos hr) 12 0 [] (by omega) (by omega) (by simp) (fun x hx => by simp at hx)
  have hL : Ev (fun k => impl_leastForm__impl_hexForm.f k l) (m, okF l 12 0) := by
    unfold impl_leastForm__impl_hexForm.f
    exact hm
  refine Ev.bind hL (Ev.if_ (fun _ => ?_) (fun _ => Ev.now _))
  refine Ev.bind (Ev.of_eq (implNormal_ev l hl (shape_pos hr)) (hexF0 hr).symm) ?_
  exact Ev.of_eq (implHSym_l l hl (shape_pos hr) 12 0 [] (by omega) (by omega) (by simp)) (by simp)
end Go.Proofs.Yteelofmecchmcaa.L
namespace Go.Proofs.Yteelofmecchmcaa.Pure
open Go.RowKit Go.Proofs.YteelofmecchmcaaW.PrintWords Go.Proofs.Yteelofmecchmcaa.F Go.Proofs.Yteelofmecchmcaa.L
set_option linter.unusedVariables false

theorem FnExactHexSymmetries (l : List LCell) {V : LCell → Prop} (hv : l.length ≤ 9223372036854775807 ∧ ∀ a ∈ l, V a) : ∃ k, laws_FnExactHexSymmetries.f k l = some true := by
  refine Ev.rounds ?_
  unfold laws_FnExactHexSymmetries.f
  rw [szCellS_eq l 1048576 (by decide) (by decide) hv.1]
  simp only [Option.bind_some]
  by_cases h : (1048576 : Int) - (l.length : Int) < 0
  · rw [if_pos h]; exact Ev.pos (by decide) (Ev.now _)
  · rw [if_neg h]
    refine Ev.neg h ?_
    have la : l.length ≤ 1048576 := by omega
    have lm : (l.map cellOf).length ≤ 1048576 := by simpa using la
    have hs : small (l.map cellOf) := by unfold small; omega
    have hf : fits (l.map cellOf) := lm
    have hb := hsymR_len (l.map cellOf)
    have hbs : small (hsymR (l.map cellOf)).1 := by unfold small; omega
    have hbf : fits (hsymR (l.map cellOf)).1 := by unfold fits; omega
    refine Ev.bind (toCellS_ev l la) (Ev.bind (specHSymR_ev _ lm) (Ev.bind (toCellS_ev l la) (Ev.bind (implHSymR_ev _ lm) (Ev.bind (eqInt64S_ev _ hbs) (Ev.pos rfl ?_)))))
    refine Ev.step (fun k => laws_FnExactHexSymmetries.j0.eq_2 _ _ _ _ _ _ _ _) (Ev.neg (by simp) ?_)
    refine Ev.bind (toCellS_ev l la) (Ev.bind (eqCellS_ev _ hs) (Ev.pos rfl (Ev.bind (markCellS_ev _ hf) (Ev.neg (by simp; omega) (Ev.bind (eqInt64S_ev _ hbs) (Ev.pos rfl ?_))))))
    refine Ev.step (fun k => laws_FnExactHexSymmetries.j1.eq_2 _ _ _ _ _ _) (Ev.neg (by simp) ?_)
    refine Ev.bind (markInt64S_ev _ 1 (by decide) (by decide) hbf) (Ev.bind (heldInt64S_ev _ (by omega)) (Ev.neg (by omega) (Ev.pos rfl ?_)))
    refine Ev.bind (toCellS_ev l la) (Ev.bind (implHSymR_ev _ lm) (Ev.bind (eqInt64S_ev _ hbs) (Ev.pos rfl ?_)))
    refine Ev.step (fun k => laws_FnExactHexSymmetries.j2.eq_2 _ _ _ _) (Ev.neg (by simp) ?_)
    exact Ev.bind (heldInt64S_ev _ (by omega)) (Ev.neg (by omega) (Ev.pos rfl (Ev.now _)))
end Go.Proofs.Yteelofmecchmcaa.Pure
