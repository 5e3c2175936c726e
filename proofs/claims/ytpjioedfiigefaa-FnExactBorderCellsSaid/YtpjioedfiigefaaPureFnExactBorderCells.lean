/- Both sides answer alike on the border cells of a region. -/
import Derived.Test.YtpjioedfiigefaaIndex
import Derived.Test.YtpjioedfiigefaaMarkI
import Derived.Test.YtpjioedfiigefaaFx11
import Derived.Test.YtpjioedfiigefaaFx15
import Derived.Test.YtpjioedfiigefaaFx4
import Derived.Test.YtpjioedfiigefaaFx6
import Derived.Test.YtpjioedfiigefaaFx9
namespace Go.Proofs.Ytpjioedfiigefaa.L
open Go.RowKit Go.Proofs.YtpjioedfiigefaaW.PrintWords Go.Proofs.YtpjioedfiigefaaW.PrintLast Go.Proofs.YtpjioedfiigefaaW.PrintMore Go.Proofs.Ytpjioedfiigefaa.F
set_option linter.unusedVariables false
set_option linter.unusedSimpArgs false

def aroundC (c : Cell) : List Cell := [⟨c.f0, wrap64 (c.f1 - 1)⟩, ⟨wrap64 (c.f0 - 1), c.f1⟩, ⟨wrap64 (c.f0 + 1), c.f1⟩, ⟨c.f0, wrap64 (c.f1 + 1)⟩]
theorem specAround_eq (c : Cell) : spec_l02Around.f c.f0 c.f1 = some (aroundC c) := rfl
theorem implAround_eq (c : Cell) : impl_around.f c.f0 c.f1 = some (aroundC c) := rfl
def innerB (l : List Cell) (c : Cell) : Bool := (aroundC c).all fun d => decide (idxC l d ≥ 0)
def borderF (l : List Cell) : Int → List Cell → List Int
  | _, [] => []
  | i, c :: r => if innerB l c = true then borderF l (i + 1) r else i :: borderF l (i + 1) r
def borderOf (l : List Cell) : List Int × Int := if regionB l = true then (borderF l 0 l, 0) else ([], 1)
theorem borderF_len (l : List Cell) : ∀ (r : List Cell) (i : Int), (borderF l i r).length ≤ r.length
  | [], _ => Nat.le_refl _
  | c :: r, i => by
    have := borderF_len l r (i + 1)
    unfold borderF
    split <;> simp only [List.length_cons] <;> omega
theorem borderOf_len (l : List Cell) : (borderOf l).1.length ≤ l.length := by
  unfold borderOf
  split
  · exact borderF_len l l 0
  · simp
def cntI (l : List Cell) (r : List Cell) : Nat := r.countP fun d => decide (idxC l d ≥ 0)
theorem specBorder_ev (l : List Cell) (hl : l.length ≤ 1048576) : Ev (fun k => spec_BorderCells.f k l) (borderOf l) := by
  have hs : small l := by unfold small; omega
  unfold spec_BorderCells.f borderOf
  refine Ev.bind (specIsRegion_ev l hs) (Ev.if_ (fun _ => ?_) (fun _ => Ev.now _))
  have := loop_list l (fun k i (s : List Int) => spec_BorderCells.l0 k l s i) (fun pre suf s => (s ++ borderF l (pre.length : Int) suf, (0 : Int))) (fun pre s => s.length ≤ pre.length) ?_ ?_ [] (Nat.le_refl _)
  · simpa using this
  · intro s _
    simp only [spec_BorderCells.l0, len_lt, if_false]
    exact Ev.of_eq (Ev.now _) (by simp [borderF])
  · intro pre c suf s hx hi ih
    have hp := pre_len hx
    simp only [spec_BorderCells.l0, pre_lt hx, pre_0, if_true, at_pre hx, specAround_eq, Option.bind_some]
    have h4 : ((aroundC c).length : Int) = 4 := rfl
    have := loop_list (aroundC c) (fun k i (n : Int) => spec_BorderCells.l1 k l s (pre.length : Int) (aroundC c) n i) (fun q r n => (s ++ borderF l (pre.length : Int) (c :: suf), (0 : Int)))
      (fun q n => n = (cntI l q : Int)) ?_ ?_ 0 rfl
    · exact this
    · rintro n rfl
      have e0 : ¬ (((aroundC c).length : Int) < 4) := by rw [h4]; decide
      simp only [spec_BorderCells.l1, e0, if_false, pre_w hx hs]
      have hle : cntI l (aroundC c) ≤ 4 := List.countP_le_length
      have hc : ((cntI l (aroundC c) : Int) < 4) ↔ ¬ innerB l c = true := by
        have h1 : innerB l c = true ↔ cntI l (aroundC c) = (aroundC c).length := by
          unfold innerB cntI
          rw [List.countP_eq_length, List.all_eq_true]
        rw [h1]
        have : (aroundC c).length = 4 := rfl
        omega
      by_cases hb : innerB l c = true
      · refine Ev.neg (fun h => hc.1 h hb) ?_
        refine Ev.of_eq (ih s (by simp; omega)) ?_
        simp [borderF, hb]
      · refine Ev.pos (hc.2 hb) (Ev.pos (by omega) ?_)
        refine Ev.of_eq (ih (s ++ [(pre.length : Int)]) (by simp; omega)) ?_
        simp [borderF, hb]
    · rintro q d r n hq rfl ihq
      have hq4 : ((q.length : Int) < 4) = True := by
        have := pre_len hq
        have h5 : (aroundC c).length = 4 := rfl
        simp; omega
      have hsm : small (aroundC c) := by unfold small; have h5 : (aroundC c).length = 4 := rfl; omega
      simp only [spec_BorderCells.l1, hq4, pre_0, if_true, pre_lt hq, at_pre hq, pre_w hq hsm]
      refine Ev.bind (specIndex_ev l d hs) ?_
      have hle : cntI l q ≤ 4 := by
        have := List.countP_le_length (p := fun d => decide (idxC l d ≥ 0)) (l := q)
        have h5 := pre_len hq
        have h6 : (aroundC c).length = 4 := rfl
        unfold cntI; omega
      by_cases hd : idxC l d ≥ 0
      · refine Ev.pos hd ?_
        have e1 : wrap64 ((cntI l q : Int) + 1) = (cntI l q : Int) + 1 := w64 (by omega) (by omega)
        simp only [e1]
        exact ihq _ (by simp [cntI, List.countP_append, hd])
      · exact Ev.neg hd (ihq _ (by simp [cntI, List.countP_append, hd]))
theorem implBorder_ev (l : List Cell) (hl : l.length ≤ 1048576) : Ev (fun k => impl_BorderCells.f k l) (borderOf l) := by
  have hs : small l := by unfold small; omega
  unfold impl_BorderCells.f borderOf
  refine Ev.bind (implIsRegion_ev l hs) (Ev.if_ (fun _ => ?_) (fun _ => Ev.now _))
  have := loop_list l (fun k i (s : List Int) => impl_BorderCells.l0 k l s l (l.length : Int) i) (fun pre suf s => (s ++ borderF l (pre.length : Int) suf, (0 : Int))) (fun pre s => s.length ≤ pre.length) ?_ ?_ [] (Nat.le_refl _)
  · simpa using this
  · intro s _
    simp only [impl_BorderCells.l0, len_lt, if_false]
    exact Ev.of_eq (Ev.now _) (by simp [borderF])
  · intro pre c suf s hx hi ih
    have hp := pre_len hx
    simp only [impl_BorderCells.l0, pre_lt hx, pre_0, if_true, at_pre hx, implAround_eq, Option.bind_some]
    have := loop_list (aroundC c) (fun k i (_ : Unit) => impl_BorderCells.l1 k l s (pre.length : Int) l (l.length : Int) (pre.length : Int) (aroundC c) ((aroundC c).length : Int) i)
      (fun q r _ => (s ++ (if (r.all fun d => decide (idxC l d ≥ 0)) = true then borderF l ((pre.length : Int) + 1) suf else (pre.length : Int) :: borderF l ((pre.length : Int) + 1) suf), (0 : Int)))
      (fun q _ => True) ?_ ?_ () trivial
    · refine Ev.of_eq this ?_
      rfl
    · intro _ _
      simp only [impl_BorderCells.l1, len_lt, if_false, pre_w hx hs]
      refine Ev.of_eq (ih s (by simp; omega)) ?_
      simp
    · intro q d r _ hq _ ihq
      have hsm : small (aroundC c) := by unfold small; have h5 : (aroundC c).length = 4 := rfl; omega
      simp only [impl_BorderCells.l1, pre_lt hq, pre_0, if_true, at_pre hq, pre_w hq hsm]
      refine Ev.bind (implContains_ev l d hs) ?_
      by_cases hd : idxC l d ≥ 0
      · refine Ev.pos (by simpa using hd) (Ev.of_eq (ihq () trivial) ?_)
        simp [hd]
      · refine Ev.neg (by simpa using hd) (Ev.pos (by omega) ?_)
        simp only [pre_w hx hs]
        refine Ev.of_eq (ih (s ++ [(pre.length : Int)]) (by simp; omega)) ?_
        simp [hd]
end Go.Proofs.Ytpjioedfiigefaa.L
namespace Go.Proofs.Ytpjioedfiigefaa.Pure
open Go.RowKit Go.Proofs.YtpjioedfiigefaaW.PrintWords Go.Proofs.Ytpjioedfiigefaa.F Go.Proofs.Ytpjioedfiigefaa.L
set_option linter.unusedVariables false

theorem FnExactBorderCells (l : List LCell) {V : LCell → Prop} (hv : l.length ≤ 9223372036854775807 ∧ ∀ a ∈ l, V a) : ∃ k, laws_FnExactBorderCells.f k l = some true := by
  refine Ev.rounds ?_
  unfold laws_FnExactBorderCells.f
  rw [szCellS_eq l 1048576 (by decide) (by decide) hv.1]
  simp only [Option.bind_some]
  by_cases h : (1048576 : Int) - (l.length : Int) < 0
  · rw [if_pos h]; exact Ev.pos (by decide) (Ev.now _)
  · rw [if_neg h]
    refine Ev.neg h ?_
    have la : l.length ≤ 1048576 := by omega
    have lm : (l.map cellOf).length ≤ 1048576 := by simpa using la
    have hs : small (l.map cellOf) := by unfold small; omega
    have hf : fits (l.map cellOf) := lm
    have hb := borderOf_len (l.map cellOf)
    have hbs : small (borderOf (l.map cellOf)).1 := by unfold small; omega
    have hbf : fits (borderOf (l.map cellOf)).1 := by unfold fits; omega
    refine Ev.bind (toCellS_ev l la) (Ev.bind (specBorder_ev _ lm) (Ev.bind (toCellS_ev l la) (Ev.bind (implBorder_ev _ lm) (Ev.bind (eqInt64S_ev _ hbs) (Ev.pos rfl ?_)))))
    refine Ev.step (fun k => laws_FnExactBorderCells.j0.eq_2 _ _ _ _ _ _ _ _) (Ev.neg (by simp) ?_)
    refine Ev.bind (toCellS_ev l la) (Ev.bind (eqCellS_ev _ hs) (Ev.pos rfl (Ev.bind (markCellS_ev _ hf) (Ev.neg (by simp; omega) (Ev.bind (eqInt64S_ev _ hbs) (Ev.pos rfl ?_))))))
    refine Ev.step (fun k => laws_FnExactBorderCells.j1.eq_2 _ _ _ _ _ _) (Ev.neg (by simp) ?_)
    refine Ev.bind (markInt64S_ev _ 1 (by decide) (by decide) hbf) (Ev.bind (heldInt64S_ev _ (by omega)) (Ev.neg (by omega) (Ev.pos rfl ?_)))
    refine Ev.bind (toCellS_ev l la) (Ev.bind (implBorder_ev _ lm) (Ev.bind (eqInt64S_ev _ hbs) (Ev.pos rfl ?_)))
    refine Ev.step (fun k => laws_FnExactBorderCells.j2.eq_2 _ _ _ _) (Ev.neg (by simp) ?_)
    exact Ev.bind (heldInt64S_ev _ (by omega)) (Ev.neg (by omega) (Ev.pos rfl (Ev.now _)))
end Go.Proofs.Ytpjioedfiigefaa.Pure
