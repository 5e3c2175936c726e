/- Cell sets: rising lists of indices; what a set holds, and what it leaves. -/
import Derived.Test.YtpjioedfiigefaaShapes
import Derived.Test.YtpjioedfiigefaaNormal
import Derived.Test.YtpjioedfiigefaaFx0
import Derived.Test.YtpjioedfiigefaaFx20
import Derived.Test.YtpjioedfiigefaaFx21
import Derived.Test.YtpjioedfiigefaaFx22
import Derived.Test.YtpjioedfiigefaaFx38
import Derived.Test.YtpjioedfiigefaaFx39
import Derived.Test.YtpjioedfiigefaaFx40
namespace Go.Proofs.Ytpjioedfiigefaa.L
open Go.RowKit Go.Proofs.YtpjioedfiigefaaW.PrintWords Go.Proofs.YtpjioedfiigefaaW.PrintLast Go.Proofs.YtpjioedfiigefaaW.PrintMore Go.Proofs.Ytpjioedfiigefaa.F
set_option linter.unusedVariables false
set_option linter.unusedSimpArgs false

def risesF (n : Int) : Option Int → List Int → Bool
  | _, [] => true
  | p, c :: r => decide (0 ≤ c ∧ c ≤ n - 1) && (match p with | none => true | some q => decide (q < c)) && risesF n (some c) r
theorem specRises_ev (l : List Int) (n : Int) (h0 : 0 ≤ n) (h1 : n ≤ 1048576) (hs : small l) : Ev (fun k => spec_l01Rises.f k l n) (risesF n none l) := by
  unfold spec_l01Rises.f
  have e0 : wrap64 (n - 1) = n - 1 := w64 (by omega) (by omega)
  refine loop_list l (fun k i (_ : Unit) => spec_l01Rises.l0 k l n i) (fun pre suf _ => risesF n pre.getLast? suf) (fun _ _ => True) ?_ ?_ () trivial
  · intro _ _
    simp only [spec_l01Rises.l0, len_lt, if_false]
    exact Ev.of_eq (Ev.now _) (by simp [risesF])
  · intro pre c suf _ hx _ ih
    simp only [spec_l01Rises.l0, pre_lt hx, pre_0, if_true, at_preI hx, in_eq, Option.bind_some, pre_w hx hs, e0]
    by_cases hc : 0 ≤ c ∧ c ≤ n - 1
    · simp only [hc, and_self, decide_true, if_true]
      rcases List.eq_nil_or_concat pre with rfl | ⟨L, b, rfl⟩
      · refine Ev.neg (by simp) (Ev.of_eq (ih () trivial) ?_)
        simp [risesF, hc]
      · rw [List.concat_eq_append] at hx ih ⊢
        have hx2 : l = L ++ b :: (c :: suf) := by rw [hx]; simp
        have e1 : wrap64 (((L ++ [b]).length : Int) - 1) = (L.length : Int) := by
          unfold small at hs
          rw [hx2] at hs
          simp only [List.length_append, List.length_cons, List.length_nil] at hs ⊢
          rw [w64 (by omega) (by omega)]; omega
        refine Ev.pos (by simp <;> omega) ?_
        simp only [e1, pre_0, if_true, pre_lt hx2, at_preI hx2]
        by_cases hl : b < c
        · refine Ev.neg (by omega) (Ev.of_eq (ih () trivial) ?_)
          simp [risesF, hc, hl]
        · refine Ev.pos (by omega) (Ev.of_eq (Ev.now _) ?_)
          simp [risesF, hc, hl]
    · simp only [hc, decide_false, Bool.false_eq_true, if_false]
      refine Ev.of_eq (Ev.now _) ?_
      simp [risesF, hc]
theorem implIncreasing_ev (l : List Int) (n : Int) (h0 : 0 ≤ n) (h1 : n ≤ 1048576) (hs : small l) : Ev (fun k => impl_isIncreasing.f k l n) (risesF n none l) := by
  unfold impl_isIncreasing.f
  have e0 : wrap64 (n - 1) = n - 1 := w64 (by omega) (by omega)
  refine loop_list l (fun k i (_ : Unit) => impl_isIncreasing.l0 k l n l (l.length : Int) i) (fun pre suf _ => risesF n pre.getLast? suf) (fun _ _ => True) ?_ ?_ () trivial
  · intro _ _
    simp only [impl_isIncreasing.l0, len_lt, if_false]
    exact Ev.of_eq (Ev.now _) (by simp [risesF])
  · intro pre c suf _ hx _ ih
    simp only [impl_isIncreasing.l0, pre_lt hx, pre_0, if_true, at_preI hx, within_eq, Option.bind_some, pre_w hx hs, e0]
    by_cases hc : 0 ≤ c ∧ c ≤ n - 1
    · simp only [hc, and_self, decide_true, if_true]
      rcases List.eq_nil_or_concat pre with rfl | ⟨L, b, rfl⟩
      · refine Ev.neg (by simp) (Ev.of_eq (ih () trivial) ?_)
        simp [risesF, hc]
      · rw [List.concat_eq_append] at hx ih ⊢
        have hx2 : l = L ++ b :: (c :: suf) := by rw [hx]; simp
        have e1 : wrap64 (((L ++ [b]).length : Int) - 1) = (L.length : Int) := by
          unfold small at hs
          rw [hx2] at hs
          simp only [List.length_append, List.length_cons, List.length_nil] at hs ⊢
          rw [w64 (by omega) (by omega)]; omega
        refine Ev.pos (by simp <;> omega) ?_
        simp only [e1, pre_0, if_true, pre_lt hx2, at_preI hx2]
        by_cases hl : b < c
        · refine Ev.neg (by omega) (Ev.of_eq (ih () trivial) ?_)
          simp [risesF, hc, hl]
        · refine Ev.pos (by omega) (Ev.of_eq (Ev.now _) ?_)
          simp [risesF, hc, hl]
    · simp only [hc, decide_false, Bool.false_eq_true, if_false]
      refine Ev.of_eq (Ev.now _) ?_
      simp [risesF, hc]
/-- The code of a region and a cell set. -/
def codeOf (l : List Cell) (s : List Int) : Int := if regionB l = true then (if risesF (l.length : Int) none s = true then 0 else 2) else 1
theorem specCode_ev (l : List Cell) (s : List Int) (hl : l.length ≤ 1048576) (hs : small s) : Ev (fun k => spec_l10Code.f k l s) (codeOf l s) := by
  unfold spec_l10Code.f codeOf
  refine Ev.bind (specIsRegion_ev l (by unfold small; omega)) (Ev.if_ (fun _ => ?_) (fun _ => Ev.now _))
  exact Ev.bind (specRises_ev s _ (by omega) (by omega) hs) (Ev.if_ (fun _ => Ev.now _) (fun _ => Ev.now _))
theorem implCode_ev (l : List Cell) (s : List Int) (hl : l.length ≤ 1048576) (hs : small s) : Ev (fun k => impl_setCode.f k l s) (codeOf l s) := by
  unfold impl_setCode.f codeOf
  refine Ev.bind (implIsRegion_ev l (by unfold small; omega)) (Ev.if_ (fun _ => ?_) (fun _ => Ev.now _))
  exact Ev.bind (implIncreasing_ev s _ (by omega) (by omega) hs) (Ev.if_ (fun _ => Ev.now _) (fun _ => Ev.now _))
theorem risesF_spec (n : Int) : ∀ (s : List Int) (p : Option Int), risesF n p s = true → (∀ i ∈ s, 0 ≤ i ∧ i < n) ∧ (∀ q, p = some q → ∀ i ∈ s, q < i) ∧ s.Pairwise (· < ·)
  | [], _, _ => ⟨fun i h => by simp at h, fun _ _ i h => by simp at h, List.Pairwise.nil⟩
  | a :: r, p, h => by
    simp only [risesF, Bool.and_eq_true, decide_eq_true_eq] at h
    obtain ⟨h1, h2, h3⟩ := risesF_spec n r (some a) h.2
    have h4 := h2 a rfl
    refine ⟨fun i hi => ?_, fun q hq i hi => ?_, List.pairwise_cons.2 ⟨h4, h3⟩⟩
    · rcases List.mem_cons.1 hi with rfl | hi
      · omega
      · exact h1 i hi
    · subst hq
      have h5 : q < a := by simpa using h.1.2
      rcases List.mem_cons.1 hi with rfl | hi
      · exact h5
      · have := h4 i hi; omega
theorem codeOf_zero {l : List Cell} {s : List Int} (h : codeOf l s = 0) : regionB l = true ∧ (∀ i ∈ s, 0 ≤ i ∧ i < (l.length : Int)) ∧ s.Pairwise (· < ·) := by
  unfold codeOf at h
  by_cases hr : regionB l = true
  · rw [if_pos hr] at h
    by_cases hs : risesF (l.length : Int) none s = true
    · obtain ⟨h1, _, h3⟩ := risesF_spec _ s none hs
      exact ⟨hr, h1, h3⟩
    · rw [if_neg hs] at h; omega
  · rw [if_neg hr] at h; omega
/-- Rising numbers from a on and below n: there are at most n - a, and if so many then all. -/
theorem rising_len : ∀ (s : List Int) (a n : Int), (∀ i ∈ s, a ≤ i ∧ i < n) → s.Pairwise (· < ·) → a ≤ n → (s.length : Int) ≤ n - a ∧ ((s.length : Int) = n - a ↔ ∀ i, a ≤ i → i < n → i ∈ s)
  | [], a, n, _, _, han => by
    refine ⟨by simp; omega, fun h i h1 h2 => by simp at h; omega, fun h => ?_⟩
    by_cases e : a < n
    · simpa using h a (Int.le_refl _) e
    · simp; omega
  | c :: r, a, n, h1, h2, han => by
    obtain ⟨h3, h4⟩ := List.pairwise_cons.1 h2
    have hc := h1 c List.mem_cons_self
    obtain ⟨h5, h6⟩ := rising_len r (c + 1) n (fun i hi => ⟨by have := h3 i hi; omega, (h1 i (List.mem_cons_of_mem _ hi)).2⟩) h4 (by omega)
    rw [List.length_cons]
    refine ⟨by omega, fun h i hi hi' => ?_, fun h => ?_⟩
    · have hca : c = a := by omega
      by_cases e : i = c
      · exact e ▸ List.mem_cons_self
      · exact List.mem_cons_of_mem _ (h6.1 (by omega) i (by omega) hi')
    · have hca : c = a := by
        have := h a (Int.le_refl _) (by omega)
        rcases List.mem_cons.1 this with e | e
        · exact e.symm
        · have := h3 a e; omega
      have := h6.2 fun i hi hi' => by
        rcases List.mem_cons.1 (h i (by omega) hi') with e | e
        · omega
        · exact e
      omega
/-- The cells of a set. -/
def cellsAt (l : List Cell) (s : List Int) : List Cell := s.map fun i => rd_T67 l i
theorem specCells_ev (l : List Cell) (s : List Int) (hs : s.length ≤ 1048576) (h : ∀ i ∈ s, 0 ≤ i ∧ i < (l.length : Int)) : Ev (fun k => spec_l10Cells.f k l s) (cellsAt l s) := by
  have hss : small s := by unfold small; omega
  unfold spec_l10Cells.f
  have := loop_list s (fun k i (q : List Cell) => spec_l10Cells.l0 k l s q i) (fun pre suf q => q ++ cellsAt l suf) (fun pre q => q.length = pre.length) ?_ ?_ [] rfl
  · simpa using this
  · intro q _
    simp only [spec_l10Cells.l0, len_lt, if_false]
    exact Ev.of_eq (Ev.now _) (by simp [cellsAt])
  · intro pre c suf q hx hi ih
    have hp := pre_len hx
    have hc := h c (by rw [hx]; simp)
    simp only [spec_l10Cells.l0, pre_lt hx, pre_0, if_true, at_preI hx, pre_w hx hss]
    refine Ev.pos hc.1 (Ev.pos hc.2 (Ev.pos (by omega) (Ev.of_eq (ih _ (by simp [hi])) ?_)))
    simp [cellsAt]
theorem implCells_ev (l : List Cell) (s : List Int) (hs : s.length ≤ 1048576) (h : ∀ i ∈ s, 0 ≤ i ∧ i < (l.length : Int)) : Ev (fun k => impl_setToCells.f k l s) (cellsAt l s) := by
  have hss : small s := by unfold small; omega
  unfold impl_setToCells.f
  have := loop_list s (fun k i (q : List Cell) => impl_setToCells.l0 k l q s (s.length : Int) i) (fun pre suf q => q ++ cellsAt l suf) (fun pre q => q.length = pre.length) ?_ ?_ [] rfl
  · simpa using this
  · intro q _
    simp only [impl_setToCells.l0, len_lt, if_false]
    exact Ev.of_eq (Ev.now _) (by simp [cellsAt])
  · intro pre c suf q hx hi ih
    have hp := pre_len hx
    have hc := h c (by rw [hx]; simp)
    simp only [impl_setToCells.l0, pre_lt hx, pre_0, if_true, at_preI hx, pre_w hx hss]
    refine Ev.pos hc.1 (Ev.pos hc.2 (Ev.pos (by omega) (Ev.of_eq (ih _ (by simp [hi])) ?_)))
    simp [cellsAt]
def setCells (l : List Cell) (s : List Int) : List Cell × Int := if codeOf l s = 0 then (cellsAt l s, 0) else ([], codeOf l s)
theorem setCells_len (l : List Cell) (s : List Int) : (setCells l s).1.length ≤ s.length := by
  unfold setCells
  split
  · simp [cellsAt]
  · simp
theorem specSetToCells_ev (l : List Cell) (s : List Int) (hl : l.length ≤ 1048576) (hs : s.length ≤ 1048576) : Ev (fun k => spec_SetToCells.f k l s) (setCells l s) := by
  unfold spec_SetToCells.f setCells
  refine Ev.bind (specCode_ev l s hl (by unfold small; omega)) (Ev.if_ (fun h => ?_) (fun _ => Ev.now _))
  exact Ev.bind (specCells_ev l s hs (codeOf_zero h).2.1) (Ev.now _)
theorem implSetToCells_ev (l : List Cell) (s : List Int) (hl : l.length ≤ 1048576) (hs : s.length ≤ 1048576) : Ev (fun k => impl_SetToCells.f k l s) (setCells l s) := by
  unfold impl_SetToCells.f setCells
  refine Ev.bind (implCode_ev l s hl (by unfold small; omega)) (Ev.if_ (fun h => ?_) (fun _ => Ev.now _))
  exact Ev.bind (implCells_ev l s hs (codeOf_zero h).2.1) (Ev.now _)
/-- Whether a number is in a list. -/
def hasI (s : List Int) (i : Int) : Bool := decide (i ∈ s)
theorem specHas_ev (s : List Int) (i : Int) (hs : small s) : Ev (fun k => spec_l01Has.f k s i) (hasI s i) := by
  unfold spec_l01Has.f
  refine loop_list s (fun k j (_ : Unit) => spec_l01Has.l0 k s i j) (fun pre suf _ => hasI suf i) (fun _ _ => True) ?_ ?_ () trivial
  · intro _ _
    simp only [spec_l01Has.l0, len_lt, if_false]
    exact Ev.of_eq (Ev.now _) (by simp [hasI])
  · intro pre c suf _ hx _ ih
    simp only [spec_l01Has.l0, pre_lt hx, pre_0, if_true, at_preI hx, pre_w hx hs]
    by_cases hc : c = i
    · exact Ev.pos hc (Ev.of_eq (Ev.now _) (by simp [hasI, hc]))
    · refine Ev.neg hc (Ev.of_eq (ih () trivial) ?_)
      have : ¬ i = c := fun e => hc e.symm
      simp [hasI, this]
def idxI : List Int → Int → Int → Int
  | [], _, _ => -1
  | a :: r, c, i => if c = a then i else idxI r c (i + 1)
theorem idxI_mem : ∀ (s : List Int) (c i : Int), 0 ≤ i → (idxI s c i ≥ 0 ↔ c ∈ s)
  | [], c, i, _ => by simp [idxI]
  | a :: r, c, i, hi => by
    unfold idxI
    by_cases h : c = a
    · rw [if_pos h]; simp [h, hi]
    · rw [if_neg h, idxI_mem r c (i + 1) (by omega)]; simp [h]
theorem implHas_ev (s : List Int) (i : Int) (hs : small s) : Ev (fun k => slices_Contains_int64_int64.f k s i) (hasI s i) := by
  unfold slices_Contains_int64_int64.f slices_Index_int64_int64.f
  have := loop_list s (fun k j (_ : Unit) => slices_Index_int64_int64.l0 k s i (s.length : Int) j) (fun pre suf _ => idxI suf i (pre.length : Int)) (fun _ _ => True) ?_ ?_ () trivial
  · refine Ev.bind this (Ev.of_eq (Ev.now _) ?_)
    have h := idxI_mem s i 0 (Int.le_refl _)
    unfold hasI
    rw [Bool.eq_iff_iff, decide_eq_true_eq, decide_eq_true_eq]
    exact h
  · intro _ _
    simp only [slices_Index_int64_int64.l0, len_lt, if_false]
    exact Ev.of_eq (Ev.now _) (by simp [idxI])
  · intro pre c suf _ hx _ ih
    simp only [slices_Index_int64_int64.l0, pre_lt hx, pre_0, if_true, at_preI hx, pre_w hx hs, idxI]
    refine Ev.if_ (fun _ => Ev.now _) (fun _ => Ev.of_eq (ih () trivial) ?_)
    simp
/-- What a set leaves. -/
def restF (s : List Int) : Int → List Cell → List Cell
  | _, [] => []
  | i, c :: r => if hasI s i = true then restF s (i + 1) r else c :: restF s (i + 1) r
theorem restF_len (s : List Int) : ∀ (r : List Cell) (i : Int), (restF s i r).length ≤ r.length
  | [], _ => Nat.le_refl _
  | c :: r, i => by
    have := restF_len s r (i + 1)
    unfold restF
    split <;> simp only [List.length_cons] <;> omega
theorem restF_nil (s : List Int) : ∀ (r : List Cell) (i : Int), restF s i r = [] ↔ ∀ j, i ≤ j → j < i + (r.length : Int) → j ∈ s
  | [], i => by simp [restF]; omega
  | c :: r, i => by
    unfold restF
    by_cases h : hasI s i = true
    · rw [if_pos h, restF_nil s r (i + 1), List.length_cons]
      have hi : i ∈ s := by simpa [hasI] using h
      constructor
      · intro h1 j h2 h3
        by_cases e : j = i
        · exact e ▸ hi
        · exact h1 j (by omega) (by omega)
      · intro h1 j h2 h3
        exact h1 j (by omega) (by omega)
    · rw [if_neg h]
      have hi : i ∉ s := by simpa [hasI] using h
      constructor
      · intro h1; simp at h1
      · intro h1; exact absurd (h1 i (Int.le_refl _) (by rw [List.length_cons]; omega)) hi
theorem specRest_ev (l : List Cell) (s : List Int) (hl : l.length ≤ 1048576) (hs : small s) : Ev (fun k => spec_l10Rest.f k l s) (restF s 0 l) := by
  have hsl : small l := by unfold small; omega
  unfold spec_l10Rest.f
  have := loop_list l (fun k i (q : List Cell) => spec_l10Rest.l0 k l s q i) (fun pre suf q => q ++ restF s (pre.length : Int) suf) (fun pre q => q.length ≤ pre.length) ?_ ?_ [] (Nat.le_refl _)
  · simpa using this
  · intro q _
    simp only [spec_l10Rest.l0, len_lt, if_false]
    exact Ev.of_eq (Ev.now _) (by simp [restF])
  · intro pre c suf q hx hi ih
    have hp := pre_len hx
    simp only [spec_l10Rest.l0, pre_lt hx, pre_0, if_true, at_pre hx, pre_w hx hsl]
    refine Ev.bind (specHas_ev s _ hs) ?_
    by_cases h : hasI s (pre.length : Int) = true
    · refine Ev.pos h (Ev.of_eq (ih q (by simp; omega)) ?_)
      simp [restF, h]
    · refine Ev.neg h (Ev.pos (by omega) (Ev.of_eq (ih _ (by simp; omega)) ?_))
      simp [restF, h]
theorem implWithout_ev (l : List Cell) (s : List Int) (hl : l.length ≤ 1048576) (hs : small s) : Ev (fun k => impl_without.f k l s) (restF s 0 l) := by
  have hsl : small l := by unfold small; omega
  unfold impl_without.f
  have := loop_list l (fun k i (q : List Cell) => impl_without.l0 k s q l (l.length : Int) i) (fun pre suf q => q ++ restF s (pre.length : Int) suf) (fun pre q => q.length ≤ pre.length) ?_ ?_ [] (Nat.le_refl _)
  · simpa using this
  · intro q _
    simp only [impl_without.l0, len_lt, if_false]
    exact Ev.of_eq (Ev.now _) (by simp [restF])
  · intro pre c suf q hx hi ih
    have hp := pre_len hx
    simp only [impl_without.l0, pre_lt hx, pre_0, if_true, at_pre hx, pre_w hx hsl]
    refine Ev.bind (implHas_ev s _ hs) ?_
    by_cases h : hasI s (pre.length : Int) = true
    · refine Ev.pos h (Ev.of_eq (ih q (by simp; omega)) ?_)
      simp [restF, h]
    · refine Ev.neg h (Ev.pos (by omega) (Ev.of_eq (ih _ (by simp; omega)) ?_))
      simp [restF, h]
/-- What is left of a region. -/
def cutR (l : List Cell) (s : List Int) : List Cell × Int := if codeOf l s = 0 then (if s.length = l.length then ([], 5) else (normalL (restF s 0 l), 0)) else ([], codeOf l s)
theorem cutR_len (l : List Cell) (s : List Int) : (cutR l s).1.length ≤ l.length := by
  unfold cutR
  have := restF_len s l 0
  split
  · split
    · simp
    · simp only [normalL_len]; exact this
  · simp
theorem rest_empty {l : List Cell} {s : List Int} (h : codeOf l s = 0) : restF s 0 l = [] ↔ s.length = l.length := by
  obtain ⟨h1, h2, h3⟩ := codeOf_zero h
  obtain ⟨h4, h5⟩ := rising_len s 0 (l.length : Int) h2 h3 (by omega)
  rw [restF_nil]
  constructor
  · intro h6
    have := h5.2 fun i hi hi' => h6 i hi (by omega)
    omega
  · intro h6 j hj hj'
    exact h5.1 (by omega) j hj (by omega)
theorem specCut_ev (l : List Cell) (s : List Int) (hl : l.length ≤ 1048576) (hs : s.length ≤ 1048576) : Ev (fun k => spec_CutRegion.f k l s) (cutR l s) := by
  have hss : small s := by unfold small; omega
  unfold spec_CutRegion.f cutR
  refine Ev.bind (specCode_ev l s hl hss) ?_
  by_cases h : codeOf l s = 0
  · rw [if_pos h]
    refine Ev.pos h ?_
    by_cases he : s.length = l.length
    · rw [if_pos he]
      have e1 : ((s.length : Int) == (l.length : Int)) = true := by simp [he]
      simp only [e1]
      refine Ev.step (fun k => spec_CutRegion.j0.eq_2 _ _ _ _ _) (Ev.pos rfl (Ev.step (fun k => spec_CutRegion.j1.eq_2 _ _ _ _) (Ev.neg (by decide) (Ev.now _))))
    · rw [if_neg he]
      have e1 : ((s.length : Int) == (l.length : Int)) = false := by
        rw [beq_eq_false_iff_ne]; intro e; apply he; omega
      simp only [e1]
      have hn : restF s 0 l ≠ [] := fun e => he ((rest_empty h).1 e)
      have hr := restF_len s l 0
      refine Ev.step (fun k => spec_CutRegion.j0.eq_2 _ _ _ _ _) (Ev.neg (by simp) (Ev.step (fun k => spec_CutRegion.j1.eq_2 _ _ _ _) (Ev.pos h ?_)))
      exact Ev.bind (specRest_ev l s hl hss) (Ev.bind (specNormal_ev _ (by omega) (List.length_pos_iff.2 hn)) (Ev.now _))
  · rw [if_neg h]
    exact Ev.neg h (Ev.step (fun k => spec_CutRegion.j0.eq_2 _ _ _ _ _) (Ev.neg (by simp) (Ev.step (fun k => spec_CutRegion.j1.eq_2 _ _ _ _) (Ev.neg h (Ev.now _)))))
theorem implCut_ev (l : List Cell) (s : List Int) (hl : l.length ≤ 1048576) (hs : s.length ≤ 1048576) : Ev (fun k => impl_CutRegion.f k l s) (cutR l s) := by
  have hss : small s := by unfold small; omega
  unfold impl_CutRegion.f cutR
  refine Ev.bind (implCode_ev l s hl hss) ?_
  by_cases h : codeOf l s = 0
  · rw [if_pos h]
    refine Ev.pos h (Ev.bind (implWithout_ev l s hl hss) ?_)
    have hr := restF_len s l 0
    by_cases he : s.length = l.length
    · rw [if_pos he]
      have := (rest_empty h).2 he
      exact Ev.pos (by rw [this]; rfl) (Ev.now _)
    · rw [if_neg he]
      have hn : restF s 0 l ≠ [] := fun e => he ((rest_empty h).1 e)
      have hp := List.length_pos_iff.2 hn
      exact Ev.neg (by omega) (Ev.bind (implNormal_ev _ (by omega) hp) (Ev.now _))
  · rw [if_neg h]
    exact Ev.neg h (Ev.now _)
end Go.Proofs.Ytpjioedfiigefaa.L
