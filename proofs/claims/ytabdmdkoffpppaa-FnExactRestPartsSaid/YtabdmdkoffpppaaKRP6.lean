/- The row of FnExactRestParts, with what it needs: text 7 of 8. -/
import Derived.Test.YtabdmdkoffpppaaKRP5
set_option maxHeartbeats 8000000
set_option maxRecDepth 100000
section
namespace Go.Proofs.Ytabdmdkoffpppaa.L
open Go.RowKit Go.Proofs.YtabdmdkoffpppaaW.PrintWords Go.Proofs.YtabdmdkoffpppaaW.PrintLast Go.Proofs.YtabdmdkoffpppaaW.PrintMore Go.Proofs.Ytabdmdkoffpppaa.F
set_option linter.unusedVariables false
set_option linter.unusedSimpArgs false
theorem pa_l3 (l : List Cell) (hl : l.length ≤ 1048576) (hn : l.Nodup) (i : Int) (hi : 0 ≤ i) (xs : List Cell) (hx4 : xs.length ≤ 16) (hwx : ∀ d ∈ xs, wfC d = true) (o p q : List Int) (hf : Fine l o q) (hb : negs o + (p ++ q).length ≤ l.length) (at_ len_ n_ : Int) {r : List Int}
    (hc : Ev (fun k => impl_parts__impl_around.l2 k l (visit l i xs (o, q)).1 i (p ++ (visit l i xs (o, q)).2) (wrap64 (at_ + 1)) len_ n_) r) :
    Ev (fun k => impl_parts__impl_around.l3 k l o i (p ++ q) at_ len_ n_ xs (xs.length : Int) 0) r := by
  have hsm : small xs := by unfold small; omega
  refine loop_list xs (fun k j (s : List Int × List Int) => impl_parts__impl_around.l3 k l s.1 i (p ++ s.2) at_ len_ n_ xs (xs.length : Int) j) (fun _ _ _ => r) (fun pre s => s = visit l i pre (o, q)) ?_ ?_ (o, q) rfl
  · rintro s rfl
    simp only [impl_parts__impl_around.l3, len_lt, if_false]
    exact hc
  · rintro pre d suf s hx rfl ih
    obtain ⟨h1, h2, h3, _⟩ := visit_fine hi pre (s := (o, q)) hf
    simp only at h2 h3
    have hln := h1.len
    have hd : wfC d = true := hwx d (by rw [hx]; simp)
    simp only [impl_parts__impl_around.l3, pre_lt hx, pre_0, if_true, at_pre hx, pre_w hx hsm, look_eq l d hn hd, Option.bind_some]
    have hlt := idxC_lt l d
    have hq : (p ++ (visit l i pre (o, q)).2).length ≤ l.length := by
      rw [List.length_append] at hb ⊢
      omega
    by_cases hg : idxC l d ≥ 0
    · simp only [hg, if_true]
      refine Ev.pos (by omega) ?_
      by_cases hr : rd (visit l i pre (o, q)).1 (idxC l d) < 0
      · refine Ev.pos hr (Ev.pos (by omega) ?_)
        have e : visit1 l i (visit l i pre (o, q)) d = ((visit l i pre (o, q)).1.set (idxC l d).toNat i, (visit l i pre (o, q)).2 ++ [idxC l d]) := by
          unfold visit1; rw [if_pos ⟨hg, hr⟩]
        have h := ih ((visit l i pre (o, q)).1.set (idxC l d).toNat i, (visit l i pre (o, q)).2 ++ [idxC l d]) (by rw [visit_snoc, e])
        rw [List.append_assoc]
        exact h
      · refine Ev.neg hr (ih _ ?_)
        rw [visit_snoc]
        unfold visit1
        rw [if_neg fun h => hr h.2]
    · simp only [hg, if_false, Bool.false_eq_true]
      refine ih _ ?_
      rw [visit_snoc]
      unfold visit1
      rw [if_neg fun h => hg h.1]
theorem pa_l2 (l : List Cell) (hl : l.length ≤ 1048576) (hn : l.Nodup) (hw : l.all wfC = true) (i : Int) (hi : 0 ≤ i) (len_ n_ : Int) {r : List Int} : ∀ (n : Nat) (o p q : List Int), Fine l o q → negs o + (p ++ q).length ≤ l.length → negs o + q.length ≤ n →
    Ev (fun k => impl_parts__impl_around.l1 k l (bfs aroundC l i n o q) len_ (wrap64 (n_ + 1))) r → Ev (fun k => impl_parts__impl_around.l2 k l o i (p ++ q) (p.length : Int) len_ n_) r := by
  intro n
  induction n with
  | zero =>
    intro o p q hf hb hm hc
    obtain rfl : q = [] := List.length_eq_zero_iff.1 (by omega)
    refine Ev.succ ?_
    simp only [impl_parts__impl_around.l2, List.append_nil, len_lt, if_false]
    exact hc
  | succ n ih =>
    intro o p q hf hb hm hc
    refine Ev.succ ?_
    cases q with
    | nil =>
      simp only [impl_parts__impl_around.l2, List.append_nil, len_lt, if_false]
      exact hc
    | cons c q =>
      have hr := hf.rng c List.mem_cons_self
      have hlen : (p ++ c :: q).length = p.length + (q.length + 1) := by simp
      have e1 : rd (p ++ c :: q) (p.length : Int) = c := by unfold rd; exact getD_at p q c _
      simp only [impl_parts__impl_around.l2, e1]
      refine Ev.pos (by rw [hlen]; omega) (Ev.pos (by omega) (Ev.pos hr.1 (Ev.pos hr.2 ?_)))
      simp only [implAround_eq, Option.bind_some]
      have hf' : Fine l o q := ⟨hf.len, fun j hj => hf.rng j (List.mem_cons_of_mem _ hj)⟩
      have hwc : wfC (rd_T59 l c) = true := by
        refine List.all_eq_true.1 hw _ ?_
        unfold rd_T59
        rw [List.getD_eq_getElem?_getD, List.getElem?_eq_getElem (show c.toNat < l.length by omega)]
        exact List.getElem_mem _
      obtain ⟨h1, h2, h3, _⟩ := visit_fine hi (aroundC (rd_T59 l c)) (s := (o, q)) hf'
      have ea : p ++ c :: q = (p ++ [c]) ++ q := by simp
      have ew : wrap64 ((p.length : Int) + 1) = ((p ++ [c]).length : Int) := by
        rw [w64 (by omega) (by omega)]; simp
      rw [ea] at hb ⊢
      refine pa_l3 l hl hn i hi (aroundC (rd_T59 l c)) (aroundC_len _) (aroundC_wf hwc) o (p ++ [c]) q hf' hb _ _ _ ?_
      rw [ew]
      refine ih _ _ _ h1 ?_ ?_ hc
      · simp only [List.length_append, List.length_singleton] at hb ⊢
        simp only at h2 h3
        omega
      · simp only [List.length_cons] at hm
        simp only at h2
        omega
theorem pa_ev (l : List Cell) (hl : l.length ≤ 1048576) (hn : l.Nodup) (hw : l.all wfC = true) : Ev (fun k => impl_parts__impl_around.f k l) (partsR aroundC l) := by
  have hs : small l := by unfold small; omega
  unfold impl_parts__impl_around.f
  refine Ev.pos hw (Ev.pos (by omega) (Ev.pos (by omega) ?_))
  have hz := loop_list l (fun k i (s : List Int) => impl_parts__impl_around.l0 k l s l (l.length : Int) i) (fun _ _ _ => partsR aroundC l) (fun pre s => s = List.replicate pre.length (-1) ++ List.replicate (l.length - pre.length) 0) ?_ ?_ (List.replicate (l.length : Int).toNat 0) (by simp)
  · exact hz
  · rintro s rfl
    simp only [impl_parts__impl_around.l0, len_lt, if_false, Nat.sub_self, List.replicate_zero, List.append_nil]
    have := loop_list l (fun k i (s : List Int) => impl_parts__impl_around.l1 k l s (l.length : Int) i) (fun pre suf s => partsF aroundC l (pre.length : Int) suf s) (fun pre s => s.length = l.length ∧ ∀ j : Nat, j < pre.length → 0 ≤ rd s (j : Int)) ?_ ?_ (List.replicate l.length (-1)) ⟨by simp, fun j hj => by simp at hj⟩
    · exact this
    · rintro s _
      simp only [impl_parts__impl_around.l1, len_lt, if_false]
      exact Ev.now _
    · rintro pre c suf s hx ⟨h1, h2⟩ ih
      have hp := pre_len hx
      obtain ⟨h3, h4⟩ := step_next (nb := aroundC) (l := l) (o := s) (i := pre.length) h1 hp h2
      have hlt : ((pre.length : Int) < (s.length : Int)) = True := by rw [h1]; exact pre_lt hx
      simp only [impl_parts__impl_around.l1, pre_lt hx, pre_0, if_true, hlt, pre_w hx hs, Int.toNat_natCast]
      have hih := ih _ ⟨h3, by simpa using h4⟩
      unfold partsF
      rw [Int.toNat_natCast]
      have ee : ((pre ++ [c]).length : Int) = (pre.length : Int) + 1 := by simp
      rw [ee] at hih
      by_cases hg : rd s (pre.length : Int) ≥ 0
      · rw [if_pos hg] at hih ⊢
        exact Ev.pos hg hih
      · rw [if_neg hg] at hih ⊢
        refine Ev.neg hg ?_
        obtain ⟨h5, h6⟩ := step_fine h1 hp hg
        have e0 : ([(pre.length : Int)] : List Int) = [] ++ [(pre.length : Int)] := rfl
        have := pa_l2 l hl hn hw (pre.length : Int) (by omega) (l.length : Int) (pre.length : Int) (r := partsF aroundC l ((pre.length : Int) + 1) suf (bfs aroundC l (pre.length : Int) l.length (s.set pre.length (pre.length : Int)) [(pre.length : Int)])) l.length (s.set pre.length (pre.length : Int)) [] [(pre.length : Int)] h5 (by simpa using h6) (by simpa using h6) (by
          rw [pre_w hx hs]; exact hih)
        exact this
  · rintro pre c suf s hx rfl ih
    have hp := pre_len hx
    have hlt : ((pre.length : Int) < ((List.replicate pre.length (-1 : Int) ++ List.replicate (l.length - pre.length) 0).length : Int)) = True := by simp; omega
    simp only [impl_parts__impl_around.l0, pre_lt hx, pre_0, if_true, hlt, pre_w hx hs, Int.toNat_natCast]
    refine ih _ ?_
    have e : l.length - pre.length = (l.length - (pre.length + 1)) + 1 := by omega
    simp only [List.length_append, List.length_singleton]
    rw [e, List.replicate_succ, List.set_append_right _ _ (by simp)]
    simp [List.replicate_succ', List.append_assoc]
theorem ps_l3 (l : List Cell) (hl : l.length ≤ 1048576) (i : Int) (hi : 0 ≤ i) (xs : List Cell) (hx4 : xs.length = 4) (o q : List Int) (hf : Fine l o q) (hb : negs o + q.length ≤ l.length) {r : List Int}
    (hc : Ev (fun k => spec_l02Parts.l2 k l (visit l i xs (o, q)).1 i (visit l i xs (o, q)).2) r) :
    Ev (fun k => spec_l02Parts.l3 k l o i q xs 0) r := by
  have hsm : small xs := by unfold small; omega
  have hs : small l := by unfold small; omega
  refine loop_list xs (fun k j (s : List Int × List Int) => spec_l02Parts.l3 k l s.1 i s.2 xs j) (fun _ _ _ => r) (fun pre s => s = visit l i pre (o, q)) ?_ ?_ (o, q) rfl
  · rintro s rfl
    have e0 : ¬ ((xs.length : Int) < 4) := by omega
    simp only [spec_l02Parts.l3, e0, if_false]
    exact hc
  · rintro pre d suf s hx rfl ih
    obtain ⟨h1, h2, h3, _⟩ := visit_fine hi pre (s := (o, q)) hf
    simp only at h2 h3
    have hln := h1.len
    have hp4 : ((pre.length : Int) < 4) = True := by have := pre_len hx; simp; omega
    simp only [spec_l02Parts.l3, hp4, pre_lt hx, pre_0, if_true, at_pre hx, pre_w hx hsm]
    refine Ev.bind (specIndex_ev l d hs) ?_
    have hlt := idxC_lt l d
    have hq : (visit l i pre (o, q)).2.length ≤ l.length := by omega
    by_cases hg : idxC l d ≥ 0
    · refine Ev.pos hg (Ev.pos hg (Ev.pos (by omega) ?_))
      by_cases hr : rd (visit l i pre (o, q)).1 (idxC l d) < 0
      · refine Ev.pos hr (Ev.pos (by omega) ?_)
        have e : visit1 l i (visit l i pre (o, q)) d = ((visit l i pre (o, q)).1.set (idxC l d).toNat i, (visit l i pre (o, q)).2 ++ [idxC l d]) := by
          unfold visit1; rw [if_pos ⟨hg, hr⟩]
        exact ih ((visit l i pre (o, q)).1.set (idxC l d).toNat i, (visit l i pre (o, q)).2 ++ [idxC l d]) (by rw [visit_snoc, e])
      · refine Ev.neg hr (ih _ ?_)
        rw [visit_snoc]
        unfold visit1
        rw [if_neg fun h => hr h.2]
    · refine Ev.neg hg (ih _ ?_)
      rw [visit_snoc]
      unfold visit1
      rw [if_neg fun h => hg h.1]
theorem ps_l2 (l : List Cell) (hl : l.length ≤ 1048576) (i : Int) (hi : 0 ≤ i) {r : List Int} : ∀ (n : Nat) (o q : List Int), Fine l o q → negs o + q.length ≤ l.length → negs o + q.length ≤ n →
    Ev (fun k => spec_l02Parts.l1 k l (bfs aroundC l i n o q) (wrap64 (i + 1))) r → Ev (fun k => spec_l02Parts.l2 k l o i q) r := by
  intro n
  induction n with
  | zero =>
    intro o q hf hb hm hc
    obtain rfl : q = [] := List.length_eq_zero_iff.1 (by omega)
    refine Ev.succ ?_
    simp only [spec_l02Parts.l2]
    exact Ev.neg (by simp) hc
  | succ n ih =>
    intro o q hf hb hm hc
    refine Ev.succ ?_
    cases q with
    | nil =>
      simp only [spec_l02Parts.l2]
      exact Ev.neg (by simp) hc
    | cons c q =>
      have hr := hf.rng c List.mem_cons_self
      have e1 : rd (c :: q) 0 = c := rfl
      have hlen : (c :: q).length = q.length + 1 := rfl
      simp only [spec_l02Parts.l2, e1]
      refine Ev.pos (by omega) (Ev.pos (by omega) (Ev.pos hr.1 (Ev.pos hr.2 ?_)))
      simp only [specAround_eq, Option.bind_some]
      refine Ev.pos (by omega) ?_
      have hf' : Fine l o q := ⟨hf.len, fun j hj => hf.rng j (List.mem_cons_of_mem _ hj)⟩
      obtain ⟨h1, h2, h3, _⟩ := visit_fine hi (aroundC (rd_T59 l c)) (s := (o, q)) hf'
      simp only at h2 h3
      have ed : (c :: q).drop (1 : Int).toNat = q := rfl
      rw [ed]
      refine ps_l3 l hl i hi _ rfl o q hf' (by omega) ?_
      exact ih _ _ h1 (by omega) (by omega) hc
theorem ps_ev (l : List Cell) (hl : l.length ≤ 1048576) : Ev (fun k => spec_l02Parts.f k l) (partsR aroundC l) := by
  have hs : small l := by unfold small; omega
  unfold spec_l02Parts.f
  have hz := loop_list l (fun k i (s : List Int) => spec_l02Parts.l0 k l s i) (fun _ _ _ => partsR aroundC l) (fun pre s => s = List.replicate pre.length (-1)) ?_ ?_ [] rfl
  · exact hz
  · rintro s rfl
    simp only [spec_l02Parts.l0, len_lt, if_false]
    have := loop_list l (fun k i (s : List Int) => spec_l02Parts.l1 k l s i) (fun pre suf s => partsF aroundC l (pre.length : Int) suf s) (fun pre s => s.length = l.length ∧ ∀ j : Nat, j < pre.length → 0 ≤ rd s (j : Int)) ?_ ?_ (List.replicate l.length (-1)) ⟨by simp, fun j hj => by simp at hj⟩
    · exact this
    · rintro s _
      simp only [spec_l02Parts.l1, len_lt, if_false]
      exact Ev.now _
    · rintro pre c suf s hx ⟨h1, h2⟩ ih
      have hp := pre_len hx
      obtain ⟨h3, h4⟩ := step_next (nb := aroundC) (l := l) (o := s) (i := pre.length) h1 hp h2
      have hlt : ((pre.length : Int) < (s.length : Int)) = True := by rw [h1]; exact pre_lt hx
      simp only [spec_l02Parts.l1, pre_lt hx, pre_0, if_true, hlt, pre_w hx hs, Int.toNat_natCast]
      have hih := ih _ ⟨h3, by simpa using h4⟩
      unfold partsF
      rw [Int.toNat_natCast]
      have ee : ((pre ++ [c]).length : Int) = (pre.length : Int) + 1 := by simp
      rw [ee] at hih
      by_cases hg : rd s (pre.length : Int) ≥ 0
      · rw [if_pos hg] at hih ⊢
        exact Ev.pos hg hih
      · rw [if_neg hg] at hih ⊢
        refine Ev.neg hg ?_
        obtain ⟨h5, h6⟩ := step_fine h1 hp hg
        exact ps_l2 l hl (pre.length : Int) (by omega) l.length _ _ h5 (by simpa using h6) (by simpa using h6) (by rw [pre_w hx hs]; exact hih)
  · rintro pre c suf s hx rfl ih
    have hp := pre_len hx
    simp only [spec_l02Parts.l0, pre_lt hx, if_true, pre_w hx hs]
    exact Ev.pos (by rw [List.length_replicate]; omega) (ih _ (by simp [List.replicate_succ']))
def hasI (s : List Int) (i : Int) : Bool := decide (i ∈ s)
theorem specHas_ev (s : List Int) (i : Int) (hs : small s) : Ev (fun k => spec_l01Has.f k s i) (hasI s i) := by
  unfold spec_l01Has.f
  refine loop_list s (fun k j (_ : Unit) => spec_l01Has.l0 k s i j) (fun pre suf _ => hasI suf i) (fun _ _ => True) ?_ ?_ () trivial
  · intro _ _
    simp only [spec_l01Has.l0, len_lt, if_false]
    exact Ev.of_eq (Ev.now _) (by simp [hasI])
  · intro pre c suf _ hx _ ih
    simp only [spec_l01Has.l0, pre_lt hx, pre_0, if_true, at_preI hx, pre_w hx hs]
    by_cases hc : c = i
    · exact Ev.pos hc (Ev.of_eq (Ev.now _) (by simp [hasI, hc]))
    · refine Ev.neg hc (Ev.of_eq (ih () trivial) ?_)
      have : ¬ i = c := fun e => hc e.symm
      simp [hasI, this]
def idxI : List Int → Int → Int → Int
  | [], _, _ => -1
  | a :: r, c, i => if c = a then i else idxI r c (i + 1)
theorem idxI_mem : ∀ (s : List Int) (c i : Int), 0 ≤ i → (idxI s c i ≥ 0 ↔ c ∈ s)
  | [], c, i, _ => by simp [idxI]
  | a :: r, c, i, hi => by
    unfold idxI
    by_cases h : c = a
    · rw [if_pos h]; simp [h, hi]
    · rw [if_neg h, idxI_mem r c (i + 1) (by omega)]; simp [h]
theorem implHas_ev (s : List Int) (i : Int) (hs : small s) : Ev (fun k => slices_Contains_int64_int64.f k s i) (hasI s i) := by
  unfold slices_Contains_int64_int64.f slices_Index_int64_int64.f
  have := loop_list s (fun k j (_ : Unit) => slices_Index_int64_int64.l0 k s i (s.length : Int) j) (fun pre suf _ => idxI suf i (pre.length : Int)) (fun _ _ => True) ?_ ?_ () trivial
  · refine Ev.bind this (Ev.of_eq (Ev.now _) ?_)
    have h := idxI_mem s i 0 (Int.le_refl _)
    unfold hasI
    rw [Bool.eq_iff_iff, decide_eq_true_eq, decide_eq_true_eq]
    exact h
  · intro _ _
    simp only [slices_Index_int64_int64.l0, len_lt, if_false]
    exact Ev.of_eq (Ev.now _) (by simp [idxI])
  · intro pre c suf _ hx _ ih
    simp only [slices_Index_int64_int64.l0, pre_lt hx, pre_0, if_true, at_preI hx, pre_w hx hs, idxI]
    refine Ev.if_ (fun _ => Ev.now _) (fun _ => Ev.of_eq (ih () trivial) ?_)
    simp
def risesF (n : Int) : Option Int → List Int → Bool
  | _, [] => true
  | p, c :: r => decide (0 ≤ c ∧ c ≤ n - 1) && (match p with | none => true | some q => decide (q < c)) && risesF n (some c) r
theorem specRises_ev (l : List Int) (n : Int) (h0 : 0 ≤ n) (h1 : n ≤ 1048576) (hs : small l) : Ev (fun k => spec_l01Rises.f k l n) (risesF n none l) := by
  unfold spec_l01Rises.f
  have e0 : wrap64 (n - 1) = n - 1 := w64 (by omega) (by omega)
  refine loop_list l (fun k i (_ : Unit) => spec_l01Rises.l0 k l n i) (fun pre suf _ => risesF n pre.getLast? suf) (fun _ _ => True) ?_ ?_ () trivial
  · intro _ _
    simp only [spec_l01Rises.l0, len_lt, if_false]
    exact Ev.of_eq (Ev.now _) (by simp [risesF])
  · intro pre c suf _ hx _ ih
    simp only [spec_l01Rises.l0, pre_lt hx, pre_0, if_true, at_preI hx, in_eq, Option.bind_some, pre_w hx hs, e0]
    by_cases hc : 0 ≤ c ∧ c ≤ n - 1
    · simp only [hc, and_self, decide_true, if_true]
      rcases List.eq_nil_or_concat pre with rfl | ⟨L, b, rfl⟩
      · refine Ev.neg (by simp) (Ev.of_eq (ih () trivial) ?_)
        simp [risesF, hc]
      · rw [List.concat_eq_append] at hx ih ⊢
        have hx2 : l = L ++ b :: (c :: suf) := by rw [hx]; simp
        have e1 : wrap64 (((L ++ [b]).length : Int) - 1) = (L.length : Int) := by
          unfold small at hs
          rw [hx2] at hs
          simp only [List.length_append, List.length_cons, List.length_nil] at hs ⊢
          rw [w64 (by omega) (by omega)]; omega
        refine Ev.pos (by simp <;> omega) ?_
        simp only [e1, pre_0, if_true, pre_lt hx2, at_preI hx2]
        by_cases hl : b < c
        · refine Ev.neg (by omega) (Ev.of_eq (ih () trivial) ?_)
          simp [risesF, hc, hl]
        · refine Ev.pos (by omega) (Ev.of_eq (Ev.now _) ?_)
          simp [risesF, hc, hl]
    · simp only [hc, decide_false, Bool.false_eq_true, if_false]
      refine Ev.of_eq (Ev.now _) ?_
      simp [risesF, hc]
theorem implIncreasing_ev (l : List Int) (n : Int) (h0 : 0 ≤ n) (h1 : n ≤ 1048576) (hs : small l) : Ev (fun k => impl_isIncreasing.f k l n) (risesF n none l) := by
  unfold impl_isIncreasing.f
  have e0 : wrap64 (n - 1) = n - 1 := w64 (by omega) (by omega)
  refine loop_list l (fun k i (_ : Unit) => impl_isIncreasing.l0 k l n l (l.length : Int) i) (fun pre suf _ => risesF n pre.getLast? suf) (fun _ _ => True) ?_ ?_ () trivial
  · intro _ _
    simp only [impl_isIncreasing.l0, len_lt, if_false]
    exact Ev.of_eq (Ev.now _) (by simp [risesF])
  · intro pre c suf _ hx _ ih
    simp only [impl_isIncreasing.l0, pre_lt hx, pre_0, if_true, at_preI hx, within_eq, Option.bind_some, pre_w hx hs, e0]
    by_cases hc : 0 ≤ c ∧ c ≤ n - 1
    · simp only [hc, and_self, decide_true, if_true]
      rcases List.eq_nil_or_concat pre with rfl | ⟨L, b, rfl⟩
      · refine Ev.neg (by simp) (Ev.of_eq (ih () trivial) ?_)
        simp [risesF, hc]
      · rw [List.concat_eq_append] at hx ih ⊢
        have hx2 : l = L ++ b :: (c :: suf) := by rw [hx]; simp
        have e1 : wrap64 (((L ++ [b]).length : Int) - 1) = (L.length : Int) := by
          unfold small at hs
          rw [hx2] at hs
          simp only [List.length_append, List.length_cons, List.length_nil] at hs ⊢
          rw [w64 (by omega) (by omega)]; omega
        refine Ev.pos (by simp <;> omega) ?_
        simp only [e1, pre_0, if_true, pre_lt hx2, at_preI hx2]
        by_cases hl : b < c
        · refine Ev.neg (by omega) (Ev.of_eq (ih () trivial) ?_)
          simp [risesF, hc, hl]
        · refine Ev.pos (by omega) (Ev.of_eq (Ev.now _) ?_)
          simp [risesF, hc, hl]
    · simp only [hc, decide_false, Bool.false_eq_true, if_false]
      refine Ev.of_eq (Ev.now _) ?_
      simp [risesF, hc]
def codeOf (l : List Cell) (s : List Int) : Int := if regionB l = true then (if risesF (l.length : Int) none s = true then 0 else 2) else 1
theorem specCode_ev (l : List Cell) (s : List Int) (hl : l.length ≤ 1048576) (hs : small s) : Ev (fun k => spec_l10Code.f k l s) (codeOf l s) := by
  unfold spec_l10Code.f codeOf
  refine Ev.bind (specIsRegion_ev l (by unfold small; omega)) (Ev.if_ (fun _ => ?_) (fun _ => Ev.now _))
  exact Ev.bind (specRises_ev s _ (by omega) (by omega) hs) (Ev.if_ (fun _ => Ev.now _) (fun _ => Ev.now _))
theorem implCode_ev (l : List Cell) (s : List Int) (hl : l.length ≤ 1048576) (hs : small s) : Ev (fun k => impl_setCode.f k l s) (codeOf l s) := by
  unfold impl_setCode.f codeOf
  refine Ev.bind (implIsRegion_ev l (by unfold small; omega)) (Ev.if_ (fun _ => ?_) (fun _ => Ev.now _))
  exact Ev.bind (implIncreasing_ev s _ (by omega) (by omega) hs) (Ev.if_ (fun _ => Ev.now _) (fun _ => Ev.now _))
theorem risesF_spec (n : Int) : ∀ (s : List Int) (p : Option Int), risesF n p s = true → (∀ i ∈ s, 0 ≤ i ∧ i < n) ∧ (∀ q, p = some q → ∀ i ∈ s, q < i) ∧ s.Pairwise (· < ·)
  | [], _, _ => ⟨fun i h => by simp at h, fun _ _ i h => by simp at h, List.Pairwise.nil⟩
  | a :: r, p, h => by
    simp only [risesF, Bool.and_eq_true, decide_eq_true_eq] at h
    obtain ⟨h1, h2, h3⟩ := risesF_spec n r (some a) h.2
    have h4 := h2 a rfl
    refine ⟨fun i hi => ?_, fun q hq i hi => ?_, List.pairwise_cons.2 ⟨h4, h3⟩⟩
    · rcases List.mem_cons.1 hi with rfl | hi
      · omega
      · exact h1 i hi
    · subst hq
      have h5 : q < a := by simpa using h.1.2
      rcases List.mem_cons.1 hi with rfl | hi
      · exact h5
      · have := h4 i hi; omega
theorem codeOf_zero {l : List Cell} {s : List Int} (h : codeOf l s = 0) : regionB l = true ∧ (∀ i ∈ s, 0 ≤ i ∧ i < (l.length : Int)) ∧ s.Pairwise (· < ·) := by
  unfold codeOf at h
  by_cases hr : regionB l = true
  · rw [if_pos hr] at h
    by_cases hs : risesF (l.length : Int) none s = true
    · obtain ⟨h1, _, h3⟩ := risesF_spec _ s none hs
      exact ⟨hr, h1, h3⟩
    · rw [if_neg hs] at h; omega
  · rw [if_neg hr] at h; omega
def cellsAt (l : List Cell) (s : List Int) : List Cell := s.map fun i => rd_T59 l i
def setCells (l : List Cell) (s : List Int) : List Cell × Int := if codeOf l s = 0 then (cellsAt l s, 0) else ([], codeOf l s)
def restF (s : List Int) : Int → List Cell → List Cell
  | _, [] => []
  | i, c :: r => if hasI s i = true then restF s (i + 1) r else c :: restF s (i + 1) r
theorem restF_len (s : List Int) : ∀ (r : List Cell) (i : Int), (restF s i r).length ≤ r.length
  | [], _ => Nat.le_refl _
  | c :: r, i => by
    have := restF_len s r (i + 1)
    unfold restF
    split <;> simp only [List.length_cons] <;> omega
theorem specRest_ev (l : List Cell) (s : List Int) (hl : l.length ≤ 1048576) (hs : small s) : Ev (fun k => spec_l10Rest.f k l s) (restF s 0 l) := by
  have hsl : small l := by unfold small; omega
  unfold spec_l10Rest.f
  have := loop_list l (fun k i (q : List Cell) => spec_l10Rest.l0 k l s q i) (fun pre suf q => q ++ restF s (pre.length : Int) suf) (fun pre q => q.length ≤ pre.length) ?_ ?_ [] (Nat.le_refl _)
  · simpa using this
  · intro q _
    simp only [spec_l10Rest.l0, len_lt, if_false]
    exact Ev.of_eq (Ev.now _) (by simp [restF])
  · intro pre c suf q hx hi ih
    have hp := pre_len hx
    simp only [spec_l10Rest.l0, pre_lt hx, pre_0, if_true, at_pre hx, pre_w hx hsl]
    refine Ev.bind (specHas_ev s _ hs) ?_
    by_cases h : hasI s (pre.length : Int) = true
    · refine Ev.pos h (Ev.of_eq (ih q (by simp; omega)) ?_)
      simp [restF, h]
    · refine Ev.neg h (Ev.pos (by omega) (Ev.of_eq (ih _ (by simp; omega)) ?_))
      simp [restF, h]
theorem implWithout_ev (l : List Cell) (s : List Int) (hl : l.length ≤ 1048576) (hs : small s) : Ev (fun k => impl_without.f k l s) (restF s 0 l) := by
  have hsl : small l := by unfold small; omega
  unfold impl_without.f
  have := loop_list l (fun k i (q : List Cell) => impl_without.l0 k s q l (l.length : Int) i) (fun pre suf q => q ++ restF s (pre.length : Int) suf) (fun pre q => q.length ≤ pre.length) ?_ ?_ [] (Nat.le_refl _)
  · simpa using this
  · intro q _
    simp only [impl_without.l0, len_lt, if_false]
    exact Ev.of_eq (Ev.now _) (by simp [restF])
  · intro pre c suf q hx hi ih
    have hp := pre_len hx
    simp only [impl_without.l0, pre_lt hx, pre_0, if_true, at_pre hx, pre_w hx hsl]
    refine Ev.bind (implHas_ev s _ hs) ?_
    by_cases h : hasI s (pre.length : Int) = true
    · refine Ev.pos h (Ev.of_eq (ih q (by simp; omega)) ?_)
      simp [restF, h]
    · refine Ev.neg h (Ev.pos (by omega) (Ev.of_eq (ih _ (by simp; omega)) ?_))
      simp [restF, h]
def Rep (n : Nat) (o : List Int) : Prop := ∀ j : Nat, j < n → 0 ≤ rd o (j : Int) → ∃ i : Nat, rd o (j : Int) = (i : Int) ∧ i < n ∧ rd o (i : Int) = (i : Int)
theorem rep_step {nb : Cell → List Cell} {l : List Cell} {o : List Int} {i : Nat} (hl : o.length = l.length) (hi : i < l.length) (h : Rep l.length o) : Rep l.length (if rd o (i : Int) ≥ 0 then o else bfs nb l (i : Int) l.length (o.set i (i : Int)) [(i : Int)]) := by
  by_cases hg : rd o (i : Int) ≥ 0
  · rw [if_pos hg]; exact h
  · rw [if_neg hg]
    obtain ⟨h4, _⟩ := step_fine hl hi hg
    have st (j : Nat) := bfs_stable (nb := nb) (i := (i : Int)) (by omega) (j : Int) (by omega) l.length _ _ h4
    have e1 (j : Nat) : rd (o.set i (i : Int)) (j : Int) = if j = i then (i : Int) else rd o (j : Int) := by
      rw [rd_set _ _ _ _ (by omega), Int.toNat_natCast]
    have ei : rd (bfs nb l (i : Int) l.length (o.set i (i : Int)) [(i : Int)]) (i : Int) = (i : Int) := by
      have h5 : rd (o.set i (i : Int)) (i : Int) = (i : Int) := by rw [e1 i, if_pos rfl]
      rw [(st i).1 (by omega)]
      exact h5
    intro j hj hp
    by_cases hm : 0 ≤ rd (o.set i (i : Int)) (j : Int)
    · have e2 := (st j).1 hm
      rw [e1 j] at e2 hm
      by_cases hji : j = i
      · rw [if_pos hji] at e2
        exact ⟨i, e2, hi, ei⟩
      · rw [if_neg hji] at e2 hm
        obtain ⟨m, h6, h7, h8⟩ := h j hj hm
        refine ⟨m, e2.trans h6, h7, ?_⟩
        have e3 : rd (o.set i (i : Int)) (m : Int) = (m : Int) := by
          rw [e1 m]
          by_cases hmi : m = i
          · rw [if_pos hmi, hmi]
          · rw [if_neg hmi]; exact h8
        rw [(st m).1 (by omega)]
        exact e3
    · rcases (st j).2 with h6 | h6
      · omega
      · exact ⟨i, h6, hi, ei⟩
theorem partsF_rep {nb : Cell → List Cell} {l : List Cell} : ∀ (r pre : List Cell) (o : List Int), l = pre ++ r → o.length = l.length → (∀ j : Nat, j < pre.length → 0 ≤ rd o (j : Int)) → Rep l.length o → Rep l.length (partsF nb l (pre.length : Int) r o)
  | [], pre, o, h, hl, hd, hr => hr
  | c :: r, pre, o, h, hl, hd, hr => by
    have hp : pre.length < l.length := by rw [h]; simp
    obtain ⟨h1, h2⟩ := step_next (nb := nb) (l := l) (o := o) (i := pre.length) hl hp hd
    have := partsF_rep (nb := nb) r (pre ++ [c]) _ (by rw [h]; simp) h1 (by simpa using h2) (rep_step (nb := nb) hl hp hr)
    rw [List.length_append] at this
    exact this
theorem partsR_rep (nb : Cell → List Cell) (l : List Cell) (j : Nat) (hj : j < l.length) : ∃ i : Nat, rd (partsR nb l) (j : Int) = (i : Int) ∧ i < l.length ∧ rd (partsR nb l) (i : Int) = (i : Int) := by
  have h0 : Rep l.length (List.replicate l.length (-1 : Int)) := fun j hj hp => by rw [rd_rep hj] at hp; omega
  have h1 : Rep l.length (partsR nb l) := partsF_rep l [] _ rfl (by simp) (fun j hj => by simp at hj) h0
  refine h1 j hj ?_
  have h2 := partsR_pos nb l
  have hl := partsR_len nb l
  unfold rd
  rw [List.getD_eq_getElem?_getD, Int.toNat_natCast, List.getElem?_eq_getElem (by omega)]
  exact h2 _ (List.getElem_mem _)
theorem rd_getElem (o : List Int) (j : Nat) (hj : j < o.length) : rd o (j : Int) = o[j] := by
  unfold rd
  rw [List.getD_eq_getElem?_getD, Int.toNat_natCast, List.getElem?_eq_getElem hj]; rfl
def countsF (n : Nat) (P : List Int) : List Int := (List.range n).map fun (i : Nat) => ((P.count (i : Int) : Nat) : Int)
def sizesP (P : List Int) : List Int := (countsF P.length P).filter fun x => !(x == 0)
def selfS (P : List Int) (is : List Nat) : List Int := (is.filter fun (i : Nat) => rd P (i : Int) == (i : Int)).map fun (i : Nat) => ((P.count (i : Int) : Nat) : Int)
theorem sizes_self (nb : Cell → List Cell) (l : List Cell) : sizesP (partsR nb l) = selfS (partsR nb l) (List.range l.length) := by
  unfold sizesP countsF selfS
  rw [partsR_len, List.filter_map]
  congr 1
  refine List.filter_congr fun i hi => ?_
  have hi' : i < l.length := List.mem_range.1 hi
  show (!((((partsR nb l).count (i : Int) : Nat) : Int) == 0)) = _
  rw [Bool.eq_iff_iff]
  simp only [Bool.not_eq_true', beq_eq_false_iff_ne, ne_eq, beq_iff_eq]
  constructor
  · intro h
    have hpos : 0 < (partsR nb l).count (i : Int) := by omega
    obtain ⟨j, hj, e⟩ := List.getElem_of_mem (List.count_pos_iff.1 hpos)
    rw [partsR_len] at hj
    obtain ⟨m, h1, h2, h3⟩ := partsR_rep nb l j hj
    rw [rd_getElem _ j (by rw [partsR_len]; exact hj), e] at h1
    have : m = i := by omega
    rw [this] at h3
    exact h3
  · intro h
    rw [rd_getElem _ i (by rw [partsR_len]; exact hi')] at h
    have : (i : Int) ∈ partsR nb l := by
      have := List.getElem_mem (l := partsR nb l) (n := i) (by rw [partsR_len]; exact hi')
      rwa [h] at this
    have := List.count_pos_iff.2 this
    omega
theorem specSizes_l (P : List Int) (hP : P.length ≤ 1048576) (i : Int) (acc : List Int) (hacc : acc.length ≤ 1048576) {r : List Int} (hc : Ev (fun k => spec_l10Parts.l0 k P (acc ++ [((P.count i : Nat) : Int)]) (wrap64 (i + 1))) r) :
    Ev (fun k => spec_l10Parts.l1 k P acc i 0 0) r := by
  have hs : small P := by unfold small; omega
  refine loop_list P (fun k j (s : Int) => spec_l10Parts.l1 k P acc i s j) (fun _ _ _ => r) (fun pre s => s = ((pre.count i : Nat) : Int)) ?_ ?_ 0 (by simp)
  · rintro s rfl
    simp only [spec_l10Parts.l1, len_lt, if_false]
    exact Ev.pos (by omega) hc
  · rintro pre c suf s hx rfl ih
    have hp := pre_len hx
    have hle : pre.count i ≤ pre.length := List.count_le_length
    simp only [spec_l10Parts.l1, pre_lt hx, pre_0, if_true, at_preI hx, pre_w hx hs]
    by_cases e : c = i
    · refine Ev.pos e (ih _ ?_)
      rw [w64 (by omega) (by omega), List.count_append, e]
      simp
    · refine Ev.neg e (ih _ ?_)
      rw [List.count_append, List.count_singleton, if_neg (by simpa using e)]; simp
theorem specSizes_ev (P : List Int) (hP : P.length ≤ 1048576) : Ev (fun k => spec_l10Parts.l0 k P [] 0) (selfS P (List.range P.length)) := by
  have key : ∀ (q i : Nat) (acc : List Int), i + q = P.length → acc.length ≤ i → Ev (fun k => spec_l10Parts.l0 k P acc (i : Int)) (acc ++ selfS P (List.range' i q)) := by
    intro q
    induction q with
    | zero =>
      intro i acc hi ha
      refine Ev.succ ?_
      simp only [spec_l10Parts.l0]
      exact Ev.neg (by omega) (Ev.of_eq (Ev.now _) (by simp [selfS]))
    | succ q ih =>
      intro i acc hi ha
      refine Ev.succ ?_
      simp only [spec_l10Parts.l0]
      have ew : wrap64 ((i : Int) + 1) = ((i + 1 : Nat) : Int) := by rw [w64 (by omega) (by omega)]; omega
      refine Ev.pos (by omega) (Ev.pos (by omega) ?_)
      by_cases e : rd P (i : Int) = (i : Int)
      · refine Ev.pos e (specSizes_l P hP (i : Int) acc (by omega) ?_)
        rw [ew]
        refine Ev.of_eq (ih (i + 1) _ (by omega) (by simp; omega)) ?_
        simp [selfS, List.range'_succ, e]
      · refine Ev.neg e ?_
        rw [ew]
        refine Ev.of_eq (ih (i + 1) acc (by omega) (by omega)) ?_
        simp [selfS, List.range'_succ, e]
  have := key P.length 0 [] (by omega) (by simp)
  rw [← List.range_eq_range'] at this
  simpa using this
theorem countsF_rd (n : Nat) (P : List Int) (j : Nat) (hj : j < n) : rd (countsF n P) (j : Int) = ((P.count (j : Int) : Nat) : Int) := by
  rw [rd_getElem _ j (by simpa [countsF] using hj)]
  simp [countsF]
theorem countsF_snoc (n : Nat) (P : List Int) (j : Nat) (hj : j < n) : (countsF n P).set j (((P.count (j : Int) : Nat) : Int) + 1) = countsF n (P ++ [(j : Int)]) := by
  apply List.ext_getElem
  · simp [countsF]
  · intro t h1 h2
    simp only [countsF, List.length_set, List.length_map, List.length_range] at h1
    rw [List.getElem_set]
    simp only [countsF, List.getElem_map, List.getElem_range, List.count_append, List.count_singleton]
    by_cases e : j = t
    · subst e; simp
    · have : ¬ (j : Int) = (t : Int) := by omega
      simp [e, this]
theorem implSizes_ev (n : Nat) (hn : n ≤ 1048576) (P : List Int) (hl : P.length = n) (hP : ∀ x ∈ P, 0 ≤ x ∧ x < (n : Int)) : Ev (fun k => impl_RestParts.l0 k (List.replicate n 0) P (P.length : Int) 0) (sizesP P, 0) := by
  have hs : small P := by unfold small; omega
  have h0 : List.replicate n (0 : Int) = countsF n [] := by
    apply List.ext_getElem
    · simp [countsF]
    · intro t h1 h2
      simp [countsF]
  rw [h0]
  refine loop_list P (fun k j (s : List Int) => impl_RestParts.l0 k s P (P.length : Int) j) (fun _ _ _ => (sizesP P, 0)) (fun pre s => s = countsF n pre) ?_ ?_ (countsF n []) rfl
  · rintro s rfl
    have hcl : (countsF n P).length = n := by simp [countsF]
    simp only [impl_RestParts.l0, len_lt, if_false]
    unfold slices_DeleteFunc_int64_int64__impl_RestParts_1.f
    rw [if_pos (by omega)]
    refine Ev.of_eq (Ev.now _) ?_
    unfold sizesP
    rw [hl]
  · rintro pre c suf s hx rfl ih
    have hp := pre_len hx
    have hc : c ∈ P := by rw [hx]; simp
    obtain ⟨m, rfl⟩ : ∃ m : Nat, c = (m : Int) := ⟨c.toNat, by have := hP c hc; omega⟩
    have hm := (hP _ hc).2
    have hcl : (countsF n pre).length = n := by simp [countsF]
    have hle : pre.count (m : Int) ≤ pre.length := List.count_le_length
    simp only [impl_RestParts.l0, pre_lt hx, pre_0, if_true, at_preI hx, pre_w hx hs]
    refine Ev.pos (by omega) (Ev.pos (by omega) (ih _ ?_))
    rw [Int.toNat_natCast, countsF_rd n pre m (by omega), w64 (by omega) (by omega)]
    exact countsF_snoc n pre m (by omega)
def restP (l : List Cell) (s : List Int) : List Int × Int := if codeOf l s = 0 then (sizesP (partsR aroundC (restF s 0 l)), 0) else ([], codeOf l s)
theorem sizesP_len (P : List Int) : (sizesP P).length ≤ P.length := by
  unfold sizesP
  refine Nat.le_trans (List.length_filter_le _ _) ?_
  simp [countsF]
theorem restP_len (l : List Cell) (s : List Int) : (restP l s).1.length ≤ l.length := by
  unfold restP
  split
  · have h1 := sizesP_len (partsR aroundC (restF s 0 l))
    rw [partsR_len] at h1
    have h2 := restF_len s l 0
    show (sizesP _).length ≤ _
    omega
  · simp
theorem specRestP_ev (l : List Cell) (s : List Int) (hl : l.length ≤ 1048576) (hs : s.length ≤ 1048576) : Ev (fun k => spec_RestParts.f k l s) (restP l s) := by
  unfold spec_RestParts.f restP
  have hr := restF_len s l 0
  refine Ev.bind (specCode_ev l s hl (by unfold small; omega)) (Ev.if_ (fun h => ?_) (fun _ => Ev.now _))
  refine Ev.bind (specRest_ev l s hl (by unfold small; omega)) (Ev.bind ?_ (Ev.now _))
  unfold spec_l10Parts.f
  refine Ev.bind (ps_ev _ (by omega)) ?_
  have h1 := specSizes_ev (partsR aroundC (restF s 0 l)) (by rw [partsR_len]; omega)
  rw [partsR_len, ← sizes_self] at h1
  exact h1
theorem restF_sub (s : List Int) : ∀ (r : List Cell) (i : Int), (restF s i r).Sublist r
  | [], i => List.Sublist.refl _
  | c :: r, i => by
    unfold restF
    split
    · exact (restF_sub s r (i + 1)).cons c
    · exact (restF_sub s r (i + 1)).cons_cons c
theorem implRestP_ev (l : List Cell) (s : List Int) (hl : l.length ≤ 1048576) (hs : s.length ≤ 1048576) : Ev (fun k => impl_RestParts.f k l s) (restP l s) := by
  unfold impl_RestParts.f restP
  have hr := restF_len s l 0
  refine Ev.bind (implCode_ev l s hl (by unfold small; omega)) (Ev.if_ (fun h => ?_) (fun _ => Ev.now _))
  obtain ⟨h1, _⟩ := codeOf_zero h
  have hsh : shapeB l = true := by unfold regionB at h1; simp only [Bool.and_eq_true] at h1; exact h1.1
  obtain ⟨g1, g2, g3, g4⟩ := shapeB_iff.1 hsh
  have hsub := restF_sub s l 0
  have hnd : l.Nodup := g2.imp fun {a b} hab e => by
    subst e
    unfold ltC at hab
    omega
  refine Ev.bind (implWithout_ev l s hl (by unfold small; omega)) (Ev.pos (by omega) (Ev.pos (by omega) (Ev.bind (pa_ev _ (by omega) (hnd.sublist hsub) (List.all_eq_true.2 fun c hc => wfC_ok (g1 c (hsub.mem hc)))) ?_)))
  have hP : ∀ x ∈ partsR aroundC (restF s 0 l), 0 ≤ x ∧ x < ((restF s 0 l).length : Int) := fun x hx => by
    obtain ⟨j, hj, e⟩ := List.getElem_of_mem hx
    have hj' : j < (restF s 0 l).length := by rwa [partsR_len] at hj
    obtain ⟨m, h5, h6, _⟩ := partsR_rep aroundC (restF s 0 l) j hj'
    rw [rd_getElem _ j hj, e] at h5
    omega
  have h5 := implSizes_ev (restF s 0 l).length (by omega) (partsR aroundC (restF s 0 l)) (partsR_len _ _) hP
  rw [Int.toNat_natCast]
  exact h5
def markedI (n : Int) (m : Nat) : List Int := (List.range m).map fun (i : Nat) => n + (i : Int)
theorem markedI_len (n : Int) (m : Nat) : (markedI n m).length = m := by simp [markedI]
theorem markedI_get (n : Int) (m i : Nat) (h : i < m) : (markedI n m)[i]? = some (n + (i : Int)) := by
  simp [markedI, h]
theorem markInt64S_ev (a : List Int) (n : Int) (h0 : 0 ≤ n) (h1 : n ≤ 4611686018427387904) (ha : fits a) : Ev (fun k => laws_markInt64S.f k a n) (n + (a.length : Int), markedI n a.length) := by
  unfold laws_markInt64S.f
  have hs := ha.small
  unfold fits at ha
  have := loop_list a (fun k i (s : List Int × Int) => laws_markInt64S.l0 k s.1 s.2 i) (fun pre _ s => (n + (a.length : Int), s.1.take pre.length ++ (markedI n a.length).drop pre.length))
    (fun pre s => s.1.length = a.length ∧ s.2 = n + (pre.length : Int)) ?_ ?_ (a, n) ⟨rfl, by simp⟩
  · simpa using this
  · rintro ⟨l, m⟩ ⟨hl, hm⟩
    simp only at hl hm
    simp only [laws_markInt64S.l0, hl, len_lt, if_false]
    refine Ev.of_eq (Ev.now _) ?_
    rw [List.take_of_length_le (by omega), List.drop_of_length_le (by rw [markedI_len]; exact Nat.le_refl _), List.append_nil, hm]
  · rintro pre c suf ⟨l, m⟩ hx ⟨hl, hm⟩ ih
    have hp := pre_len hx
    simp only at hl hm
    subst hm
    have hlt : ((pre.length : Int) < (l.length : Int)) = True := by rw [hl]; exact pre_lt hx
    have e1 : wrap64 (n + (pre.length : Int) + 1) = n + ((pre.length : Int) + 1) := by rw [w64 (by omega) (by omega)]; omega
    simp only [laws_markInt64S.l0, hlt, pre_0, if_true, Int.toNat_natCast, e1, pre_w hx hs]
    refine Ev.of_eq (ih (l.set pre.length (n + (pre.length : Int)), n + ((pre.length : Int) + 1)) ⟨by simpa using hl, by simp⟩) ?_
    refine Prod.ext rfl ?_
    simp only [List.length_append, List.length_singleton]
    rw [List.take_add_one, List.getElem?_set_self (by omega), List.take_set_of_le (Nat.le_refl _), List.drop_eq_getElem_cons (i := pre.length) (by rw [markedI_len]; omega)]
    have := markedI_get n a.length pre.length hp
    rw [List.getElem?_eq_getElem (by rw [markedI_len]; omega)] at this
    simp [Option.some.inj this]
theorem heldInt64S_ev (m : Nat) (hm : m ≤ 1048576) : Ev (fun k => laws_heldInt64S.f k (markedI 1 m) 1) (1 + (m : Int)) := by
  unfold laws_heldInt64S.f
  have hs : small (markedI 1 m) := by unfold small; rw [markedI_len]; omega
  refine loop_list (markedI 1 m) (fun k i (s : Int) => laws_heldInt64S.l0 k (markedI 1 m) s i) (fun _ _ _ => 1 + (m : Int)) (fun pre s => s = 1 + (pre.length : Int)) ?_ ?_ 1 (by simp)
  · rintro s rfl
    simp only [laws_heldInt64S.l0, len_lt, if_false]
    rw [markedI_len]
    exact Ev.now _
  · rintro pre c suf s hx rfl ih
    have hp := pre_len hx
    rw [markedI_len] at hp
    have hc := pre_get hx
    rw [markedI_get 1 m _ hp] at hc
    have hc := Option.some.inj hc
    have e1 : wrap64 (1 + (pre.length : Int) + 1) = 1 + ((pre.length : Int) + 1) := by rw [w64 (by omega) (by omega)]; omega
    simp only [laws_heldInt64S.l0, pre_lt hx, pre_0, if_true, at_preI hx, ← hc, e1, pre_w hx hs]
    exact ih _ (by simp)
end Go.Proofs.Ytabdmdkoffpppaa.L
end
section
namespace Go.Proofs.Ytabdmdkoffpppaa.Pure
open Go.RowKit Go.Proofs.YtabdmdkoffpppaaW.PrintWords Go.Proofs.Ytabdmdkoffpppaa.F Go.Proofs.Ytabdmdkoffpppaa.L
set_option linter.unusedVariables false
theorem FnExactRestParts (l : List LCell) (s : List Int) {V : LCell → Prop} {V' : Int → Prop} (hv : l.length ≤ 9223372036854775807 ∧ ∀ a ∈ l, V a) (hv' : s.length ≤ 9223372036854775807 ∧ ∀ a ∈ s, V' a) : ∃ k, laws_FnExactRestParts.f k l s = some true := by
  refine Ev.rounds ?_
  unfold laws_FnExactRestParts.f
  by_cases hg : (s.length : Int) > 1048576
  · exact Ev.pos hg (Ev.now _)
  refine Ev.neg hg ?_
  rw [szCellS_eq l 1048576 (by decide) (by decide) hv.1]
  simp only [Option.bind_some]
  by_cases h : (1048576 : Int) - (l.length : Int) < 0
  · rw [if_pos h]; exact Ev.pos (by decide) (Ev.now _)
  · rw [if_neg h]
    refine Ev.neg h ?_
    have la : l.length ≤ 1048576 := by omega
    have lm : (l.map cellOf).length ≤ 1048576 := by simpa using la
    have hs : small (l.map cellOf) := by unfold small; omega
    have hf : fits (l.map cellOf) := lm
    have sa : s.length ≤ 1048576 := by omega
    have ss : small s := by unfold small; omega
    have sf : fits s := sa
    have hb := restP_len (l.map cellOf) s
    have hbs : small (restP (l.map cellOf) s).1 := by unfold small; omega
    have hbf : fits (restP (l.map cellOf) s).1 := by unfold fits; omega
    refine Ev.bind (toCellS_ev l la) (Ev.bind (toInt64S_ev s sa) (Ev.bind (specRestP_ev _ _ lm sa) (Ev.bind (toCellS_ev l la) (Ev.bind (toInt64S_ev s sa) (Ev.bind (implRestP_ev _ _ lm sa) (Ev.bind (eqInt64S_ev _ hbs) (Ev.pos rfl ?_)))))))
    refine Ev.step (fun k => laws_FnExactRestParts.j0.eq_2 _ _ _ _ _ _ _ _ _ _) (Ev.neg (by simp) ?_)
    refine Ev.bind (toCellS_ev l la) (Ev.bind (eqCellS_ev _ hs) (Ev.pos rfl (Ev.bind (toInt64S_ev s sa) (Ev.bind (eqInt64S_ev _ ss) (Ev.pos rfl ?_)))))
    refine Ev.bind (markCellS_ev _ hf) (Ev.bind (markInt64S_ev _ _ (by simp only; omega) (by simp only; omega) sf) (Ev.neg (by simp only; omega) (Ev.bind (eqInt64S_ev _ hbs) (Ev.pos rfl ?_))))
    refine Ev.step (fun k => laws_FnExactRestParts.j1.eq_2 _ _ _ _ _ _ _) (Ev.neg (by simp) ?_)
    refine Ev.bind (markInt64S_ev _ 1 (by decide) (by decide) hbf) (Ev.bind (heldInt64S_ev _ (by omega)) (Ev.neg (by omega) (Ev.pos rfl ?_)))
    refine Ev.bind (toCellS_ev l la) (Ev.bind (toInt64S_ev s sa) (Ev.bind (implRestP_ev _ _ lm sa) (Ev.bind (eqInt64S_ev _ hbs) (Ev.pos rfl ?_))))
    refine Ev.step (fun k => laws_FnExactRestParts.j2.eq_2 _ _ _ _) (Ev.neg (by simp) ?_)
    exact Ev.bind (heldInt64S_ev _ (by omega)) (Ev.neg (by omega) (Ev.pos rfl (Ev.now _)))
end Go.Proofs.Ytabdmdkoffpppaa.Pure
end
