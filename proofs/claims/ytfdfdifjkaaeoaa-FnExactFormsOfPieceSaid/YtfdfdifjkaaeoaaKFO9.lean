/- The row of FnExactFormsOfPiece, with what it needs: text 10 of 11. -/
import Derived.Test.YtfdfdifjkaaeoaaKFO8
set_option maxHeartbeats 8000000
set_option maxRecDepth 100000
section
namespace Go.Proofs.Ytfdfdifjkaaeoaa.L
open Go.RowKit Go.Proofs.YtfdfdifjkaaeoaaW.PrintWords Go.Proofs.YtfdfdifjkaaeoaaW.PrintLast Go.Proofs.YtfdfdifjkaaeoaaW.PrintMore Go.Proofs.Ytfdfdifjkaaeoaa.F
set_option linter.unusedVariables false
set_option linter.unusedSimpArgs false
theorem specInsert_ev (l : List Cell) (c : Cell) (hl : l.length ≤ 1048576) : Ev (fun k => spec_l02Insert.f k l c.f0 c.f1) (insC c l) := by
  have hs : small l := by unfold small; omega
  unfold spec_l02Insert.f
  have := loop_list l (fun k i (s : List Cell × Bool) => spec_l02Insert.l0 k l s.1 s.2 i c.f0 c.f1) (fun pre suf s => if s.2 = true then s.1 ++ suf else s.1 ++ insC c suf) (fun pre s => s.1.length ≤ pre.length + 1 ∧ (s.2 = false → s.1.length = pre.length)) ?_ ?_ ([], false) ⟨by simp, fun _ => rfl⟩
  · simpa using this
  · rintro ⟨s, b⟩ ⟨h1, h2⟩
    simp only at h1 h2
    simp only [spec_l02Insert.l0, len_lt, if_false]
    cases b
    · refine Ev.neg (by simp) (Ev.pos (by omega) (Ev.of_eq (Ev.now _) ?_))
      simp [insC]
    · refine Ev.pos rfl (Ev.of_eq (Ev.now _) ?_)
      simp
  · rintro pre d suf ⟨s, b⟩ hx ⟨h1, h2⟩ ih
    have hp := pre_len hx
    simp only at h1 h2
    simp only [spec_l02Insert.l0, pre_lt hx, pre_0, if_true, at_pre hx, pre_w hx hs]
    cases b
    · refine Ev.neg (by simp) ?_
      simp only [l02Less_eq, Option.bind_some]
      have h2' := h2 rfl
      by_cases hd : ltC c d
      · have hd' : c.f1 < d.f1 ∨ c.f1 = d.f1 ∧ c.f0 < d.f0 := hd
        refine Ev.pos (by simpa using hd') (Ev.pos (by omega) ?_)
        refine Ev.pos (by simp; omega) (Ev.of_eq (ih ((s ++ [(⟨c.f0, c.f1⟩ : Cell)]) ++ [(⟨d.f0, d.f1⟩ : Cell)], true) ⟨by simp; omega, fun h => by cases h⟩) ?_)
        simp [insC, hd]
      · have hd' : ¬ (c.f1 < d.f1 ∨ c.f1 = d.f1 ∧ c.f0 < d.f0) := hd
        refine Ev.neg (by simpa using hd') (Ev.pos (by omega) (Ev.of_eq (ih (s ++ [(⟨d.f0, d.f1⟩ : Cell)], false) ⟨by simp; omega, fun _ => by simp; omega⟩) ?_))
        simp [insC, hd]
    · refine Ev.pos rfl (Ev.pos (by omega) (Ev.of_eq (ih (s ++ [(⟨d.f0, d.f1⟩ : Cell)], true) ⟨by simp; omega, fun h => by cases h⟩) ?_))
      simp
def insAll : List Cell → List Cell → List Cell
  | acc, [] => acc
  | acc, c :: r => insAll (insC c acc) r
theorem insAll_spec : ∀ (l acc : List Cell), (acc.Pairwise fun a b => ¬ ltC b a) → (insAll acc l).Perm (acc ++ l) ∧ (insAll acc l).Pairwise fun a b => ¬ ltC b a
  | [], acc, h => ⟨by simp [insAll], h⟩
  | c :: r, acc, h => by
    obtain ⟨h1, h2⟩ := insAll_spec r (insC c acc) (insC_sorted c acc h)
    refine ⟨h1.trans ?_, h2⟩
    refine ((insC_perm c acc).append_right r).trans ?_
    exact List.perm_middle.symm
theorem specSortI_ev (l : List Cell) (hl : l.length ≤ 1048576) : Ev (fun k => spec_l02Sort.f k l) (insAll [] l) := by
  have hs : small l := by unfold small; omega
  unfold spec_l02Sort.f
  refine loop_list l (fun k i (s : List Cell) => spec_l02Sort.l0 k l s i) (fun pre suf s => insAll s suf) (fun pre s => s.length = pre.length) ?_ ?_ [] rfl
  · intro s _
    simp only [spec_l02Sort.l0, len_lt, if_false]
    exact Ev.now _
  · intro pre c suf s hx hi ih
    have hp := pre_len hx
    simp only [spec_l02Sort.l0, pre_lt hx, pre_0, if_true, at_pre hx, pre_w hx hs]
    refine Ev.bind (specInsert_ev s c (by omega)) (ih _ ?_)
    rw [(insC_perm c s).length_eq]
    simp [hi]
theorem insAll_eq (l : List Cell) : insAll [] l = sortC l := by
  obtain ⟨h1, h2⟩ := insAll_spec l [] List.Pairwise.nil
  exact (sortC_eq (by simpa using h1) h2).symm
theorem specSort_ev (l : List Cell) (hl : l.length ≤ 1048576) : Ev (fun k => spec_l02Sort.f k l) (sortC l) := by
  rw [← insAll_eq]
  exact specSortI_ev l hl
theorem formC_len (l : List Cell) (t : Int) : (formC l t).length = l.length := by unfold formC; rw [normalL_len, sortC_len]; simp
theorem implForm8_ev (l : List Cell) (t : Int) (ht : 0 ≤ t) (hl : l.length ≤ 1048576) (h0 : 0 < l.length) : Ev (fun k => impl_form.f k l t) (formC l t) := by
  have hs : small l := by unfold small; omega
  unfold impl_form.f formC
  refine Ev.pos (by omega) (Ev.pos (by omega) ?_)
  have := loop_list l (fun k i (s : List Cell) => impl_form.l0 k t s l (l.length : Int) i) (fun pre suf s => normalL (sortC (s ++ suf.map (turnD t)))) (fun pre s => s.length = pre.length) ?_ ?_ [] rfl
  · simpa using this
  · intro s hi
    have hi' : s.length = l.length := hi
    simp only [impl_form.l0, len_lt, if_false, implSorted_eq s (by omega) (by omega), Option.bind_some]
    exact Ev.bind (implNormal_ev _ (by rw [sortC_len]; omega) (by rw [sortC_len]; omega)) (Ev.of_eq (Ev.now _) (by simp))
  · intro pre c suf s hx hi ih
    have hp := pre_len hx
    simp only [impl_form.l0, pre_lt hx, pre_0, if_true, at_pre hx, pre_w hx hs]
    refine Ev.bind (implTurn_ev c t ht) (Ev.pos (by omega) (Ev.of_eq (ih (s ++ [turnD t c]) (by simp [hi])) (by simp)))
theorem specForm8_ev (l : List Cell) (t : Int) (ht : 0 ≤ t) (hl : l.length ≤ 1048576) (h0 : 0 < l.length) : Ev (fun k => spec_l03Form.f k l t) (formC l t) := by
  have hs : small l := by unfold small; omega
  unfold spec_l03Form.f formC
  have := loop_list l (fun k i (s : List Cell) => spec_l03Form.l0 k l t s i) (fun pre suf s => normalL (sortC (s ++ suf.map (turnD t)))) (fun pre s => s.length = pre.length) ?_ ?_ [] rfl
  · simpa using this
  · intro s hi
    have hi' : s.length = l.length := hi
    simp only [spec_l03Form.l0, len_lt, if_false]
    exact Ev.bind (specSort_ev s (by omega)) (Ev.bind (specNormal_ev _ (by rw [sortC_len]; omega) (by rw [sortC_len]; omega)) (Ev.of_eq (Ev.now _) (by simp)))
  · intro pre c suf s hx hi ih
    have hp := pre_len hx
    simp only [spec_l03Form.l0, pre_lt hx, pre_0, if_true, at_pre hx, pre_w hx hs]
    refine Ev.bind (specTurn_ev c t ht) (Ev.pos (by omega) (Ev.of_eq (ih (s ++ [turnD t c]) (by simp [hi])) (by simp)))
def formsC (l : List Cell) : Nat → Int → List (List Cell)
  | 0, _ => []
  | n + 1, t => formC l t :: formsC l n (t + 1)
theorem formsC_len (l : List Cell) : ∀ (n : Nat) (t : Int), (formsC l n t).length = n
  | 0, _ => rfl
  | n + 1, t => by unfold formsC; rw [List.length_cons, formsC_len l n]
theorem formsC_mem (l : List Cell) : ∀ (n : Nat) (t : Int), ∀ x ∈ formsC l n t, x.length = l.length
  | 0, _, x, h => by simp [formsC] at h
  | n + 1, t, x, h => by
    unfold formsC at h
    rcases List.mem_cons.1 h with rfl | h
    · exact formC_len l t
    · exact formsC_mem l n _ x h
theorem implForms8_l (l : List Cell) (m : Int) (hm : m ≤ 8) (hl : l.length ≤ 1048576) (h0 : 0 < l.length) : ∀ (n : Nat) (t : Int) (acc : List (List Cell)), 0 ≤ t → t + (n : Int) = m → acc.length + n ≤ 8 → Ev (fun k => impl_forms.l0 k l acc m t) (acc ++ formsC l n t)
  | 0, t, acc, h1, h2, h3 => by
    refine Ev.succ ?_
    simp only [impl_forms.l0]
    exact Ev.neg (by omega) (Ev.of_eq (Ev.now _) (by simp [formsC]))
  | n + 1, t, acc, h1, h2, h3 => by
    refine Ev.succ ?_
    simp only [impl_forms.l0]
    have ew : wrap64 (t + 1) = t + 1 := w64 (by omega) (by omega)
    refine Ev.pos (by omega) (Ev.bind (implForm8_ev l t h1 hl h0) (Ev.pos (by omega) ?_))
    simp only [ew]
    refine Ev.of_eq (implForms8_l l m hm hl h0 n (t + 1) (acc ++ [formC l t]) (by omega) (by omega) (by simp; omega)) ?_
    simp [formsC]
def addsC : List (List Cell) → List (List Cell) → List (List Cell)
  | acc, [] => acc
  | acc, x :: r => addsC (addL acc x) r
theorem addsC_mem {y : List Cell} : ∀ (r acc : List (List Cell)), y ∈ addsC acc r ↔ y ∈ acc ∨ y ∈ r
  | [], acc => by simp [addsC]
  | x :: r, acc => by
    rw [addsC, addsC_mem r, addL_mem, List.mem_cons]
    constructor
    · rintro ((h | h) | h)
      · exact .inr (.inl h)
      · exact .inl h
      · exact .inr (.inr h)
    · rintro (h | h | h)
      · exact .inl (.inr h)
      · exact .inl (.inl h)
      · exact .inr h
theorem addsC_asc : ∀ (r acc : List (List Cell)), asc acc → asc (addsC acc r)
  | [], acc, h => h
  | x :: r, acc, h => addsC_asc r _ (addL_asc h)
theorem specForms8_l (l : List Cell) (m : Int) (hm : m ≤ 8) (hl : l.length ≤ 1048576) (h0 : 0 < l.length) : ∀ (n : Nat) (t : Int) (acc : List (List Cell)), 0 ≤ t → t + (n : Int) = m → acc.length + n ≤ 8 → Ev (fun k => spec_l03Forms.l0 k l m acc t) (addsC acc (formsC l n t))
  | 0, t, acc, h1, h2, h3 => by
    refine Ev.succ ?_
    simp only [spec_l03Forms.l0]
    exact Ev.neg (by omega) (Ev.of_eq (Ev.now _) (by simp [formsC, addsC]))
  | n + 1, t, acc, h1, h2, h3 => by
    refine Ev.succ ?_
    simp only [spec_l03Forms.l0]
    have ew : wrap64 (t + 1) = t + 1 := w64 (by omega) (by omega)
    have hs : small (formC l t) := by unfold small; rw [formC_len]; omega
    refine Ev.pos (by omega) (Ev.bind (specForm8_ev l t h1 hl h0) (Ev.bind (specAdd_ev acc _ (by omega) hs) ?_))
    simp only [ew]
    have := addL_len acc (formC l t)
    exact specForms8_l l m hm hl h0 n (t + 1) _ (by omega) (by omega) (by omega)
def pieceF (l : List Cell) (b : Bool) : List (List Cell) := tidyL (formsC l (if b = true then 8 else 4) 0)
theorem pieceF_mem {l : List Cell} {b : Bool} : ∀ x ∈ pieceF l b, x.length = l.length := fun x hx => formsC_mem l _ _ x (tidyL_mem.1 hx)
theorem pieceF_len (l : List Cell) (b : Bool) : (pieceF l b).length ≤ 8 := by
  refine Nat.le_trans (tidyL_len _) ?_
  rw [formsC_len]
  split <;> omega
theorem implPieceF_ev (l : List Cell) (n : Int) (b : Bool) (hl : l.length ≤ 1048576) (h0 : 0 < l.length) : Ev (fun k => impl_formsOf.f k l n b) (pieceF l b) := by
  unfold impl_formsOf.f pieceF
  have key (m : Nat) (hm : m ≤ 8) (hm1 : 1 ≤ m) : Ev (fun k => (impl_forms.f k l (m : Int)).bind fun t => (impl_tidyShapes.f t).bind fun s => some s) (tidyL (formsC l m 0)) := by
    have h1 : Ev (fun k => impl_forms.f k l (m : Int)) (formsC l m 0) := by
      unfold impl_forms.f
      exact Ev.of_eq (implForms8_l l m (by omega) hl h0 m 0 [] (by omega) (by omega) (by simp; omega)) (by simp)
    refine Ev.bind h1 ?_
    rw [implTidy_eq _ (by rw [formsC_len]; omega) (by rw [formsC_len]; omega)]
    exact Ev.now _
  cases b with
  | true => exact Ev.pos rfl (key 8 (by omega) (by omega))
  | false => exact Ev.neg (by simp) (key 4 (by omega) (by omega))
theorem specPieceF_ev (l : List Cell) (n : Int) (b : Bool) (hl : l.length ≤ 1048576) (h0 : 0 < l.length) : Ev (fun k => spec_l11Forms.f k l n b) (pieceF l b) := by
  unfold spec_l11Forms.f pieceF
  have key (m : Nat) (hm : m ≤ 8) (hm1 : 1 ≤ m) : Ev (fun k => (spec_l03Forms.f k l (m : Int)).bind fun t => some t) (tidyL (formsC l m 0)) := by
    have h1 : Ev (fun k => spec_l03Forms.f k l (m : Int)) (addsC [] (formsC l m 0)) := by
      unfold spec_l03Forms.f
      exact specForms8_l l m (by omega) hl h0 m 0 [] (by omega) (by omega) (by simp; omega)
    have e : addsC [] (formsC l m 0) = tidyL (formsC l m 0) := by
      refine asc_eq _ _ (addsC_asc _ _ List.Pairwise.nil) (tidyL_asc _) fun x => ?_
      rw [addsC_mem, tidyL_mem]
      simp
    rw [e] at h1
    exact Ev.bind h1 (Ev.now _)
  cases b with
  | true => exact Ev.pos rfl (key 8 (by omega) (by omega))
  | false => exact Ev.neg (by simp) (key 4 (by omega) (by omega))
end Go.Proofs.Ytfdfdifjkaaeoaa.L
end
section
namespace Go.Proofs.Ytfdfdifjkaaeoaa.L
open Go.RowKit Go.Proofs.YtfdfdifjkaaeoaaW.PrintWords Go.Proofs.YtfdfdifjkaaeoaaW.PrintLast Go.Proofs.YtfdfdifjkaaeoaaW.PrintMore Go.Proofs.Ytfdfdifjkaaeoaa.F
set_option linter.unusedVariables false
def aroundC (c : Cell) : List Cell := [⟨c.f0, wrap64 (c.f1 - 1)⟩, ⟨wrap64 (c.f0 - 1), c.f1⟩, ⟨wrap64 (c.f0 + 1), c.f1⟩, ⟨c.f0, wrap64 (c.f1 + 1)⟩]
theorem specAround_eq (c : Cell) : spec_l02Around.f c.f0 c.f1 = some (aroundC c) := rfl
theorem implAround_eq (c : Cell) : impl_around.f c.f0 c.f1 = some (aroundC c) := rfl
end Go.Proofs.Ytfdfdifjkaaeoaa.L
end
section
namespace Go.Proofs.Ytfdfdifjkaaeoaa.L
open Go.RowKit Go.Proofs.YtfdfdifjkaaeoaaW.PrintWords Go.Proofs.YtfdfdifjkaaeoaaW.PrintLast Go.Proofs.YtfdfdifjkaaeoaaW.PrintMore Go.Proofs.Ytfdfdifjkaaeoaa.F
set_option linter.unusedVariables false
set_option linter.unusedSimpArgs false
def visit1 (l : List Cell) (i : Int) (s : List Int × List Int) (d : Cell) : List Int × List Int :=
  if idxC l d ≥ 0 ∧ rd s.1 (idxC l d) < 0 then (s.1.set (idxC l d).toNat i, s.2 ++ [idxC l d]) else s
def visit (l : List Cell) (i : Int) (ds : List Cell) (s : List Int × List Int) : List Int × List Int := ds.foldl (visit1 l i) s
def negs (o : List Int) : Nat := o.countP fun x => decide (x < 0)
structure Fine (l : List Cell) (o q : List Int) : Prop where
  len : o.length = l.length
  rng : ∀ j ∈ q, 0 ≤ j ∧ j < (l.length : Int)
theorem idxC_lt (l : List Cell) (d : Cell) : idxC l d < (l.length : Int) := by
  rcases idxC_spec l d with ⟨h, _⟩ | ⟨j, h1, h2, _⟩
  · omega
  · omega
theorem rd_set (o : List Int) (j : Nat) (i : Int) (q : Int) (hj : j < o.length) : rd (o.set j i) q = if q.toNat = j then i else rd o q := by
  unfold rd
  rw [List.getD_eq_getElem?_getD, List.getD_eq_getElem?_getD]
  by_cases h : q.toNat = j
  · rw [if_pos h, h, List.getElem?_set_self hj]; rfl
  · rw [if_neg h, List.getElem?_set_ne (by omega)]
theorem negs_set (o : List Int) (j : Int) (i : Int) (h0 : 0 ≤ j) (h1 : j < (o.length : Int)) (h : rd o j < 0) (hi : 0 ≤ i) : negs (o.set j.toNat i) + 1 = negs o := by
  have hj : j.toNat < o.length := by omega
  have hr : o[j.toNat] < 0 := by
    unfold rd at h
    rw [List.getD_eq_getElem?_getD, List.getElem?_eq_getElem hj] at h
    exact h
  unfold negs
  have hpos : 0 < o.countP fun x => decide (x < 0) := List.countP_pos_iff.2 ⟨_, List.getElem_mem hj, by simpa using hr⟩
  rw [List.countP_set hj]
  have e1 : decide (i < 0) = false := decide_eq_false (by omega)
  have e2 : decide (o[j.toNat] < 0) = true := decide_eq_true hr
  simp only [e1, e2, if_true]
  simp
  omega
theorem visit1_fine {l : List Cell} {i : Int} (hi : 0 ≤ i) {s : List Int × List Int} (h : Fine l s.1 s.2) (d : Cell) :
    Fine l (visit1 l i s d).1 (visit1 l i s d).2 ∧ negs (visit1 l i s d).1 + (visit1 l i s d).2.length = negs s.1 + s.2.length ∧ s.2.length ≤ (visit1 l i s d).2.length ∧ ∀ j : Int, 0 ≤ rd s.1 j → 0 ≤ rd (visit1 l i s d).1 j := by
  unfold visit1
  by_cases hc : idxC l d ≥ 0 ∧ rd s.1 (idxC l d) < 0
  · rw [if_pos hc]
    have hlt := idxC_lt l d
    have hln := h.len
    refine ⟨⟨by simpa using h.len, fun j hj => ?_⟩, ?_, by simp, fun j hj => ?_⟩
    · rcases List.mem_append.1 hj with hj | hj
      · exact h.rng j hj
      · simp at hj; omega
    · have := negs_set s.1 (idxC l d) i hc.1 (by omega) hc.2 hi
      simp only [List.length_append, List.length_singleton]
      omega
    · simp only
      rw [rd_set _ _ _ _ (by omega)]
      split
      · exact hi
      · exact hj
  · rw [if_neg hc]
    exact ⟨h, rfl, Nat.le_refl _, fun _ h => h⟩
theorem visit_fine {l : List Cell} {i : Int} (hi : 0 ≤ i) : ∀ (ds : List Cell) {s : List Int × List Int}, Fine l s.1 s.2 →
    Fine l (visit l i ds s).1 (visit l i ds s).2 ∧ negs (visit l i ds s).1 + (visit l i ds s).2.length = negs s.1 + s.2.length ∧ s.2.length ≤ (visit l i ds s).2.length ∧ ∀ j : Int, 0 ≤ rd s.1 j → 0 ≤ rd (visit l i ds s).1 j
  | [], s, h => ⟨h, rfl, Nat.le_refl _, fun _ h => h⟩
  | d :: r, s, h => by
    obtain ⟨h1, h2, h3, h4⟩ := visit1_fine hi h d
    obtain ⟨h5, h6, h7, h8⟩ := visit_fine hi r h1
    exact ⟨h5, h6.trans h2, Nat.le_trans h3 h7, fun j hj => h8 j (h4 j hj)⟩
theorem visit_snoc (l : List Cell) (i : Int) (ds : List Cell) (d : Cell) (s : List Int × List Int) : visit l i (ds ++ [d]) s = visit1 l i (visit l i ds s) d := by
  simp [visit]
def bfs (nb : Cell → List Cell) (l : List Cell) (i : Int) : Nat → List Int → List Int → List Int
  | 0, o, _ => o
  | _ + 1, o, [] => o
  | n + 1, o, c :: q => bfs nb l i n (visit l i (nb (rd_T59 l c)) (o, q)).1 (visit l i (nb (rd_T59 l c)) (o, q)).2
theorem bfs_fine {nb : Cell → List Cell} {l : List Cell} {i : Int} (hi : 0 ≤ i) : ∀ (n : Nat) (o q : List Int), Fine l o q → (bfs nb l i n o q).length = l.length ∧ ∀ j : Int, 0 ≤ rd o j → 0 ≤ rd (bfs nb l i n o q) j
  | 0, o, q, h => ⟨h.len, fun _ h => h⟩
  | n + 1, o, [], h => ⟨h.len, fun _ h => h⟩
  | n + 1, o, c :: q, h => by
    have h' : Fine l o q := ⟨h.len, fun j hj => h.rng j (List.mem_cons_of_mem _ hj)⟩
    obtain ⟨h1, _, _, h4⟩ := visit_fine hi (nb (rd_T59 l c)) (s := (o, q)) h'
    obtain ⟨h5, h6⟩ := bfs_fine hi n _ _ h1
    exact ⟨h5, fun j hj => h6 j (h4 j hj)⟩
def partsF (nb : Cell → List Cell) (l : List Cell) : Int → List Cell → List Int → List Int
  | _, [], o => o
  | i, _ :: r, o => partsF nb l (i + 1) r (if rd o i ≥ 0 then o else bfs nb l i l.length (o.set i.toNat i) [i])
def partsR (nb : Cell → List Cell) (l : List Cell) : List Int := partsF nb l 0 l (List.replicate l.length (-1))
theorem step_fine {l : List Cell} {o : List Int} {i : Nat} (hl : o.length = l.length) (hi : i < l.length) (h : ¬ rd o (i : Int) ≥ 0) : Fine l (o.set i (i : Int)) [(i : Int)] ∧ negs (o.set i (i : Int)) + 1 ≤ l.length := by
  refine ⟨⟨by simpa using hl, fun j hj => by simp at hj; omega⟩, ?_⟩
  have h1 := negs_set o (i : Int) (i : Int) (by omega) (by omega) (by omega) (by omega)
  rw [Int.toNat_natCast] at h1
  have h2 : negs o ≤ o.length := List.countP_le_length
  omega
theorem step_next {nb : Cell → List Cell} {l : List Cell} {o : List Int} {i : Nat} (hl : o.length = l.length) (hi : i < l.length) (hd : ∀ j : Nat, j < i → 0 ≤ rd o (j : Int)) :
    (if rd o (i : Int) ≥ 0 then o else bfs nb l (i : Int) l.length (o.set i (i : Int)) [(i : Int)]).length = l.length ∧ ∀ j : Nat, j < i + 1 → 0 ≤ rd (if rd o (i : Int) ≥ 0 then o else bfs nb l (i : Int) l.length (o.set i (i : Int)) [(i : Int)]) (j : Int) := by
  by_cases h : rd o (i : Int) ≥ 0
  · rw [if_pos h]
    refine ⟨hl, fun j hj => ?_⟩
    by_cases e : j = i
    · exact e ▸ h
    · exact hd j (by omega)
  · rw [if_neg h]
    obtain ⟨h1, h2⟩ := step_fine hl hi h
    obtain ⟨h3, h4⟩ := bfs_fine (nb := nb) (i := (i : Int)) (by omega) l.length _ _ h1
    refine ⟨h3, fun j hj => h4 _ ?_⟩
    rw [rd_set _ _ _ _ (by omega), Int.toNat_natCast]
    split
    · omega
    · exact hd j (by omega)
theorem partsF_fine {nb : Cell → List Cell} {l : List Cell} : ∀ (r pre : List Cell) (o : List Int), l = pre ++ r → o.length = l.length → (∀ j : Nat, j < pre.length → 0 ≤ rd o (j : Int)) → (partsF nb l (pre.length : Int) r o).length = l.length ∧ ∀ j : Nat, j < l.length → 0 ≤ rd (partsF nb l (pre.length : Int) r o) (j : Int)
  | [], pre, o, h, hl, hd => by
    rw [List.append_nil] at h
    subst h
    exact ⟨hl, hd⟩
  | c :: r, pre, o, h, hl, hd => by
    obtain ⟨h1, h2⟩ := step_next (nb := nb) (l := l) (o := o) (i := pre.length) hl (by rw [h]; simp) hd
    have := partsF_fine (nb := nb) r (pre ++ [c]) _ (by rw [h]; simp) h1 (by simpa using h2)
    rw [List.length_append] at this
    exact this
theorem partsR_len (nb : Cell → List Cell) (l : List Cell) : (partsR nb l).length = l.length := (partsF_fine l [] _ rfl (by simp) (fun j hj => by simp at hj)).1
theorem partsR_pos (nb : Cell → List Cell) (l : List Cell) : ∀ x ∈ partsR nb l, 0 ≤ x := by
  intro x hx
  obtain ⟨j, hj, e⟩ := List.getElem_of_mem hx
  have h := (partsF_fine (nb := nb) (l := l) l [] (List.replicate l.length (-1)) rfl (by simp) (fun j hj => by simp at hj)).2 j (by have := partsR_len nb l; omega)
  have h' : 0 ≤ rd (partsR nb l) (j : Int) := h
  unfold rd at h'
  rw [List.getD_eq_getElem?_getD, Int.toNat_natCast, List.getElem?_eq_getElem hj] at h'
  exact e ▸ h'
theorem wf64 {n : Int} (h : -9223372036854775808 ≤ n) (h' : n ≤ 9223372036854775807) : (Lit.int .i64 n).wf = true := by
  simp only [Lit.wf, IntKind.min, IntKind.max, IntKind.signed, IntKind.bits, Bool.and_eq_true, decide_eq_true_eq, if_true]; omega
theorem wf_wrap (n : Int) : (Lit.int .i64 (wrap64 n)).wf = true := wf64 (by unfold wrap64; omega) (by unfold wrap64; omega)
theorem wfC_ok {c : Cell} (h : okC c) : wfC c = true := by
  unfold wfC
  unfold okC ok1 at h
  rw [wf64 (by omega) (by omega), wf64 (by omega) (by omega)]
  rfl
theorem lastIdx_eq (c : Cell) : ∀ (l : List Cell) (i : Nat), l.Nodup → lastIdx l c i = if idxF l c (i : Int) ≥ 0 then some (idxF l c (i : Int)).toNat else none
  | [], i, _ => by simp [lastIdx, idxF]
  | a :: r, i, h => by
    obtain ⟨h1, h2⟩ := List.nodup_cons.1 h
    have ih := lastIdx_eq c r (i + 1) h2
    have e : ((i + 1 : Nat) : Int) = (i : Int) + 1 := by omega
    rw [e] at ih
    unfold lastIdx idxF
    rw [ih]
    by_cases hs : sameC a c = true
    · have hac := sameC_iff.1 hs
      rw [if_pos hs]
      have hn : ¬ idxF r c ((i : Int) + 1) ≥ 0 := by
        rcases idxF_spec r c ((i : Int) + 1) (by omega) with ⟨h3, _⟩ | ⟨j, _, _, h3, _⟩
        · omega
        · exact absurd (List.mem_of_getElem? h3) (hac ▸ h1)
      rw [if_neg hn]
      have : a.f0 = c.f0 ∧ a.f1 = c.f1 := by rw [hac]; exact ⟨rfl, rfl⟩
      simp only [this, and_self, if_true]
      simp
    · rw [if_neg hs]
      have hne : ¬ (a.f0 = c.f0 ∧ a.f1 = c.f1) := by
        intro h3
        apply hs
        simp [sameC, h3.1, h3.2]
      by_cases hg : idxF r c ((i : Int) + 1) ≥ 0
      · rw [if_pos hg]
      · rw [if_neg hg]
        simp only [hne, if_false]
theorem look_eq (l : List Cell) (d : Cell) (hn : l.Nodup) (hw : wfC d = true) : impl_partsLook.f l d.f0 d.f1 = some (if idxC l d ≥ 0 then (idxC l d, true) else (0, false)) := by
  unfold impl_partsLook.f
  have hw' : wfC ⟨d.f0, d.f1⟩ = true := hw
  rw [if_pos hw']
  have := lastIdx_eq d l 0 hn
  have e : lastIdx l ⟨d.f0, d.f1⟩ 0 = if idxC l d ≥ 0 then some (idxC l d).toNat else none := this
  rw [e]
  by_cases h : idxC l d ≥ 0
  · rw [if_pos h, if_pos h]
    simp only [Int.toNat_of_nonneg h]
  · rw [if_neg h, if_neg h]
end Go.Proofs.Ytfdfdifjkaaeoaa.L
end
section
namespace Go.Proofs.Ytfdfdifjkaaeoaa.L
open Go.RowKit Go.Proofs.YtfdfdifjkaaeoaaW.PrintWords Go.Proofs.Ytfdfdifjkaaeoaa.F
set_option linter.unusedVariables false
theorem aroundC_len (c : Cell) : (aroundC c).length ≤ 16 := by simp [aroundC]
theorem aroundC_wf {c : Cell} (h : wfC c = true) : ∀ d ∈ aroundC c, wfC d = true := by
  unfold wfC at h
  rw [Bool.and_eq_true] at h
  intro d hd
  simp only [aroundC, List.mem_cons, List.not_mem_nil, or_false] at hd
  rcases hd with rfl | rfl | rfl | rfl <;> simp [wfC, h.1, h.2, wf_wrap]
end Go.Proofs.Ytfdfdifjkaaeoaa.L
end
section
namespace Go.Proofs.Ytfdfdifjkaaeoaa.L
open Go.RowKit Go.Proofs.YtfdfdifjkaaeoaaW.PrintWords Go.Proofs.YtfdfdifjkaaeoaaW.PrintLast Go.Proofs.YtfdfdifjkaaeoaaW.PrintMore Go.Proofs.Ytfdfdifjkaaeoaa.F
set_option linter.unusedVariables false
set_option linter.unusedSimpArgs false
theorem ps_l3 (l : List Cell) (hl : l.length ≤ 1048576) (i : Int) (hi : 0 ≤ i) (xs : List Cell) (hx4 : xs.length = 4) (o q : List Int) (hf : Fine l o q) (hb : negs o + q.length ≤ l.length) {r : List Int}
    (hc : Ev (fun k => spec_l02Parts.l2 k l (visit l i xs (o, q)).1 i (visit l i xs (o, q)).2) r) :
    Ev (fun k => spec_l02Parts.l3 k l o i q xs 0) r := by
  have hsm : small xs := by unfold small; omega
  have hs : small l := by unfold small; omega
  refine loop_list xs (fun k j (s : List Int × List Int) => spec_l02Parts.l3 k l s.1 i s.2 xs j) (fun _ _ _ => r) (fun pre s => s = visit l i pre (o, q)) ?_ ?_ (o, q) rfl
  · rintro s rfl
    have e0 : ¬ ((xs.length : Int) < 4) := by omega
    simp only [spec_l02Parts.l3, e0, if_false]
    exact hc
  · rintro pre d suf s hx rfl ih
    obtain ⟨h1, h2, h3, _⟩ := visit_fine hi pre (s := (o, q)) hf
    simp only at h2 h3
    have hln := h1.len
    have hp4 : ((pre.length : Int) < 4) = True := by have := pre_len hx; simp; omega
    simp only [spec_l02Parts.l3, hp4, pre_lt hx, pre_0, if_true, at_pre hx, pre_w hx hsm]
    refine Ev.bind (specIndex_ev l d hs) ?_
    have hlt := idxC_lt l d
    have hq : (visit l i pre (o, q)).2.length ≤ l.length := by omega
    by_cases hg : idxC l d ≥ 0
    · refine Ev.pos hg (Ev.pos hg (Ev.pos (by omega) ?_))
      by_cases hr : rd (visit l i pre (o, q)).1 (idxC l d) < 0
      · refine Ev.pos hr (Ev.pos (by omega) ?_)
        have e : visit1 l i (visit l i pre (o, q)) d = ((visit l i pre (o, q)).1.set (idxC l d).toNat i, (visit l i pre (o, q)).2 ++ [idxC l d]) := by
          unfold visit1; rw [if_pos ⟨hg, hr⟩]
        exact ih ((visit l i pre (o, q)).1.set (idxC l d).toNat i, (visit l i pre (o, q)).2 ++ [idxC l d]) (by rw [visit_snoc, e])
      · refine Ev.neg hr (ih _ ?_)
        rw [visit_snoc]
        unfold visit1
        rw [if_neg fun h => hr h.2]
    · refine Ev.neg hg (ih _ ?_)
      rw [visit_snoc]
      unfold visit1
      rw [if_neg fun h => hg h.1]
theorem ps_l2 (l : List Cell) (hl : l.length ≤ 1048576) (i : Int) (hi : 0 ≤ i) {r : List Int} : ∀ (n : Nat) (o q : List Int), Fine l o q → negs o + q.length ≤ l.length → negs o + q.length ≤ n →
    Ev (fun k => spec_l02Parts.l1 k l (bfs aroundC l i n o q) (wrap64 (i + 1))) r → Ev (fun k => spec_l02Parts.l2 k l o i q) r := by
  intro n
  induction n with
  | zero =>
    intro o q hf hb hm hc
    obtain rfl : q = [] := List.length_eq_zero_iff.1 (by omega)
    refine Ev.succ ?_
    simp only [spec_l02Parts.l2]
    exact Ev.neg (by simp) hc
  | succ n ih =>
    intro o q hf hb hm hc
    refine Ev.succ ?_
    cases q with
    | nil =>
      simp only [spec_l02Parts.l2]
      exact Ev.neg (by simp) hc
    | cons c q =>
      have hr := hf.rng c List.mem_cons_self
      have e1 : rd (c :: q) 0 = c := rfl
      have hlen : (c :: q).length = q.length + 1 := rfl
      simp only [spec_l02Parts.l2, e1]
      refine Ev.pos (by omega) (Ev.pos (by omega) (Ev.pos hr.1 (Ev.pos hr.2 ?_)))
      simp only [specAround_eq, Option.bind_some]
      refine Ev.pos (by omega) ?_
      have hf' : Fine l o q := ⟨hf.len, fun j hj => hf.rng j (List.mem_cons_of_mem _ hj)⟩
      obtain ⟨h1, h2, h3, _⟩ := visit_fine hi (aroundC (rd_T59 l c)) (s := (o, q)) hf'
      simp only at h2 h3
      have ed : (c :: q).drop (1 : Int).toNat = q := rfl
      rw [ed]
      refine ps_l3 l hl i hi _ rfl o q hf' (by omega) ?_
      exact ih _ _ h1 (by omega) (by omega) hc
theorem ps_ev (l : List Cell) (hl : l.length ≤ 1048576) : Ev (fun k => spec_l02Parts.f k l) (partsR aroundC l) := by
  have hs : small l := by unfold small; omega
  unfold spec_l02Parts.f
  have hz := loop_list l (fun k i (s : List Int) => spec_l02Parts.l0 k l s i) (fun _ _ _ => partsR aroundC l) (fun pre s => s = List.replicate pre.length (-1)) ?_ ?_ [] rfl
  · exact hz
  · rintro s rfl
    simp only [spec_l02Parts.l0, len_lt, if_false]
    have := loop_list l (fun k i (s : List Int) => spec_l02Parts.l1 k l s i) (fun pre suf s => partsF aroundC l (pre.length : Int) suf s) (fun pre s => s.length = l.length ∧ ∀ j : Nat, j < pre.length → 0 ≤ rd s (j : Int)) ?_ ?_ (List.replicate l.length (-1)) ⟨by simp, fun j hj => by simp at hj⟩
    · exact this
    · rintro s _
      simp only [spec_l02Parts.l1, len_lt, if_false]
      exact Ev.now _
    · rintro pre c suf s hx ⟨h1, h2⟩ ih
      have hp := pre_len hx
      obtain ⟨h3, h4⟩ := step_next (nb := aroundC) (l := l) (o := s) (i := pre.length) h1 hp h2
      have hlt : ((pre.length : Int) < (s.length : Int)) = True := by rw [h1]; exact pre_lt hx
      simp only [spec_l02Parts.l1, pre_lt hx, pre_0, if_true, hlt, pre_w hx hs, Int.toNat_natCast]
      have hih := ih _ ⟨h3, by simpa using h4⟩
      unfold partsF
      rw [Int.toNat_natCast]
      have ee : ((pre ++ [c]).length : Int) = (pre.length : Int) + 1 := by simp
      rw [ee] at hih
      by_cases hg : rd s (pre.length : Int) ≥ 0
      · rw [if_pos hg] at hih ⊢
        exact Ev.pos hg hih
      · rw [if_neg hg] at hih ⊢
        refine Ev.neg hg ?_
        obtain ⟨h5, h6⟩ := step_fine h1 hp hg
        exact ps_l2 l hl (pre.length : Int) (by omega) l.length _ _ h5 (by simpa using h6) (by simpa using h6) (by rw [pre_w hx hs]; exact hih)
  · rintro pre c suf s hx rfl ih
    have hp := pre_len hx
    simp only [spec_l02Parts.l0, pre_lt hx, if_true, pre_w hx hs]
    exact Ev.pos (by rw [List.length_replicate]; omega) (ih _ (by simp [List.replicate_succ']))
def oneB (l : List Int) : Bool := l.all fun x => decide (x = 0)
def first (nb : Cell → List Cell) (l : List Cell) : List Int := bfs nb l 0 l.length ((List.replicate l.length (-1 : Int)).set 0 0) [0]
theorem max_ev (l : List Int) (hs : small l) (h0 : 0 < l.length) (hp : ∀ x ∈ l, 0 ≤ x) : Ev (fun k => slices_Max_int64_int64.f k l) (l.foldl mx 0) := by
  unfold slices_Max_int64_int64.f
  obtain ⟨c, r, rfl⟩ : ∃ c r, l = c :: r := by cases l with | nil => simp at h0 | cons c r => exact ⟨c, r, rfl⟩
  refine Ev.neg (by omega) (Ev.pos (by omega) ?_)
  have h1 : rd (c :: r) 0 = c := rfl
  rw [h1]
  have := loop_tail c r (fun k i (s : Int) => slices_Max_int64_int64.l0 k (c :: r) s i) (fun _ suf s => suf.foldl mx s) (fun _ _ => True) ?_ ?_ c trivial
  · refine Ev.of_eq this ?_
    have hc := hp c List.mem_cons_self
    have : mx 0 c = c := by unfold mx; split <;> omega
    simp [this]
  · rintro s _
    simp only [slices_Max_int64_int64.l0, len_lt, if_false]
    exact Ev.now _
  · rintro pre d suf s hx _ _ ih
    simp only [slices_Max_int64_int64.l0, pre_lt hx, pre_0, if_true, at_preI hx, pre_w hx hs]
    exact ih (mx s d) trivial
theorem foldl_mx : ∀ (l : List Int) (a : Int), 0 ≤ a → (∀ x ∈ l, 0 ≤ x) → 0 ≤ l.foldl mx a ∧ (l.foldl mx a = 0 ↔ a = 0 ∧ oneB l = true)
  | [], a, ha, _ => ⟨ha, by simp [oneB]⟩
  | c :: r, a, ha, h => by
    have hc := h c List.mem_cons_self
    have h1 : 0 ≤ mx a c := by unfold mx; split <;> omega
    obtain ⟨h2, h3⟩ := foldl_mx r (mx a c) h1 (fun x hx => h x (List.mem_cons_of_mem _ hx))
    refine ⟨h2, h3.trans ?_⟩
    have h4 : mx a c = 0 ↔ a = 0 ∧ c = 0 := by unfold mx; split <;> omega
    rw [h4]
    simp [oneB, and_assoc]
theorem pa_l3 (l : List Cell) (hl : l.length ≤ 1048576) (hn : l.Nodup) (i : Int) (hi : 0 ≤ i) (xs : List Cell) (hx4 : xs.length ≤ 16) (hwx : ∀ d ∈ xs, wfC d = true) (o p q : List Int) (hf : Fine l o q) (hb : negs o + (p ++ q).length ≤ l.length) (at_ len_ n_ : Int) {r : List Int}
    (hc : Ev (fun k => impl_parts__impl_around.l2 k l (visit l i xs (o, q)).1 i (p ++ (visit l i xs (o, q)).2) (wrap64 (at_ + 1)) len_ n_) r) :
    Ev (fun k => impl_parts__impl_around.l3 k l o i (p ++ q) at_ len_ n_ xs (xs.length : Int) 0) r := by
  have hsm : small xs := by unfold small; omega
  refine loop_list xs (fun k j (s : List Int × List Int) => impl_parts__impl_around.l3 k l s.1 i (p ++ s.2) at_ len_ n_ xs (xs.length : Int) j) (fun _ _ _ => r) (fun pre s => s = visit l i pre (o, q)) ?_ ?_ (o, q) rfl
  · rintro s rfl
    simp only [impl_parts__impl_around.l3, len_lt, if_false]
    exact hc
  · rintro pre d suf s hx rfl ih
    obtain ⟨h1, h2, h3, _⟩ := visit_fine hi pre (s := (o, q)) hf
    simp only at h2 h3
    have hln := h1.len
    have hd : wfC d = true := hwx d (by rw [hx]; simp)
    simp only [impl_parts__impl_around.l3, pre_lt hx, pre_0, if_true, at_pre hx, pre_w hx hsm, look_eq l d hn hd, Option.bind_some]
    have hlt := idxC_lt l d
    have hq : (p ++ (visit l i pre (o, q)).2).length ≤ l.length := by
      rw [List.length_append] at hb ⊢
      omega
    by_cases hg : idxC l d ≥ 0
    · simp only [hg, if_true]
      refine Ev.pos (by omega) ?_
      by_cases hr : rd (visit l i pre (o, q)).1 (idxC l d) < 0
      · refine Ev.pos hr (Ev.pos (by omega) ?_)
        have e : visit1 l i (visit l i pre (o, q)) d = ((visit l i pre (o, q)).1.set (idxC l d).toNat i, (visit l i pre (o, q)).2 ++ [idxC l d]) := by
          unfold visit1; rw [if_pos ⟨hg, hr⟩]
        have h := ih ((visit l i pre (o, q)).1.set (idxC l d).toNat i, (visit l i pre (o, q)).2 ++ [idxC l d]) (by rw [visit_snoc, e])
        rw [List.append_assoc]
        exact h
      · refine Ev.neg hr (ih _ ?_)
        rw [visit_snoc]
        unfold visit1
        rw [if_neg fun h => hr h.2]
    · simp only [hg, if_false, Bool.false_eq_true]
      refine ih _ ?_
      rw [visit_snoc]
      unfold visit1
      rw [if_neg fun h => hg h.1]
theorem pa_l2 (l : List Cell) (hl : l.length ≤ 1048576) (hn : l.Nodup) (hw : l.all wfC = true) (i : Int) (hi : 0 ≤ i) (len_ n_ : Int) {r : List Int} : ∀ (n : Nat) (o p q : List Int), Fine l o q → negs o + (p ++ q).length ≤ l.length → negs o + q.length ≤ n →
    Ev (fun k => impl_parts__impl_around.l1 k l (bfs aroundC l i n o q) len_ (wrap64 (n_ + 1))) r → Ev (fun k => impl_parts__impl_around.l2 k l o i (p ++ q) (p.length : Int) len_ n_) r := by
  intro n
  induction n with
  | zero =>
    intro o p q hf hb hm hc
    obtain rfl : q = [] := List.length_eq_zero_iff.1 (by omega)
    refine Ev.succ ?_
    simp only [impl_parts__impl_around.l2, List.append_nil, len_lt, if_false]
    exact hc
  | succ n ih =>
    intro o p q hf hb hm hc
    refine Ev.succ ?_
    cases q with
    | nil =>
      simp only [impl_parts__impl_around.l2, List.append_nil, len_lt, if_false]
      exact hc
    | cons c q =>
      have hr := hf.rng c List.mem_cons_self
      have hlen : (p ++ c :: q).length = p.length + (q.length + 1) := by simp
      have e1 : rd (p ++ c :: q) (p.length : Int) = c := by unfold rd; exact getD_at p q c _
      simp only [impl_parts__impl_around.l2, e1]
      refine Ev.pos (by rw [hlen]; omega) (Ev.pos (by omega) (Ev.pos hr.1 (Ev.pos hr.2 ?_)))
      simp only [implAround_eq, Option.bind_some]
      have hf' : Fine l o q := ⟨hf.len, fun j hj => hf.rng j (List.mem_cons_of_mem _ hj)⟩
      have hwc : wfC (rd_T59 l c) = true := by
        refine List.all_eq_true.1 hw _ ?_
        unfold rd_T59
        rw [List.getD_eq_getElem?_getD, List.getElem?_eq_getElem (show c.toNat < l.length by omega)]
        exact List.getElem_mem _
      obtain ⟨h1, h2, h3, _⟩ := visit_fine hi (aroundC (rd_T59 l c)) (s := (o, q)) hf'
      have ea : p ++ c :: q = (p ++ [c]) ++ q := by simp
      have ew : wrap64 ((p.length : Int) + 1) = ((p ++ [c]).length : Int) := by
        rw [w64 (by omega) (by omega)]; simp
      rw [ea] at hb ⊢
      refine pa_l3 l hl hn i hi (aroundC (rd_T59 l c)) (aroundC_len _) (aroundC_wf hwc) o (p ++ [c]) q hf' hb _ _ _ ?_
      rw [ew]
      refine ih _ _ _ h1 ?_ ?_ hc
      · simp only [List.length_append, List.length_singleton] at hb ⊢
        simp only at h2 h3
        omega
      · simp only [List.length_cons] at hm
        simp only at h2
        omega
theorem pa_ev (l : List Cell) (hl : l.length ≤ 1048576) (hn : l.Nodup) (hw : l.all wfC = true) : Ev (fun k => impl_parts__impl_around.f k l) (partsR aroundC l) := by
  have hs : small l := by unfold small; omega
  unfold impl_parts__impl_around.f
  refine Ev.pos hw (Ev.pos (by omega) (Ev.pos (by omega) ?_))
  have hz := loop_list l (fun k i (s : List Int) => impl_parts__impl_around.l0 k l s l (l.length : Int) i) (fun _ _ _ => partsR aroundC l) (fun pre s => s = List.replicate pre.length (-1) ++ List.replicate (l.length - pre.length) 0) ?_ ?_ (List.replicate (l.length : Int).toNat 0) (by simp)
  · exact hz
  · rintro s rfl
    simp only [impl_parts__impl_around.l0, len_lt, if_false, Nat.sub_self, List.replicate_zero, List.append_nil]
    have := loop_list l (fun k i (s : List Int) => impl_parts__impl_around.l1 k l s (l.length : Int) i) (fun pre suf s => partsF aroundC l (pre.length : Int) suf s) (fun pre s => s.length = l.length ∧ ∀ j : Nat, j < pre.length → 0 ≤ rd s (j : Int)) ?_ ?_ (List.replicate l.length (-1)) ⟨by simp, fun j hj => by simp at hj⟩
    · exact this
    · rintro s _
      simp only [impl_parts__impl_around.l1, len_lt, if_false]
      exact Ev.now _
    · rintro pre c suf s hx ⟨h1, h2⟩ ih
      have hp := pre_len hx
      obtain ⟨h3, h4⟩ := step_next (nb := aroundC) (l := l) (o := s) (i := pre.length) h1 hp h2
      have hlt : ((pre.length : Int) < (s.length : Int)) = True := by rw [h1]; exact pre_lt hx
      simp only [impl_parts__impl_around.l1, pre_lt hx, pre_0, if_true, hlt, pre_w hx hs, Int.toNat_natCast]
      have hih := ih _ ⟨h3, by simpa using h4⟩
      unfold partsF
      rw [Int.toNat_natCast]
      have ee : ((pre ++ [c]).length : Int) = (pre.length : Int) + 1 := by simp
      rw [ee] at hih
      by_cases hg : rd s (pre.length : Int) ≥ 0
      · rw [if_pos hg] at hih ⊢
        exact Ev.pos hg hih
      · rw [if_neg hg] at hih ⊢
        refine Ev.neg hg ?_
        obtain ⟨h5, h6⟩ := step_fine h1 hp hg
        have e0 : ([(pre.length : Int)] : List Int) = [] ++ [(pre.length : Int)] := rfl
        have := pa_l2 l hl hn hw (pre.length : Int) (by omega) (l.length : Int) (pre.length : Int) (r := partsF aroundC l ((pre.length : Int) + 1) suf (bfs aroundC l (pre.length : Int) l.length (s.set pre.length (pre.length : Int)) [(pre.length : Int)])) l.length (s.set pre.length (pre.length : Int)) [] [(pre.length : Int)] h5 (by simpa using h6) (by simpa using h6) (by
          rw [pre_w hx hs]; exact hih)
        exact this
  · rintro pre c suf s hx rfl ih
    have hp := pre_len hx
    have hlt : ((pre.length : Int) < ((List.replicate pre.length (-1 : Int) ++ List.replicate (l.length - pre.length) 0).length : Int)) = True := by simp; omega
    simp only [impl_parts__impl_around.l0, pre_lt hx, pre_0, if_true, hlt, pre_w hx hs, Int.toNat_natCast]
    refine ih _ ?_
    have e : l.length - pre.length = (l.length - (pre.length + 1)) + 1 := by omega
    simp only [List.length_append, List.length_singleton]
    rw [e, List.replicate_succ, List.set_append_right _ _ (by simp)]
    simp [List.replicate_succ', List.append_assoc]
theorem pa_conn (l : List Cell) (hl : l.length ≤ 1048576) (h0 : l ≠ []) (hn : l.Nodup) (hw : l.all wfC = true) : Ev (fun k => impl_connected__impl_around.f k l) (oneB (partsR aroundC l)) := by
  unfold impl_connected__impl_around.f
  have hln := partsR_len aroundC l
  have hp := partsR_pos aroundC l
  have hpos : 0 < (partsR aroundC l).length := by rw [hln]; exact List.length_pos_iff.2 h0
  refine Ev.bind (pa_ev l hl hn hw) (Ev.bind (max_ev _ (by unfold small; omega) hpos hp) (Ev.of_eq (Ev.now _) ?_))
  have h := (foldl_mx (partsR aroundC l) 0 (Int.le_refl _) hp).2
  rw [Bool.eq_iff_iff, beq_iff_eq, h]
  simp
def connB (l : List Cell) : Bool := oneB (partsR aroundC l)
theorem shape_fine {l : List Cell} (h : shapeB l = true) : l ≠ [] ∧ l.Nodup ∧ l.all wfC = true ∧ l.length ≤ 1048576 := by
  obtain ⟨h1, h2, h3, h4⟩ := shapeB_iff.1 h
  refine ⟨shape_ne h, h2.imp fun {a b} hab e => ?_, List.all_eq_true.2 fun c hc => wfC_ok (h1 c hc), by omega⟩
  subst e
  unfold ltC at hab
  omega
theorem region_shape {l : List Cell} (h : regionB l = true) : shapeB l = true := by
  unfold regionB at h
  rw [Bool.and_eq_true] at h
  exact h.1
end Go.Proofs.Ytfdfdifjkaaeoaa.L
end
section
namespace Go.Proofs.Ytfdfdifjkaaeoaa.L
open Go.RowKit Go.Proofs.YtfdfdifjkaaeoaaW.PrintWords Go.Proofs.YtfdfdifjkaaeoaaW.PrintLast Go.Proofs.YtfdfdifjkaaeoaaW.PrintMore Go.Proofs.Ytfdfdifjkaaeoaa.F
set_option linter.unusedVariables false
set_option linter.unusedSimpArgs false
theorem one_ev (l : List Int) (hs : small l) : Ev (fun k => spec_l02One.f k l) (oneB l) := by
  unfold spec_l02One.f
  refine loop_list l (fun k i (_ : Unit) => spec_l02One.l0 k l i) (fun pre suf _ => oneB suf) (fun _ _ => True) ?_ ?_ () trivial
  · intro _ _
    simp only [spec_l02One.l0, len_lt, if_false]
    exact Ev.now _
  · intro pre c suf _ hx _ ih
    simp only [spec_l02One.l0, pre_lt hx, pre_0, if_true, at_preI hx, pre_w hx hs]
    by_cases hc : c = 0
    · exact Ev.pos hc (Ev.of_eq (ih () trivial) (by simp [oneB, hc]))
    · exact Ev.neg hc (Ev.of_eq (Ev.now _) (by simp [oneB, hc]))
theorem specConn_ev (l : List Cell) (hl : l.length ≤ 1048576) : Ev (fun k => spec_IsConnected.f k l) (shapeB l && connB l) := by
  have hs : small l := by unfold small; omega
  unfold spec_IsConnected.f
  refine Ev.bind (specIsShape_ev l hs) ?_
  by_cases h : shapeB l = true
  · refine Ev.pos h (Ev.bind (ps_ev l hl) (Ev.bind (one_ev _ (by unfold small; rw [partsR_len]; omega)) (Ev.of_eq (Ev.now _) ?_)))
    simp [h, connB]
  · exact Ev.neg h (Ev.of_eq (Ev.now _) (by simp [h]))
def pieceB (l : List Cell) (n : Int) : Bool := regionB l && (connB l && decide (1 ≤ n ∧ n ≤ 8))
theorem specIsPiece_ev (l : List Cell) (n : Int) (b : Bool) (hl : l.length ≤ 1048576) : Ev (fun k => spec_IsPiece.f k l n b) (pieceB l n) := by
  have hs : small l := by unfold small; omega
  unfold spec_IsPiece.f pieceB
  refine Ev.bind (specIsRegion_ev l hs) ?_
  by_cases h : regionB l = true
  · refine Ev.pos h (Ev.bind (specConn_ev l hl) ?_)
    rw [region_shape h, Bool.true_and, h, Bool.true_and]
    by_cases hc : connB l = true
    · refine Ev.pos hc ?_
      simp only [in_eq, Option.bind_some, hc, Bool.true_and]
      exact Ev.now _
    · exact Ev.neg hc (Ev.of_eq (Ev.now _) (by simp [hc]))
  · exact Ev.neg h (Ev.of_eq (Ev.now _) (by simp [h]))
theorem implIsPiece_ev (l : List Cell) (n : Int) (b : Bool) (hl : l.length ≤ 1048576) : Ev (fun k => impl_IsPiece.f k l n b) (pieceB l n) := by
  have hs : small l := by unfold small; omega
  unfold impl_IsPiece.f pieceB
  refine Ev.bind (implIsRegion_ev l hs) ?_
  by_cases h : regionB l = true
  · obtain ⟨h1, h2, h3, _⟩ := shape_fine (region_shape h)
    refine Ev.pos h (Ev.bind (pa_conn l hl h1 h2 h3) ?_)
    rw [h, Bool.true_and]
    by_cases hc : connB l = true
    · refine Ev.pos hc ?_
      simp only [within_eq, Option.bind_some, hc, Bool.true_and]
      exact Ev.now _
    · exact Ev.neg hc (Ev.of_eq (Ev.now _) (by simp [hc]))
  · exact Ev.neg h (Ev.of_eq (Ev.now _) (by simp [h]))
end Go.Proofs.Ytfdfdifjkaaeoaa.L
end
section
namespace Go.Proofs.Ytfdfdifjkaaeoaa.L
open Go.RowKit Go.Proofs.YtfdfdifjkaaeoaaW.PrintWords Go.Proofs.YtfdfdifjkaaeoaaW.PrintLast Go.Proofs.YtfdfdifjkaaeoaaW.PrintMore Go.Proofs.Ytfdfdifjkaaeoaa.F
set_option linter.unusedVariables false
set_option linter.unusedSimpArgs false
theorem piece_pos {l : List Cell} {n : Int} (h : pieceB l n = true) : 0 < l.length := by
  unfold pieceB at h
  rw [Bool.and_eq_true] at h
  have := (shapeB_iff.1 (region_shape h.1)).2.2.1
  omega
theorem toPiece_ev (l : List LCell) (n : Int) (b : Bool) (la : l.length ≤ 1048576) : Ev (fun k => laws_toPiece.f k l n b) (l.map cellOf, n, b) := by
  unfold laws_toPiece.f
  exact Ev.bind (toCellS_ev l la) (Ev.now _)
theorem eqPiece_ev (l : List Cell) (n : Int) (b : Bool) (hs : small l) : Ev (fun k => laws_eqPiece.f k l n b l n b) true := by
  unfold laws_eqPiece.f
  exact Ev.bind (eqCellS_ev _ hs) (Ev.pos rfl (Ev.pos rfl (Ev.neg (by simp) (Ev.now _))))
end Go.Proofs.Ytfdfdifjkaaeoaa.L
end
section
namespace Go.Proofs.Ytfdfdifjkaaeoaa.L
open Go.RowKit Go.Proofs.YtfdfdifjkaaeoaaW.PrintWords Go.Proofs.YtfdfdifjkaaeoaaW.PrintLast Go.Proofs.YtfdfdifjkaaeoaaW.PrintMore Go.Proofs.Ytfdfdifjkaaeoaa.F
set_option linter.unusedVariables false
set_option linter.unusedSimpArgs false
def markedCF (m : Int) (n : Nat) : List Cell := (List.range n).map fun (i : Nat) => ⟨m + 2 * (i : Int), m + 1 + 2 * (i : Int)⟩
theorem markedCF_len (m : Int) (n : Nat) : (markedCF m n).length = n := by simp [markedCF]
theorem markedCF_get (m : Int) (n i : Nat) (h : i < n) : (markedCF m n)[i]? = some ⟨m + 2 * (i : Int), m + 1 + 2 * (i : Int)⟩ := by
  simp [markedCF, h]
theorem markCellS_from (a : List Cell) (m : Int) (h0 : 0 ≤ m) (h1 : m ≤ 4611686018427387904) (ha : fits a) : Ev (fun k => laws_markCellS.f k a m) (m + 2 * (a.length : Int), markedCF m a.length) := by
  unfold laws_markCellS.f
  have hs := ha.small
  unfold fits at ha
  have := loop_list a (fun k i (s : List Cell × Int) => laws_markCellS.l0 k s.1 s.2 i) (fun pre _ s => (m + 2 * (a.length : Int), s.1.take pre.length ++ (markedCF m a.length).drop pre.length))
    (fun pre s => s.1.length = a.length ∧ s.2 = m + 2 * (pre.length : Int)) ?_ ?_ (a, m) ⟨rfl, by simp⟩
  · simpa using this
  · rintro ⟨l, n⟩ ⟨hl, hn⟩
    simp only at hl hn
    simp only [laws_markCellS.l0, hl, len_lt, if_false]
    refine Ev.of_eq (Ev.now _) ?_
    rw [List.take_of_length_le (by omega), List.drop_of_length_le (by rw [markedCF_len]; exact Nat.le_refl _), List.append_nil, hn]
  · rintro pre c suf ⟨l, n⟩ hx ⟨hl, hn⟩ ih
    have hp := pre_len hx
    simp only at hl hn
    subst hn
    have hlt : ((pre.length : Int) < (l.length : Int)) = True := by rw [hl]; exact pre_lt hx
    have e1 : wrap64 (m + 2 * (pre.length : Int) + 1) = m + 1 + 2 * (pre.length : Int) := by rw [w64 (by omega) (by omega)]; omega
    have e2 : wrap64 (m + 1 + 2 * (pre.length : Int) + 1) = m + 2 * ((pre.length : Int) + 1) := by rw [w64 (by omega) (by omega)]; omega
    have e3 : rd_T59 (l.set pre.length (⟨m + 2 * (pre.length : Int), (rd_T59 l (pre.length : Int)).f1⟩ : Cell)) (pre.length : Int) = ⟨m + 2 * (pre.length : Int), (rd_T59 l (pre.length : Int)).f1⟩ := by
      simp [rd_T59, List.getD, hl, hp]
    simp only [laws_markCellS.l0, hlt, pre_0, if_true, Option.bind_some, Int.toNat_natCast, e3, List.set_set, e1, e2, pre_w hx hs]
    refine Ev.of_eq (ih (l.set pre.length ⟨m + 2 * (pre.length : Int), m + 1 + 2 * (pre.length : Int)⟩, m + 2 * ((pre.length : Int) + 1)) ⟨by simpa using hl, by simp⟩) ?_
    refine Prod.ext rfl ?_
    simp only [List.length_append, List.length_singleton]
    rw [List.take_add_one, List.getElem?_set_self (by omega), List.take_set_of_le (Nat.le_refl _), List.drop_eq_getElem_cons (i := pre.length) (by rw [markedCF_len]; omega)]
    have := markedCF_get m a.length pre.length hp
    rw [List.getElem?_eq_getElem (by rw [markedCF_len]; omega)] at this
    simp [Option.some.inj this]
theorem heldCellS_fromC (m : Int) (n : Nat) (h0 : 0 ≤ m) (h1 : m ≤ 4611686018427387904) (hn : n ≤ 1048576) : Ev (fun k => laws_heldCellS.f k (markedCF m n) m) (m + 2 * (n : Int)) := by
  unfold laws_heldCellS.f
  have hs : small (markedCF m n) := by unfold small; rw [markedCF_len]; omega
  refine loop_list (markedCF m n) (fun k i (s : Int) => laws_heldCellS.l0 k (markedCF m n) s i) (fun _ _ _ => m + 2 * (n : Int)) (fun pre s => s = m + 2 * (pre.length : Int)) ?_ ?_ m (by simp)
  · rintro s rfl
    simp only [laws_heldCellS.l0, len_lt, if_false]
    rw [markedCF_len]
    exact Ev.now _
  · rintro pre c suf s hx rfl ih
    have hp := pre_len hx
    rw [markedCF_len] at hp
    have hc := pre_get hx
    rw [markedCF_get m n _ hp] at hc
    have hc := Option.some.inj hc
    have e1 : wrap64 (m + 2 * (pre.length : Int) + 1) = m + 1 + 2 * (pre.length : Int) := by rw [w64 (by omega) (by omega)]; omega
    have e2 : wrap64 (m + 1 + 2 * (pre.length : Int) + 1) = m + 2 * ((pre.length : Int) + 1) := by rw [w64 (by omega) (by omega)]; omega
    simp only [laws_heldCellS.l0, pre_lt hx, pre_0, if_true, at_pre hx, ← hc, e1, e2, pre_w hx hs]
    exact ih _ (by simp)
def totSS : List (List Cell) → Nat
  | [] => 0
  | x :: r => x.length + totSS r
def mkSS : List (List Cell) → Int → List (List Cell)
  | [], _ => []
  | x :: r, m => markedCF m x.length :: mkSS r (m + 2 * (x.length : Int))
theorem mkSS_len : ∀ (L : List (List Cell)) (m : Int), (mkSS L m).length = L.length
  | [], _ => rfl
  | x :: r, m => by unfold mkSS; rw [List.length_cons, List.length_cons, mkSS_len r]
def fitsSS (L : List (List Cell)) : Prop := L.length ≤ 1048576 ∧ (∀ x ∈ L, fits x) ∧ totSS L ≤ 1000000000000
theorem markSS_l : ∀ (suf pre : List (List Cell)) (m : Int), (pre ++ suf).length ≤ 1048576 → (∀ x ∈ suf, fits x) → 0 ≤ m → m + 2 * (totSS suf : Int) ≤ 4611686018427387904 →
    Ev (fun k => laws_markCellSS.l0 k (pre ++ suf) m (pre.length : Int)) (m + 2 * (totSS suf : Int), pre ++ mkSS suf m)
  | [], pre, m, hl, hf, h0, h1 => by
    refine Ev.succ ?_
    simp only [laws_markCellSS.l0]
    refine Ev.neg (by simp) (Ev.of_eq (Ev.now _) ?_)
    simp [totSS, mkSS]
  | x :: suf, pre, m, hl, hf, h0, h1 => by
    refine Ev.succ ?_
    have hl' := hl
    simp only [List.length_append, List.length_cons] at hl'
    simp only [totSS] at h1 ⊢
    have hg : (pre ++ x :: suf).getD (pre.length : Int).toNat [] = x := getD_at pre suf x _
    have hset (y : List Cell) : (pre ++ x :: suf).set (pre.length : Int).toNat y = (pre ++ [y]) ++ suf := by simp
    simp only [laws_markCellSS.l0, hg, hset]
    refine Ev.pos (by simp; omega) (Ev.pos (by omega) (Ev.bind (markCellS_from x m h0 (by omega) (hf x List.mem_cons_self)) ?_))
    have ew : wrap64 ((pre.length : Int) + 1) = ((pre ++ [markedCF m x.length]).length : Int) := by rw [w64 (by omega) (by omega)]; simp
    simp only [ew]
    refine Ev.of_eq (markSS_l suf (pre ++ [markedCF m x.length]) (m + 2 * (x.length : Int)) (by simp; omega) (fun y hy => hf y (List.mem_cons_of_mem _ hy)) (by omega) (by omega)) ?_
    refine Prod.ext ?_ ?_
    · simp only; omega
    · simp [mkSS]
theorem markSS_ev (L : List (List Cell)) (m : Int) (hf : fitsSS L) (h0 : 0 ≤ m) (h1 : m ≤ 1000000000000) : Ev (fun k => laws_markCellSS.f k L m) (m + 2 * (totSS L : Int), mkSS L m) := by
  have := hf.2.2
  exact markSS_l L [] m hf.1 hf.2.1 h0 (by omega)
theorem heldSS_l (X : List (List Cell)) (hX : X.length ≤ 1048576) : ∀ (L pre : List (List Cell)) (m : Int), X = pre ++ mkSS L m → (∀ x ∈ L, fits x) → 0 ≤ m → m + 2 * (totSS L : Int) ≤ 4611686018427387904 →
    Ev (fun k => laws_heldCellSS.l0 k X m (pre.length : Int)) (m + 2 * (totSS L : Int))
  | [], pre, m, hx, hf, h0, h1 => by
    refine Ev.succ ?_
    have hp := congrArg List.length hx
    simp only [mkSS, List.length_append, List.length_nil] at hp
    simp only [laws_heldCellSS.l0]
    refine Ev.neg (by omega) (Ev.of_eq (Ev.now _) (by simp [totSS]))
  | x :: L, pre, m, hx, hf, h0, h1 => by
    refine Ev.succ ?_
    have hs : small X := by unfold small; omega
    have hx2 : X = pre ++ markedCF m x.length :: mkSS L (m + 2 * (x.length : Int)) := hx
    simp only [totSS] at h1 ⊢
    have hr : rd_L2 X (pre.length : Int) = markedCF m x.length := by rw [hx2]; exact getD_at _ _ _ _
    simp only [laws_heldCellSS.l0, pre_lt hx2, pre_0, if_true, hr, pre_w hx2 hs]
    refine Ev.bind (heldCellS_fromC m x.length h0 (by omega) (hf x List.mem_cons_self)) (Ev.neg (by omega) ?_)
    have ih := heldSS_l X hX L (pre ++ [markedCF m x.length]) (m + 2 * (x.length : Int)) (by rw [hx2]; simp) (fun y hy => hf y (List.mem_cons_of_mem _ hy)) (by omega) (by omega)
    simp only [List.length_append, List.length_singleton, Int.natCast_add] at ih
    refine Ev.of_eq ih ?_
    omega
theorem heldSS_ev (L : List (List Cell)) (m : Int) (hf : fitsSS L) (h0 : 0 ≤ m) (h1 : m ≤ 1000000000000) : Ev (fun k => laws_heldCellSS.f k (mkSS L m) m) (m + 2 * (totSS L : Int)) := by
  have := hf.2.2
  exact heldSS_l (mkSS L m) (by rw [mkSS_len]; exact hf.1) L [] m rfl hf.2.1 h0 (by omega)
theorem eqSS_ev (a : List (List Cell)) (hs : small a) (h : ∀ x ∈ a, small x) : Ev (fun k => laws_eqCellSS.f k a a) true := by
  unfold laws_eqCellSS.f
  refine Ev.pos rfl ?_
  refine loop_list a (fun k i (_ : Unit) => laws_eqCellSS.l0 k a a i) (fun _ _ _ => true) (fun _ _ => True) ?_ ?_ () trivial
  · intro _ _
    simp only [laws_eqCellSS.l0, len_lt, if_false]
    exact Ev.now _
  · intro pre c suf _ hx _ ih
    have hr : rd_L2 a (pre.length : Int) = c := by rw [hx]; exact getD_at pre suf c _
    simp only [laws_eqCellSS.l0, pre_lt hx, pre_0, if_true, hr, pre_w hx hs]
    exact Ev.bind (eqCellS_ev c (h c (by rw [hx]; simp))) (Ev.pos rfl (ih () trivial))
theorem totSS_le (m : Nat) : ∀ L : List (List Cell), (∀ x ∈ L, x.length ≤ m) → totSS L ≤ m * L.length
  | [], _ => Nat.zero_le _
  | x :: r, h => by
    have h1 := h x List.mem_cons_self
    have h2 := totSS_le m r fun y hy => h y (List.mem_cons_of_mem _ hy)
    rw [totSS, List.length_cons, Nat.mul_succ]
    omega
end Go.Proofs.Ytfdfdifjkaaeoaa.L
end
section
namespace Go.Proofs.Ytfdfdifjkaaeoaa.L
open Go.RowKit Go.Proofs.YtfdfdifjkaaeoaaW.PrintWords Go.Proofs.YtfdfdifjkaaeoaaW.PrintLast Go.Proofs.YtfdfdifjkaaeoaaW.PrintMore Go.Proofs.Ytfdfdifjkaaeoaa.F
set_option linter.unusedVariables false
set_option linter.unusedSimpArgs false
def formsR (l : List Cell) (n : Int) (b : Bool) : List (List Cell) × Int := if pieceB l n = true then (pieceF l b, 0) else ([], 1)
theorem specFormsR_ev (l : List Cell) (n : Int) (b : Bool) (hl : l.length ≤ 1048576) : Ev (fun k => spec_FormsOfPiece.f k l n b) (formsR l n b) := by
  unfold spec_FormsOfPiece.f formsR
  exact Ev.bind (specIsPiece_ev l n b hl) (Ev.if_ (fun h => Ev.bind (specPieceF_ev l n b hl (piece_pos h)) (Ev.now _)) (fun _ => Ev.now _))
theorem implFormsR_ev (l : List Cell) (n : Int) (b : Bool) (hl : l.length ≤ 1048576) : Ev (fun k => impl_FormsOfPiece.f k l n b) (formsR l n b) := by
  unfold impl_FormsOfPiece.f formsR
  exact Ev.bind (implIsPiece_ev l n b hl) (Ev.if_ (fun h => Ev.bind (implPieceF_ev l n b hl (piece_pos h)) (Ev.now _)) (fun _ => Ev.now _))
theorem formsR_len (l : List Cell) (n : Int) (b : Bool) : (formsR l n b).1.length ≤ 8 := by
  unfold formsR
  split
  · exact pieceF_len l b
  · simp
theorem formsR_mem {l : List Cell} {n : Int} {b : Bool} : ∀ x ∈ (formsR l n b).1, x.length ≤ l.length := by
  unfold formsR
  split
  · intro x hx; exact Nat.le_of_eq (pieceF_mem x hx)
  · simp
end Go.Proofs.Ytfdfdifjkaaeoaa.L
namespace Go.Proofs.Ytfdfdifjkaaeoaa.Pure
open Go.RowKit Go.Proofs.YtfdfdifjkaaeoaaW.PrintWords Go.Proofs.Ytfdfdifjkaaeoaa.F Go.Proofs.Ytfdfdifjkaaeoaa.L
set_option linter.unusedVariables false
theorem FnExactFormsOfPiece (l : List LCell) (n : Int) (b : Bool) (hv : V47 ⟨l, n, b⟩) : ∃ k, laws_FnExactFormsOfPiece.f k l n b = some true := by
  have hv1 : l.length ≤ 9223372036854775807 := hv.1.1
  refine Ev.rounds ?_
  unfold laws_FnExactFormsOfPiece.f laws_szPiece.f
  rw [szCellS_eq l 1048576 (by decide) (by decide) hv1]
  simp only [Option.bind_some]
  by_cases h : (1048576 : Int) - (l.length : Int) < 0
  · rw [if_pos h]
    simp only [show ((-1 : Int) < 0) = True by simp, if_true, Option.bind_some]
    exact Ev.now _
  · rw [if_neg h]
    simp only [h, if_false, Option.bind_some]
    have la : l.length ≤ 1048576 := by omega
    have lm : (l.map cellOf).length ≤ 1048576 := by simpa using la
    have hs : small (l.map cellOf) := by unfold small; omega
    have hf : fits (l.map cellOf) := lm
    have hR : ∀ x ∈ (formsR (l.map cellOf) n b).1, x.length ≤ 1048576 := fun x hx => Nat.le_trans (formsR_mem x hx) lm
    have hL := formsR_len (l.map cellOf) n b
    have hLs : small (formsR (l.map cellOf) n b).1 := by unfold small; omega
    have hRs : ∀ x ∈ (formsR (l.map cellOf) n b).1, small x := fun x hx => by have := hR x hx; unfold small; omega
    have hT := totSS_le 1048576 _ hR
    have hF : fitsSS (formsR (l.map cellOf) n b).1 := ⟨by omega, hR, by
      have := Nat.mul_le_mul_left 1048576 hL
      omega⟩
    have tz := toPiece_ev l n b la
    refine Ev.bind tz (Ev.bind (specFormsR_ev _ n b lm) (Ev.bind tz (Ev.bind (implFormsR_ev _ n b lm) (Ev.bind (eqSS_ev _ hLs hRs) (Ev.pos rfl ?_)))))
    refine Ev.step (fun k => laws_FnExactFormsOfPiece.j0.eq_2 _ _ _ _ _ _ _ _ _ _ _ _) (Ev.neg (by simp) ?_)
    have hm : Ev (fun k => laws_markPiece.f k (l.map cellOf) n b 1) (1 + 2 * ((l.map cellOf).length : Int), markedCF 1 (l.map cellOf).length) := by
      unfold laws_markPiece.f
      exact Ev.bind (markCellS_from _ 1 (by decide) (by decide) hf) (Ev.now _)
    refine Ev.bind tz (Ev.bind (eqPiece_ev _ n b hs) (Ev.pos rfl (Ev.bind hm (Ev.neg (by simp; omega) (Ev.bind (eqSS_ev _ hLs hRs) (Ev.pos rfl ?_))))))
    refine Ev.step (fun k => laws_FnExactFormsOfPiece.j1.eq_2 _ _ _ _ _ _ _ _) (Ev.neg (by simp) ?_)
    refine Ev.bind (markSS_ev _ 1 hF (by decide) (by decide)) (Ev.bind (heldSS_ev _ 1 hF (by decide) (by decide)) (Ev.neg (by omega) (Ev.pos rfl ?_)))
    refine Ev.bind tz (Ev.bind (implFormsR_ev _ n b lm) (Ev.bind (eqSS_ev _ hLs hRs) (Ev.pos rfl ?_)))
    refine Ev.step (fun k => laws_FnExactFormsOfPiece.j2.eq_2 _ _ _ _) (Ev.neg (by simp) ?_)
    exact Ev.bind (heldSS_ev _ 1 hF (by decide) (by decide)) (Ev.neg (by omega) (Ev.pos rfl (Ev.now _)))
end Go.Proofs.Ytfdfdifjkaaeoaa.Pure
end
