/- The row of FnExactDoesFit, with what it needs: text 11 of 12. -/
import Derived.Test.YtfdfdifjkaaeoaaGreatKDF9
set_option maxHeartbeats 8000000
set_option maxRecDepth 100000
section
namespace Go.Proofs.YtfdfdifjkaaeoaaGreat.L
open Go.RowKit Go.Proofs.YtfdfdifjkaaeoaaGreatW.PrintWords Go.Proofs.YtfdfdifjkaaeoaaGreatW.PrintLast Go.Proofs.YtfdfdifjkaaeoaaGreatW.PrintMore Go.Proofs.YtfdfdifjkaaeoaaGreat.F
set_option linter.unusedVariables false
set_option linter.unusedSimpArgs false
theorem addL_asc {l : List (List Cell)} {x : List Cell} (h : asc l) : asc (addL l x) := by
  unfold addL
  by_cases hx : x ∈ l
  · rw [if_pos hx]; exact h
  · rw [if_neg hx]; exact insS_asc x l h hx
theorem addL_len (l : List (List Cell)) (x : List Cell) : (addL l x).length ≤ l.length + 1 := by
  unfold addL
  split
  · omega
  · rw [insS_len]; exact Nat.le_refl _
theorem specAdd_ev (l : List (List Cell)) (x : List Cell) (hl : l.length ≤ 1000000000) (hx_ : small x) : Ev (fun k => spec_l03Add.f k l x) (addL l x) := by
  have hs : small l := by unfold small; omega
  unfold spec_l03Add.f
  have key := loop_list l (fun k i (s : List (List Cell) × Bool) => spec_l03Add.l0 k l x s.1 s.2 i) (fun pre suf s => if x ∈ suf then l else if s.2 = true then s.1 ++ suf else s.1 ++ insS x suf) (fun pre s => s.1.length ≤ pre.length + 1 ∧ (s.2 = false → s.1.length ≤ pre.length)) ?_ ?_ ([], false) ⟨by simp, fun _ => by simp⟩
  · refine Ev.of_eq key ?_
    simp [addL]
  · rintro ⟨s, b⟩ ⟨hi, hj⟩
    simp only at hi hj
    simp only [spec_l03Add.l0, len_lt, if_false]
    cases b
    · refine Ev.neg (by simp) (Ev.pos (by omega) (Ev.of_eq (Ev.now _) ?_))
      simp [insS]
    · refine Ev.pos rfl (Ev.of_eq (Ev.now _) ?_)
      simp
  · rintro pre c suf ⟨s, b⟩ hx ⟨hi, hj⟩ ih
    have hp := pre_len hx
    simp only at hi hj
    simp only [spec_l03Add.l0, pre_lt hx, pre_0, if_true, at_preL2 hx, pre_w hx hs]
    refine Ev.bind (specCompare_ev x c hx_) ?_
    by_cases h0 : cmpS x c = 0
    · have e := (cmpS_zero x c).1 h0
      refine Ev.pos h0 (Ev.of_eq (Ev.now _) ?_)
      simp [e]
    · have hne : x ≠ c := fun e => h0 ((cmpS_zero x c).2 e)
      refine Ev.neg h0 ?_
      by_cases h1 : cmpS x c < 0
      · refine Ev.pos h1 ?_
        cases b
        · refine Ev.neg (by simp) (Ev.pos (by omega) ?_)
          have hj' := hj rfl
          refine Ev.pos (by simp; omega) (Ev.of_eq (ih ((s ++ [x]) ++ [c], true) ⟨by simp; omega, fun h => by cases h⟩) ?_)
          simp [insS, h1, hne]
        · refine Ev.pos rfl (Ev.pos (by omega) (Ev.of_eq (ih (s ++ [c], true) ⟨by simp; omega, fun h => by cases h⟩) ?_))
          simp [hne]
      · refine Ev.neg h1 (Ev.pos (by omega) (Ev.of_eq (ih (s ++ [c], b) ⟨by simp; omega, fun h => by have := hj h; simp; omega⟩) ?_))
        cases b
        · simp [insS, h1, hne]
        · simp [hne]
def insC (c : Cell) : List Cell → List Cell
  | [] => [c]
  | a :: r => if ltC c a then c :: a :: r else a :: insC c r
theorem insC_perm (c : Cell) : ∀ l : List Cell, (insC c l).Perm (c :: l)
  | [] => List.Perm.refl _
  | a :: r => by
    unfold insC
    split
    · exact List.Perm.refl _
    · exact ((insC_perm c r).cons a).trans (List.Perm.swap c a r)
theorem insC_sorted (c : Cell) : ∀ l : List Cell, (l.Pairwise fun a b => ¬ ltC b a) → (insC c l).Pairwise fun a b => ¬ ltC b a
  | [], _ => by simp [insC]
  | a :: r, h => by
    obtain ⟨h1, h2⟩ := List.pairwise_cons.1 h
    unfold insC
    split
    · rename_i hc
      refine List.pairwise_cons.2 ⟨fun b hb => ?_, h⟩
      rcases List.mem_cons.1 hb with rfl | hb
      · unfold ltC at *; omega
      · have := h1 b hb
        unfold ltC at *; omega
    · rename_i hc
      refine List.pairwise_cons.2 ⟨fun b hb => ?_, insC_sorted c r h2⟩
      rcases List.mem_cons.1 ((insC_perm c r).mem_iff.1 hb) with rfl | hb
      · exact hc
      · exact h1 b hb
theorem specInsert_ev (l : List Cell) (c : Cell) (hl : l.length ≤ 1048576) : Ev (fun k => spec_l02Insert.f k l c.f0 c.f1) (insC c l) := by
  have hs : small l := by unfold small; omega
  unfold spec_l02Insert.f
  have := loop_list l (fun k i (s : List Cell × Bool) => spec_l02Insert.l0 k l s.1 s.2 i c.f0 c.f1) (fun pre suf s => if s.2 = true then s.1 ++ suf else s.1 ++ insC c suf) (fun pre s => s.1.length ≤ pre.length + 1 ∧ (s.2 = false → s.1.length = pre.length)) ?_ ?_ ([], false) ⟨by simp, fun _ => rfl⟩
  · simpa using this
  · rintro ⟨s, b⟩ ⟨h1, h2⟩
    simp only at h1 h2
    simp only [spec_l02Insert.l0, len_lt, if_false]
    cases b
    · refine Ev.neg (by simp) (Ev.pos (by omega) (Ev.of_eq (Ev.now _) ?_))
      simp [insC]
    · refine Ev.pos rfl (Ev.of_eq (Ev.now _) ?_)
      simp
  · rintro pre d suf ⟨s, b⟩ hx ⟨h1, h2⟩ ih
    have hp := pre_len hx
    simp only at h1 h2
    simp only [spec_l02Insert.l0, pre_lt hx, pre_0, if_true, at_pre hx, pre_w hx hs]
    cases b
    · refine Ev.neg (by simp) ?_
      simp only [l02Less_eq, Option.bind_some]
      have h2' := h2 rfl
      by_cases hd : ltC c d
      · have hd' : c.f1 < d.f1 ∨ c.f1 = d.f1 ∧ c.f0 < d.f0 := hd
        refine Ev.pos (by simpa using hd') (Ev.pos (by omega) ?_)
        refine Ev.pos (by simp; omega) (Ev.of_eq (ih ((s ++ [(⟨c.f0, c.f1⟩ : Cell)]) ++ [(⟨d.f0, d.f1⟩ : Cell)], true) ⟨by simp; omega, fun h => by cases h⟩) ?_)
        simp [insC, hd]
      · have hd' : ¬ (c.f1 < d.f1 ∨ c.f1 = d.f1 ∧ c.f0 < d.f0) := hd
        refine Ev.neg (by simpa using hd') (Ev.pos (by omega) (Ev.of_eq (ih (s ++ [(⟨d.f0, d.f1⟩ : Cell)], false) ⟨by simp; omega, fun _ => by simp; omega⟩) ?_))
        simp [insC, hd]
    · refine Ev.pos rfl (Ev.pos (by omega) (Ev.of_eq (ih (s ++ [(⟨d.f0, d.f1⟩ : Cell)], true) ⟨by simp; omega, fun h => by cases h⟩) ?_))
      simp
def insAll : List Cell → List Cell → List Cell
  | acc, [] => acc
  | acc, c :: r => insAll (insC c acc) r
theorem insAll_spec : ∀ (l acc : List Cell), (acc.Pairwise fun a b => ¬ ltC b a) → (insAll acc l).Perm (acc ++ l) ∧ (insAll acc l).Pairwise fun a b => ¬ ltC b a
  | [], acc, h => ⟨by simp [insAll], h⟩
  | c :: r, acc, h => by
    obtain ⟨h1, h2⟩ := insAll_spec r (insC c acc) (insC_sorted c acc h)
    refine ⟨h1.trans ?_, h2⟩
    refine ((insC_perm c acc).append_right r).trans ?_
    exact List.perm_middle.symm
theorem specSortI_ev (l : List Cell) (hl : l.length ≤ 1048576) : Ev (fun k => spec_l02Sort.f k l) (insAll [] l) := by
  have hs : small l := by unfold small; omega
  unfold spec_l02Sort.f
  refine loop_list l (fun k i (s : List Cell) => spec_l02Sort.l0 k l s i) (fun pre suf s => insAll s suf) (fun pre s => s.length = pre.length) ?_ ?_ [] rfl
  · intro s _
    simp only [spec_l02Sort.l0, len_lt, if_false]
    exact Ev.now _
  · intro pre c suf s hx hi ih
    have hp := pre_len hx
    simp only [spec_l02Sort.l0, pre_lt hx, pre_0, if_true, at_pre hx, pre_w hx hs]
    refine Ev.bind (specInsert_ev s c (by omega)) (ih _ ?_)
    rw [(insC_perm c s).length_eq]
    simp [hi]
theorem insAll_eq (l : List Cell) : insAll [] l = sortC l := by
  obtain ⟨h1, h2⟩ := insAll_spec l [] List.Pairwise.nil
  exact (sortC_eq (by simpa using h1) h2).symm
theorem specSort_ev (l : List Cell) (hl : l.length ≤ 1048576) : Ev (fun k => spec_l02Sort.f k l) (sortC l) := by
  rw [← insAll_eq]
  exact specSortI_ev l hl
theorem formC_len (l : List Cell) (t : Int) : (formC l t).length = l.length := by unfold formC; rw [normalL_len, sortC_len]; simp
theorem implForm8_ev (l : List Cell) (t : Int) (ht : 0 ≤ t) (hl : l.length ≤ 1048576) (h0 : 0 < l.length) : Ev (fun k => impl_form.f k l t) (formC l t) := by
  have hs : small l := by unfold small; omega
  unfold impl_form.f formC
  refine Ev.pos (by omega) (Ev.pos (by omega) ?_)
  have := loop_list l (fun k i (s : List Cell) => impl_form.l0 k t s l (l.length : Int) i) (fun pre suf s => normalL (sortC (s ++ suf.map (turnD t)))) (fun pre s => s.length = pre.length) ?_ ?_ [] rfl
  · simpa using this
  · intro s hi
    have hi' : s.length = l.length := hi
    simp only [impl_form.l0, len_lt, if_false, implSorted_eq s (by omega) (by omega), Option.bind_some]
    exact Ev.bind (implNormal_ev _ (by rw [sortC_len]; omega) (by rw [sortC_len]; omega)) (Ev.of_eq (Ev.now _) (by simp))
  · intro pre c suf s hx hi ih
    have hp := pre_len hx
    simp only [impl_form.l0, pre_lt hx, pre_0, if_true, at_pre hx, pre_w hx hs]
    refine Ev.bind (implTurn_ev c t ht) (Ev.pos (by omega) (Ev.of_eq (ih (s ++ [turnD t c]) (by simp [hi])) (by simp)))
theorem specForm8_ev (l : List Cell) (t : Int) (ht : 0 ≤ t) (hl : l.length ≤ 1048576) (h0 : 0 < l.length) : Ev (fun k => spec_l03Form.f k l t) (formC l t) := by
  have hs : small l := by unfold small; omega
  unfold spec_l03Form.f formC
  have := loop_list l (fun k i (s : List Cell) => spec_l03Form.l0 k l t s i) (fun pre suf s => normalL (sortC (s ++ suf.map (turnD t)))) (fun pre s => s.length = pre.length) ?_ ?_ [] rfl
  · simpa using this
  · intro s hi
    have hi' : s.length = l.length := hi
    simp only [spec_l03Form.l0, len_lt, if_false]
    exact Ev.bind (specSort_ev s (by omega)) (Ev.bind (specNormal_ev _ (by rw [sortC_len]; omega) (by rw [sortC_len]; omega)) (Ev.of_eq (Ev.now _) (by simp)))
  · intro pre c suf s hx hi ih
    have hp := pre_len hx
    simp only [spec_l03Form.l0, pre_lt hx, pre_0, if_true, at_pre hx, pre_w hx hs]
    refine Ev.bind (specTurn_ev c t ht) (Ev.pos (by omega) (Ev.of_eq (ih (s ++ [turnD t c]) (by simp [hi])) (by simp)))
def formsC (l : List Cell) : Nat → Int → List (List Cell)
  | 0, _ => []
  | n + 1, t => formC l t :: formsC l n (t + 1)
theorem formsC_len (l : List Cell) : ∀ (n : Nat) (t : Int), (formsC l n t).length = n
  | 0, _ => rfl
  | n + 1, t => by unfold formsC; rw [List.length_cons, formsC_len l n]
theorem formsC_mem (l : List Cell) : ∀ (n : Nat) (t : Int), ∀ x ∈ formsC l n t, x.length = l.length
  | 0, _, x, h => by simp [formsC] at h
  | n + 1, t, x, h => by
    unfold formsC at h
    rcases List.mem_cons.1 h with rfl | h
    · exact formC_len l t
    · exact formsC_mem l n _ x h
theorem implForms8_l (l : List Cell) (m : Int) (hm : m ≤ 8) (hl : l.length ≤ 1048576) (h0 : 0 < l.length) : ∀ (n : Nat) (t : Int) (acc : List (List Cell)), 0 ≤ t → t + (n : Int) = m → acc.length + n ≤ 8 → Ev (fun k => impl_forms.l0 k l acc m t) (acc ++ formsC l n t)
  | 0, t, acc, h1, h2, h3 => by
    refine Ev.succ ?_
    simp only [impl_forms.l0]
    exact Ev.neg (by omega) (Ev.of_eq (Ev.now _) (by simp [formsC]))
  | n + 1, t, acc, h1, h2, h3 => by
    refine Ev.succ ?_
    simp only [impl_forms.l0]
    have ew : wrap64 (t + 1) = t + 1 := w64 (by omega) (by omega)
    refine Ev.pos (by omega) (Ev.bind (implForm8_ev l t h1 hl h0) (Ev.pos (by omega) ?_))
    simp only [ew]
    refine Ev.of_eq (implForms8_l l m hm hl h0 n (t + 1) (acc ++ [formC l t]) (by omega) (by omega) (by simp; omega)) ?_
    simp [formsC]
def addsC : List (List Cell) → List (List Cell) → List (List Cell)
  | acc, [] => acc
  | acc, x :: r => addsC (addL acc x) r
theorem addsC_mem {y : List Cell} : ∀ (r acc : List (List Cell)), y ∈ addsC acc r ↔ y ∈ acc ∨ y ∈ r
  | [], acc => by simp [addsC]
  | x :: r, acc => by
    rw [addsC, addsC_mem r, addL_mem, List.mem_cons]
    constructor
    · rintro ((h | h) | h)
      · exact .inr (.inl h)
      · exact .inl h
      · exact .inr (.inr h)
    · rintro (h | h | h)
      · exact .inl (.inr h)
      · exact .inl (.inl h)
      · exact .inr h
theorem addsC_asc : ∀ (r acc : List (List Cell)), asc acc → asc (addsC acc r)
  | [], acc, h => h
  | x :: r, acc, h => addsC_asc r _ (addL_asc h)
theorem specForms8_l (l : List Cell) (m : Int) (hm : m ≤ 8) (hl : l.length ≤ 1048576) (h0 : 0 < l.length) : ∀ (n : Nat) (t : Int) (acc : List (List Cell)), 0 ≤ t → t + (n : Int) = m → acc.length + n ≤ 8 → Ev (fun k => spec_l03Forms.l0 k l m acc t) (addsC acc (formsC l n t))
  | 0, t, acc, h1, h2, h3 => by
    refine Ev.succ ?_
    simp only [spec_l03Forms.l0]
    exact Ev.neg (by omega) (Ev.of_eq (Ev.now _) (by simp [formsC, addsC]))
  | n + 1, t, acc, h1, h2, h3 => by
    refine Ev.succ ?_
    simp only [spec_l03Forms.l0]
    have ew : wrap64 (t + 1) = t + 1 := w64 (by omega) (by omega)
    have hs : small (formC l t) := by unfold small; rw [formC_len]; omega
    refine Ev.pos (by omega) (Ev.bind (specForm8_ev l t h1 hl h0) (Ev.bind (specAdd_ev acc _ (by omega) hs) ?_))
    simp only [ew]
    have := addL_len acc (formC l t)
    exact specForms8_l l m hm hl h0 n (t + 1) _ (by omega) (by omega) (by omega)
def pieceF (l : List Cell) (b : Bool) : List (List Cell) := tidyL (formsC l (if b = true then 8 else 4) 0)
theorem pieceF_mem {l : List Cell} {b : Bool} : ∀ x ∈ pieceF l b, x.length = l.length := fun x hx => formsC_mem l _ _ x (tidyL_mem.1 hx)
theorem pieceF_len (l : List Cell) (b : Bool) : (pieceF l b).length ≤ 8 := by
  refine Nat.le_trans (tidyL_len _) ?_
  rw [formsC_len]
  split <;> omega
theorem implPieceF_ev (l : List Cell) (n : Int) (b : Bool) (hl : l.length ≤ 1048576) (h0 : 0 < l.length) : Ev (fun k => impl_formsOf.f k l n b) (pieceF l b) := by
  unfold impl_formsOf.f pieceF
  have key (m : Nat) (hm : m ≤ 8) (hm1 : 1 ≤ m) : Ev (fun k => (impl_forms.f k l (m : Int)).bind fun t => (impl_tidyShapes.f t).bind fun s => some s) (tidyL (formsC l m 0)) := by
    have h1 : Ev (fun k => impl_forms.f k l (m : Int)) (formsC l m 0) := by
      unfold impl_forms.f
      exact Ev.of_eq (implForms8_l l m (by omega) hl h0 m 0 [] (by omega) (by omega) (by simp; omega)) (by simp)
    refine Ev.bind h1 ?_
    rw [implTidy_eq _ (by rw [formsC_len]; omega) (by rw [formsC_len]; omega)]
    exact Ev.now _
  cases b with
  | true => exact Ev.pos rfl (key 8 (by omega) (by omega))
  | false => exact Ev.neg (by simp) (key 4 (by omega) (by omega))
theorem specPieceF_ev (l : List Cell) (n : Int) (b : Bool) (hl : l.length ≤ 1048576) (h0 : 0 < l.length) : Ev (fun k => spec_l11Forms.f k l n b) (pieceF l b) := by
  unfold spec_l11Forms.f pieceF
  have key (m : Nat) (hm : m ≤ 8) (hm1 : 1 ≤ m) : Ev (fun k => (spec_l03Forms.f k l (m : Int)).bind fun t => some t) (tidyL (formsC l m 0)) := by
    have h1 : Ev (fun k => spec_l03Forms.f k l (m : Int)) (addsC [] (formsC l m 0)) := by
      unfold spec_l03Forms.f
      exact specForms8_l l m (by omega) hl h0 m 0 [] (by omega) (by omega) (by simp; omega)
    have e : addsC [] (formsC l m 0) = tidyL (formsC l m 0) := by
      refine asc_eq _ _ (addsC_asc _ _ List.Pairwise.nil) (tidyL_asc _) fun x => ?_
      rw [addsC_mem, tidyL_mem]
      simp
    rw [e] at h1
    exact Ev.bind h1 (Ev.now _)
  cases b with
  | true => exact Ev.pos rfl (key 8 (by omega) (by omega))
  | false => exact Ev.neg (by simp) (key 4 (by omega) (by omega))
theorem equalC_ev (a b : List Cell) (ha : small a) : Ev (fun k => impl_Cell_49.f k a b) (decide (a = b)) := by
  unfold impl_Cell_49.f
  by_cases hl : a.length = b.length
  · refine Ev.pos (by omega) ?_
    refine loop_list a (fun k i (_ : Unit) => impl_Cell_49.l0 k a b (a.length : Int) i) (fun pre suf _ => decide (suf = b.drop pre.length)) (fun _ _ => True) ?_ ?_ () trivial
    · intro _ _
      simp only [impl_Cell_49.l0, len_lt, if_false]
      refine Ev.of_eq (Ev.now _) ?_
      rw [hl, List.drop_length]
      simp
    · intro pre c suf _ hx _ ih
      have hp := pre_len hx
      have hpb : pre.length < b.length := by omega
      have hlt : ((pre.length : Int) < (b.length : Int)) = True := by simp; omega
      have eb : rd_T58 b (pre.length : Int) = b[pre.length] := by
        unfold rd_T58
        rw [List.getD_eq_getElem?_getD, Int.toNat_natCast, List.getElem?_eq_getElem hpb]
        rfl
      simp only [impl_Cell_49.l0, pre_lt hx, pre_0, if_true, hlt, at_pre hx, pre_w hx ha, eb]
      rw [List.drop_eq_getElem_cons hpb]
      by_cases he : c = b[pre.length]
      · refine Ev.neg (by rw [← he]; simp) (Ev.of_eq (ih () trivial) ?_)
        rw [List.length_append, List.length_singleton]
        generalize b.drop (pre.length + 1) = R
        rw [← he]
        simp only [List.cons.injEq, true_and]
      · refine Ev.pos ?_ (Ev.of_eq (Ev.now _) ?_)
        · refine Decidable.byContradiction fun h => he ?_
          generalize b[pre.length] = d at h
          obtain ⟨c0, c1⟩ := c
          obtain ⟨d0, d1⟩ := d
          simp at h
          simp [h]
        · generalize b.drop (pre.length + 1) = R
          simp only [List.cons.injEq, he, false_and, decide_false]
  · refine Ev.neg (by omega) (Ev.of_eq (Ev.now _) ?_)
    have : a ≠ b := fun e => hl (by rw [e])
    simp [this]
def meetF (a b : List (List Cell)) : Bool := a.any fun x => b.any fun y => decide (cmpS x y = 0)
theorem at_preSS {xs pre suf : List (List Cell)} {c : List Cell} (h : xs = pre ++ c :: suf) : rd_L2 xs (pre.length : Int) = c := by
  subst h; exact getD_at pre suf c _
theorem specAlike_ev (l : List Cell) (n : Int) (p : Bool) (m : List Cell) (q : Int) (b : Bool) (hl : l.length ≤ 1048576) (hm : m.length ≤ 1048576) (h0 : 0 < l.length) (h1 : 0 < m.length) : Ev (fun k => spec_l11Alike.f k l n p m q b) (meetF (pieceF l p) (pieceF m b)) := by
  unfold spec_l11Alike.f
  have s1 : small (pieceF l p) := by have := pieceF_len l p; unfold small; omega
  have s2 : small (pieceF m b) := by have := pieceF_len m b; unfold small; omega
  have sx : ∀ x ∈ pieceF l p, small x := fun x hx => by have := pieceF_mem x hx; unfold small; omega
  refine Ev.bind (specPieceF_ev l n p hl h0) (Ev.bind (specPieceF_ev m q b hm h1) ?_)
  generalize pieceF l p = A at s1 sx ⊢
  generalize pieceF m b = B at s2 ⊢
  refine loop_list A (fun k i (_ : Unit) => spec_l11Alike.l0 k A B i) (fun _ suf _ => meetF suf B) (fun _ _ => True) ?_ ?_ () trivial
  · intro _ _
    simp only [spec_l11Alike.l0, len_lt, if_false]
    exact Ev.of_eq (Ev.now _) (by simp [meetF])
  · intro pre x suf _ hx _ ih
    simp only [spec_l11Alike.l0, pre_lt hx, if_true]
    have := loop_list B (fun k j (_ : Unit) => spec_l11Alike.l1 k A B (pre.length : Int) j) (fun _ suf2 _ => (suf2.any fun y => decide (cmpS x y = 0)) || meetF suf B) (fun _ _ => True) ?_ ?_ () trivial
    · refine Ev.of_eq this ?_
      simp [meetF]
    · intro _ _
      simp only [spec_l11Alike.l1, len_lt, if_false, pre_w hx s1]
      exact Ev.of_eq (ih () trivial) (by simp)
    · intro pre2 y suf2 _ hx2 _ ih2
      simp only [spec_l11Alike.l1, pre_lt hx2, pre_lt hx, pre_0, if_true, at_preSS hx2, at_preSS hx, pre_w hx2 s2]
      refine Ev.bind (specCompare_ev x y (sx x (by rw [hx]; simp))) ?_
      by_cases hc : cmpS x y = 0
      · exact Ev.pos hc (Ev.of_eq (Ev.now _) (by simp [hc]))
      · exact Ev.neg hc (Ev.of_eq (ih2 () trivial) (by simp [hc]))
theorem all_someL {α : Type} {f : Nat → α → Option Bool} {g : α → Bool} : ∀ (l : List α), (∀ x ∈ l, Ev (fun k => f k x) (g x)) → ∃ n, ∀ k, n ≤ k → ∀ x ∈ l, f k x = some (g x)
  | [], _ => ⟨0, fun _ _ x hx => by simp at hx⟩
  | a :: r, h => by
    obtain ⟨n, hn⟩ := all_someL r fun x hx => h x (List.mem_cons_of_mem _ hx)
    obtain ⟨m, hm⟩ := h a List.mem_cons_self
    refine ⟨n + m, fun k hk x hx => ?_⟩
    rcases List.mem_cons.1 hx with rfl | hx
    · exact hm k (by omega)
    · exact hn k (by omega) x hx
theorem implAlike_ev (l : List Cell) (n : Int) (p : Bool) (m : List Cell) (q : Int) (b : Bool) (hl : l.length ≤ 1048576) (hm : m.length ≤ 1048576) (h0 : 0 < l.length) (h1 : 0 < m.length) : Ev (fun k => impl_alike.f k l n p m q b) (meetF (pieceF l p) (pieceF m b)) := by
  unfold impl_alike.f
  have s1 := pieceF_len l p
  have s2 := pieceF_len m b
  have sx : ∀ x ∈ pieceF l p, small x := fun x hx => by have := pieceF_mem x hx; unfold small; omega
  refine Ev.bind (implPieceF_ev m q b hm h1) (Ev.bind (implPieceF_ev l n p hl h0) ?_)
  generalize pieceF l p = A at s1 sx ⊢
  generalize pieceF m b = B at s2 ⊢
  obtain ⟨K, hK⟩ := all_someL (f := fun k (xy : List Cell × List Cell) => impl_Cell_49.f k xy.1 xy.2) (g := fun xy => decide (xy.1 = xy.2)) (A.flatMap fun x => B.map fun y => (x, y)) (fun xy hxy => by
    obtain ⟨x, hx, h⟩ := List.mem_flatMap.1 hxy
    obtain ⟨y, hy, rfl⟩ := List.mem_map.1 h
    exact Ev.of_eq (equalC_ev x y (sx x hx)) (by by_cases hh : x = y <;> simp [hh]))
  refine ⟨K, fun k hk => ?_⟩
  have h (x : List Cell) (hx : x ∈ A) (y : List Cell) (hy : y ∈ B) : impl_Cell_49.f k x y = some (decide (x = y)) :=
    hK k hk (x, y) (List.mem_flatMap.2 ⟨x, hx, List.mem_map.2 ⟨y, hy, rfl⟩⟩)
  show (if (B.length ≤ 1000000000000 ∧ A.length ≤ 1000000000000) ∧ (A.all fun a => B.all fun b => (impl_Cell_49.f k a b).isSome) = true then some (A.any fun a => B.any fun b => impl_Cell_49.f k a b == some true) else none) = _
  rw [if_pos ⟨⟨by omega, by omega⟩, List.all_eq_true.2 fun x hx => List.all_eq_true.2 fun y hy => by rw [h x hx y hy]; rfl⟩]
  congr 1
  unfold meetF
  rw [Bool.eq_iff_iff, List.any_eq_true, List.any_eq_true]
  constructor
  · rintro ⟨x, hx, e⟩
    obtain ⟨y, hy, e⟩ := List.any_eq_true.1 e
    rw [h x hx y hy] at e
    refine ⟨x, hx, List.any_eq_true.2 ⟨y, hy, ?_⟩⟩
    have : x = y := by simpa using e
    simp [(cmpS_zero x y).2 this]
  · rintro ⟨x, hx, e⟩
    obtain ⟨y, hy, e⟩ := List.any_eq_true.1 e
    have : x = y := (cmpS_zero x y).1 (by simpa using e)
    refine ⟨x, hx, List.any_eq_true.2 ⟨y, hy, ?_⟩⟩
    rw [h x hx y hy, decide_eq_true this]; rfl
end Go.Proofs.YtfdfdifjkaaeoaaGreat.L
end
section
namespace Go.Proofs.YtfdfdifjkaaeoaaGreat.L
open Go.RowKit Go.Proofs.YtfdfdifjkaaeoaaGreatW.PrintWords Go.Proofs.YtfdfdifjkaaeoaaGreatW.PrintLast Go.Proofs.YtfdfdifjkaaeoaaGreatW.PrintMore Go.Proofs.YtfdfdifjkaaeoaaGreat.F
set_option linter.unusedVariables false
def aroundC (c : Cell) : List Cell := [⟨c.f0, wrap64 (c.f1 - 1)⟩, ⟨wrap64 (c.f0 - 1), c.f1⟩, ⟨wrap64 (c.f0 + 1), c.f1⟩, ⟨c.f0, wrap64 (c.f1 + 1)⟩]
theorem specAround_eq (c : Cell) : spec_l02Around.f c.f0 c.f1 = some (aroundC c) := rfl
theorem implAround_eq (c : Cell) : impl_around.f c.f0 c.f1 = some (aroundC c) := rfl
end Go.Proofs.YtfdfdifjkaaeoaaGreat.L
end
section
namespace Go.Proofs.YtfdfdifjkaaeoaaGreat.L
open Go.RowKit Go.Proofs.YtfdfdifjkaaeoaaGreatW.PrintWords Go.Proofs.YtfdfdifjkaaeoaaGreatW.PrintLast Go.Proofs.YtfdfdifjkaaeoaaGreatW.PrintMore Go.Proofs.YtfdfdifjkaaeoaaGreat.F
set_option linter.unusedVariables false
set_option linter.unusedSimpArgs false
def visit1 (l : List Cell) (i : Int) (s : List Int × List Int) (d : Cell) : List Int × List Int :=
  if idxC l d ≥ 0 ∧ rd s.1 (idxC l d) < 0 then (s.1.set (idxC l d).toNat i, s.2 ++ [idxC l d]) else s
def visit (l : List Cell) (i : Int) (ds : List Cell) (s : List Int × List Int) : List Int × List Int := ds.foldl (visit1 l i) s
def negs (o : List Int) : Nat := o.countP fun x => decide (x < 0)
structure Fine (l : List Cell) (o q : List Int) : Prop where
  len : o.length = l.length
  rng : ∀ j ∈ q, 0 ≤ j ∧ j < (l.length : Int)
theorem idxC_lt (l : List Cell) (d : Cell) : idxC l d < (l.length : Int) := by
  rcases idxC_spec l d with ⟨h, _⟩ | ⟨j, h1, h2, _⟩
  · omega
  · omega
theorem rd_set (o : List Int) (j : Nat) (i : Int) (q : Int) (hj : j < o.length) : rd (o.set j i) q = if q.toNat = j then i else rd o q := by
  unfold rd
  rw [List.getD_eq_getElem?_getD, List.getD_eq_getElem?_getD]
  by_cases h : q.toNat = j
  · rw [if_pos h, h, List.getElem?_set_self hj]; rfl
  · rw [if_neg h, List.getElem?_set_ne (by omega)]
theorem negs_set (o : List Int) (j : Int) (i : Int) (h0 : 0 ≤ j) (h1 : j < (o.length : Int)) (h : rd o j < 0) (hi : 0 ≤ i) : negs (o.set j.toNat i) + 1 = negs o := by
  have hj : j.toNat < o.length := by omega
  have hr : o[j.toNat] < 0 := by
    unfold rd at h
    rw [List.getD_eq_getElem?_getD, List.getElem?_eq_getElem hj] at h
    exact h
  unfold negs
  have hpos : 0 < o.countP fun x => decide (x < 0) := List.countP_pos_iff.2 ⟨_, List.getElem_mem hj, by simpa using hr⟩
  rw [List.countP_set hj]
  have e1 : decide (i < 0) = false := decide_eq_false (by omega)
  have e2 : decide (o[j.toNat] < 0) = true := decide_eq_true hr
  simp only [e1, e2, if_true]
  simp
  omega
theorem visit1_fine {l : List Cell} {i : Int} (hi : 0 ≤ i) {s : List Int × List Int} (h : Fine l s.1 s.2) (d : Cell) :
    Fine l (visit1 l i s d).1 (visit1 l i s d).2 ∧ negs (visit1 l i s d).1 + (visit1 l i s d).2.length = negs s.1 + s.2.length ∧ s.2.length ≤ (visit1 l i s d).2.length ∧ ∀ j : Int, 0 ≤ rd s.1 j → 0 ≤ rd (visit1 l i s d).1 j := by
  unfold visit1
  by_cases hc : idxC l d ≥ 0 ∧ rd s.1 (idxC l d) < 0
  · rw [if_pos hc]
    have hlt := idxC_lt l d
    have hln := h.len
    refine ⟨⟨by simpa using h.len, fun j hj => ?_⟩, ?_, by simp, fun j hj => ?_⟩
    · rcases List.mem_append.1 hj with hj | hj
      · exact h.rng j hj
      · simp at hj; omega
    · have := negs_set s.1 (idxC l d) i hc.1 (by omega) hc.2 hi
      simp only [List.length_append, List.length_singleton]
      omega
    · simp only
      rw [rd_set _ _ _ _ (by omega)]
      split
      · exact hi
      · exact hj
  · rw [if_neg hc]
    exact ⟨h, rfl, Nat.le_refl _, fun _ h => h⟩
theorem visit_fine {l : List Cell} {i : Int} (hi : 0 ≤ i) : ∀ (ds : List Cell) {s : List Int × List Int}, Fine l s.1 s.2 →
    Fine l (visit l i ds s).1 (visit l i ds s).2 ∧ negs (visit l i ds s).1 + (visit l i ds s).2.length = negs s.1 + s.2.length ∧ s.2.length ≤ (visit l i ds s).2.length ∧ ∀ j : Int, 0 ≤ rd s.1 j → 0 ≤ rd (visit l i ds s).1 j
  | [], s, h => ⟨h, rfl, Nat.le_refl _, fun _ h => h⟩
  | d :: r, s, h => by
    obtain ⟨h1, h2, h3, h4⟩ := visit1_fine hi h d
    obtain ⟨h5, h6, h7, h8⟩ := visit_fine hi r h1
    exact ⟨h5, h6.trans h2, Nat.le_trans h3 h7, fun j hj => h8 j (h4 j hj)⟩
theorem visit_snoc (l : List Cell) (i : Int) (ds : List Cell) (d : Cell) (s : List Int × List Int) : visit l i (ds ++ [d]) s = visit1 l i (visit l i ds s) d := by
  simp [visit]
def bfs (nb : Cell → List Cell) (l : List Cell) (i : Int) : Nat → List Int → List Int → List Int
  | 0, o, _ => o
  | _ + 1, o, [] => o
  | n + 1, o, c :: q => bfs nb l i n (visit l i (nb (rd_T58 l c)) (o, q)).1 (visit l i (nb (rd_T58 l c)) (o, q)).2
theorem bfs_fine {nb : Cell → List Cell} {l : List Cell} {i : Int} (hi : 0 ≤ i) : ∀ (n : Nat) (o q : List Int), Fine l o q → (bfs nb l i n o q).length = l.length ∧ ∀ j : Int, 0 ≤ rd o j → 0 ≤ rd (bfs nb l i n o q) j
  | 0, o, q, h => ⟨h.len, fun _ h => h⟩
  | n + 1, o, [], h => ⟨h.len, fun _ h => h⟩
  | n + 1, o, c :: q, h => by
    have h' : Fine l o q := ⟨h.len, fun j hj => h.rng j (List.mem_cons_of_mem _ hj)⟩
    obtain ⟨h1, _, _, h4⟩ := visit_fine hi (nb (rd_T58 l c)) (s := (o, q)) h'
    obtain ⟨h5, h6⟩ := bfs_fine hi n _ _ h1
    exact ⟨h5, fun j hj => h6 j (h4 j hj)⟩
def partsF (nb : Cell → List Cell) (l : List Cell) : Int → List Cell → List Int → List Int
  | _, [], o => o
  | i, _ :: r, o => partsF nb l (i + 1) r (if rd o i ≥ 0 then o else bfs nb l i l.length (o.set i.toNat i) [i])
def partsR (nb : Cell → List Cell) (l : List Cell) : List Int := partsF nb l 0 l (List.replicate l.length (-1))
theorem step_fine {l : List Cell} {o : List Int} {i : Nat} (hl : o.length = l.length) (hi : i < l.length) (h : ¬ rd o (i : Int) ≥ 0) : Fine l (o.set i (i : Int)) [(i : Int)] ∧ negs (o.set i (i : Int)) + 1 ≤ l.length := by
  refine ⟨⟨by simpa using hl, fun j hj => by simp at hj; omega⟩, ?_⟩
  have h1 := negs_set o (i : Int) (i : Int) (by omega) (by omega) (by omega) (by omega)
  rw [Int.toNat_natCast] at h1
  have h2 : negs o ≤ o.length := List.countP_le_length
  omega
theorem step_next {nb : Cell → List Cell} {l : List Cell} {o : List Int} {i : Nat} (hl : o.length = l.length) (hi : i < l.length) (hd : ∀ j : Nat, j < i → 0 ≤ rd o (j : Int)) :
    (if rd o (i : Int) ≥ 0 then o else bfs nb l (i : Int) l.length (o.set i (i : Int)) [(i : Int)]).length = l.length ∧ ∀ j : Nat, j < i + 1 → 0 ≤ rd (if rd o (i : Int) ≥ 0 then o else bfs nb l (i : Int) l.length (o.set i (i : Int)) [(i : Int)]) (j : Int) := by
  by_cases h : rd o (i : Int) ≥ 0
  · rw [if_pos h]
    refine ⟨hl, fun j hj => ?_⟩
    by_cases e : j = i
    · exact e ▸ h
    · exact hd j (by omega)
  · rw [if_neg h]
    obtain ⟨h1, h2⟩ := step_fine hl hi h
    obtain ⟨h3, h4⟩ := bfs_fine (nb := nb) (i := (i : Int)) (by omega) l.length _ _ h1
    refine ⟨h3, fun j hj => h4 _ ?_⟩
    rw [rd_set _ _ _ _ (by omega), Int.toNat_natCast]
    split
    · omega
    · exact hd j (by omega)
theorem partsF_fine {nb : Cell → List Cell} {l : List Cell} : ∀ (r pre : List Cell) (o : List Int), l = pre ++ r → o.length = l.length → (∀ j : Nat, j < pre.length → 0 ≤ rd o (j : Int)) → (partsF nb l (pre.length : Int) r o).length = l.length ∧ ∀ j : Nat, j < l.length → 0 ≤ rd (partsF nb l (pre.length : Int) r o) (j : Int)
  | [], pre, o, h, hl, hd => by
    rw [List.append_nil] at h
    subst h
    exact ⟨hl, hd⟩
  | c :: r, pre, o, h, hl, hd => by
    obtain ⟨h1, h2⟩ := step_next (nb := nb) (l := l) (o := o) (i := pre.length) hl (by rw [h]; simp) hd
    have := partsF_fine (nb := nb) r (pre ++ [c]) _ (by rw [h]; simp) h1 (by simpa using h2)
    rw [List.length_append] at this
    exact this
theorem partsR_len (nb : Cell → List Cell) (l : List Cell) : (partsR nb l).length = l.length := (partsF_fine l [] _ rfl (by simp) (fun j hj => by simp at hj)).1
theorem partsR_pos (nb : Cell → List Cell) (l : List Cell) : ∀ x ∈ partsR nb l, 0 ≤ x := by
  intro x hx
  obtain ⟨j, hj, e⟩ := List.getElem_of_mem hx
  have h := (partsF_fine (nb := nb) (l := l) l [] (List.replicate l.length (-1)) rfl (by simp) (fun j hj => by simp at hj)).2 j (by have := partsR_len nb l; omega)
  have h' : 0 ≤ rd (partsR nb l) (j : Int) := h
  unfold rd at h'
  rw [List.getD_eq_getElem?_getD, Int.toNat_natCast, List.getElem?_eq_getElem hj] at h'
  exact e ▸ h'
theorem wf64 {n : Int} (h : -9223372036854775808 ≤ n) (h' : n ≤ 9223372036854775807) : (Lit.int .i64 n).wf = true := by
  simp only [Lit.wf, IntKind.min, IntKind.max, IntKind.signed, IntKind.bits, Bool.and_eq_true, decide_eq_true_eq, if_true]; omega
theorem wf_wrap (n : Int) : (Lit.int .i64 (wrap64 n)).wf = true := wf64 (by unfold wrap64; omega) (by unfold wrap64; omega)
theorem wfC_ok {c : Cell} (h : okC c) : wfC c = true := by
  unfold wfC
  unfold okC ok1 at h
  rw [wf64 (by omega) (by omega), wf64 (by omega) (by omega)]
  rfl
theorem lastIdx_eq (c : Cell) : ∀ (l : List Cell) (i : Nat), l.Nodup → lastIdx l c i = if idxF l c (i : Int) ≥ 0 then some (idxF l c (i : Int)).toNat else none
  | [], i, _ => by simp [lastIdx, idxF]
  | a :: r, i, h => by
    obtain ⟨h1, h2⟩ := List.nodup_cons.1 h
    have ih := lastIdx_eq c r (i + 1) h2
    have e : ((i + 1 : Nat) : Int) = (i : Int) + 1 := by omega
    rw [e] at ih
    unfold lastIdx idxF
    rw [ih]
    by_cases hs : sameC a c = true
    · have hac := sameC_iff.1 hs
      rw [if_pos hs]
      have hn : ¬ idxF r c ((i : Int) + 1) ≥ 0 := by
        rcases idxF_spec r c ((i : Int) + 1) (by omega) with ⟨h3, _⟩ | ⟨j, _, _, h3, _⟩
        · omega
        · exact absurd (List.mem_of_getElem? h3) (hac ▸ h1)
      rw [if_neg hn]
      have : a.f0 = c.f0 ∧ a.f1 = c.f1 := by rw [hac]; exact ⟨rfl, rfl⟩
      simp only [this, and_self, if_true]
      simp
    · rw [if_neg hs]
      have hne : ¬ (a.f0 = c.f0 ∧ a.f1 = c.f1) := by
        intro h3
        apply hs
        simp [sameC, h3.1, h3.2]
      by_cases hg : idxF r c ((i : Int) + 1) ≥ 0
      · rw [if_pos hg]
      · rw [if_neg hg]
        simp only [hne, if_false]
theorem look_eq (l : List Cell) (d : Cell) (hn : l.Nodup) (hw : wfC d = true) : impl_partsLook.f l d.f0 d.f1 = some (if idxC l d ≥ 0 then (idxC l d, true) else (0, false)) := by
  unfold impl_partsLook.f
  have hw' : wfC ⟨d.f0, d.f1⟩ = true := hw
  rw [if_pos hw']
  have := lastIdx_eq d l 0 hn
  have e : lastIdx l ⟨d.f0, d.f1⟩ 0 = if idxC l d ≥ 0 then some (idxC l d).toNat else none := this
  rw [e]
  by_cases h : idxC l d ≥ 0
  · rw [if_pos h, if_pos h]
    simp only [Int.toNat_of_nonneg h]
  · rw [if_neg h, if_neg h]
end Go.Proofs.YtfdfdifjkaaeoaaGreat.L
end
section
namespace Go.Proofs.YtfdfdifjkaaeoaaGreat.L
open Go.RowKit Go.Proofs.YtfdfdifjkaaeoaaGreatW.PrintWords Go.Proofs.YtfdfdifjkaaeoaaGreat.F
set_option linter.unusedVariables false
theorem aroundC_len (c : Cell) : (aroundC c).length ≤ 16 := by simp [aroundC]
theorem aroundC_wf {c : Cell} (h : wfC c = true) : ∀ d ∈ aroundC c, wfC d = true := by
  unfold wfC at h
  rw [Bool.and_eq_true] at h
  intro d hd
  simp only [aroundC, List.mem_cons, List.not_mem_nil, or_false] at hd
  rcases hd with rfl | rfl | rfl | rfl <;> simp [wfC, h.1, h.2, wf_wrap]
end Go.Proofs.YtfdfdifjkaaeoaaGreat.L
end
section
namespace Go.Proofs.YtfdfdifjkaaeoaaGreat.L
open Go.RowKit Go.Proofs.YtfdfdifjkaaeoaaGreatW.PrintWords Go.Proofs.YtfdfdifjkaaeoaaGreatW.PrintLast Go.Proofs.YtfdfdifjkaaeoaaGreatW.PrintMore Go.Proofs.YtfdfdifjkaaeoaaGreat.F
set_option linter.unusedVariables false
set_option linter.unusedSimpArgs false
theorem ps_l3 (l : List Cell) (hl : l.length ≤ 1048576) (i : Int) (hi : 0 ≤ i) (xs : List Cell) (hx4 : xs.length = 4) (o q : List Int) (hf : Fine l o q) (hb : negs o + q.length ≤ l.length) {r : List Int}
    (hc : Ev (fun k => spec_l02Parts.l2 k l (visit l i xs (o, q)).1 i (visit l i xs (o, q)).2) r) :
    Ev (fun k => spec_l02Parts.l3 k l o i q xs 0) r := by
  have hsm : small xs := by unfold small; omega
  have hs : small l := by unfold small; omega
  refine loop_list xs (fun k j (s : List Int × List Int) => spec_l02Parts.l3 k l s.1 i s.2 xs j) (fun _ _ _ => r) (fun pre s => s = visit l i pre (o, q)) ?_ ?_ (o, q) rfl
  · rintro s rfl
    have e0 : ¬ ((xs.length : Int) < 4) := by omega
    simp only [spec_l02Parts.l3, e0, if_false]
    exact hc
  · rintro pre d suf s hx rfl ih
    obtain ⟨h1, h2, h3, _⟩ := visit_fine hi pre (s := (o, q)) hf
    simp only at h2 h3
    have hln := h1.len
    have hp4 : ((pre.length : Int) < 4) = True := by have := pre_len hx; simp; omega
    simp only [spec_l02Parts.l3, hp4, pre_lt hx, pre_0, if_true, at_pre hx, pre_w hx hsm]
    refine Ev.bind (specIndex_ev l d hs) ?_
    have hlt := idxC_lt l d
    have hq : (visit l i pre (o, q)).2.length ≤ l.length := by omega
    by_cases hg : idxC l d ≥ 0
    · refine Ev.pos hg (Ev.pos hg (Ev.pos (by omega) ?_))
      by_cases hr : rd (visit l i pre (o, q)).1 (idxC l d) < 0
      · refine Ev.pos hr (Ev.pos (by omega) ?_)
        have e : visit1 l i (visit l i pre (o, q)) d = ((visit l i pre (o, q)).1.set (idxC l d).toNat i, (visit l i pre (o, q)).2 ++ [idxC l d]) := by
          unfold visit1; rw [if_pos ⟨hg, hr⟩]
        exact ih ((visit l i pre (o, q)).1.set (idxC l d).toNat i, (visit l i pre (o, q)).2 ++ [idxC l d]) (by rw [visit_snoc, e])
      · refine Ev.neg hr (ih _ ?_)
        rw [visit_snoc]
        unfold visit1
        rw [if_neg fun h => hr h.2]
    · refine Ev.neg hg (ih _ ?_)
      rw [visit_snoc]
      unfold visit1
      rw [if_neg fun h => hg h.1]
theorem ps_l2 (l : List Cell) (hl : l.length ≤ 1048576) (i : Int) (hi : 0 ≤ i) {r : List Int} : ∀ (n : Nat) (o q : List Int), Fine l o q → negs o + q.length ≤ l.length → negs o + q.length ≤ n →
    Ev (fun k => spec_l02Parts.l1 k l (bfs aroundC l i n o q) (wrap64 (i + 1))) r → Ev (fun k => spec_l02Parts.l2 k l o i q) r := by
  intro n
  induction n with
  | zero =>
    intro o q hf hb hm hc
    obtain rfl : q = [] := List.length_eq_zero_iff.1 (by omega)
    refine Ev.succ ?_
    simp only [spec_l02Parts.l2]
    exact Ev.neg (by simp) hc
  | succ n ih =>
    intro o q hf hb hm hc
    refine Ev.succ ?_
    cases q with
    | nil =>
      simp only [spec_l02Parts.l2]
      exact Ev.neg (by simp) hc
    | cons c q =>
      have hr := hf.rng c List.mem_cons_self
      have e1 : rd (c :: q) 0 = c := rfl
      have hlen : (c :: q).length = q.length + 1 := rfl
      simp only [spec_l02Parts.l2, e1]
      refine Ev.pos (by omega) (Ev.pos (by omega) (Ev.pos hr.1 (Ev.pos hr.2 ?_)))
      simp only [specAround_eq, Option.bind_some]
      refine Ev.pos (by omega) ?_
      have hf' : Fine l o q := ⟨hf.len, fun j hj => hf.rng j (List.mem_cons_of_mem _ hj)⟩
      obtain ⟨h1, h2, h3, _⟩ := visit_fine hi (aroundC (rd_T58 l c)) (s := (o, q)) hf'
      simp only at h2 h3
      have ed : (c :: q).drop (1 : Int).toNat = q := rfl
      rw [ed]
      refine ps_l3 l hl i hi _ rfl o q hf' (by omega) ?_
      exact ih _ _ h1 (by omega) (by omega) hc
theorem ps_ev (l : List Cell) (hl : l.length ≤ 1048576) : Ev (fun k => spec_l02Parts.f k l) (partsR aroundC l) := by
  have hs : small l := by unfold small; omega
  unfold spec_l02Parts.f
  have hz := loop_list l (fun k i (s : List Int) => spec_l02Parts.l0 k l s i) (fun _ _ _ => partsR aroundC l) (fun pre s => s = List.replicate pre.length (-1)) ?_ ?_ [] rfl
  · exact hz
  · rintro s rfl
    simp only [spec_l02Parts.l0, len_lt, if_false]
    have := loop_list l (fun k i (s : List Int) => spec_l02Parts.l1 k l s i) (fun pre suf s => partsF aroundC l (pre.length : Int) suf s) (fun pre s => s.length = l.length ∧ ∀ j : Nat, j < pre.length → 0 ≤ rd s (j : Int)) ?_ ?_ (List.replicate l.length (-1)) ⟨by simp, fun j hj => by simp at hj⟩
    · exact this
    · rintro s _
      simp only [spec_l02Parts.l1, len_lt, if_false]
      exact Ev.now _
    · rintro pre c suf s hx ⟨h1, h2⟩ ih
      have hp := pre_len hx
      obtain ⟨h3, h4⟩ := step_next (nb := aroundC) (l := l) (o := s) (i := pre.length) h1 hp h2
      have hlt : ((pre.length : Int) < (s.length : Int)) = True := by rw [h1]; exact pre_lt hx
      simp only [spec_l02Parts.l1, pre_lt hx, pre_0, if_true, hlt, pre_w hx hs, Int.toNat_natCast]
      have hih := ih _ ⟨h3, by simpa using h4⟩
      unfold partsF
      rw [Int.toNat_natCast]
      have ee : ((pre ++ [c]).length : Int) = (pre.length : Int) + 1 := by simp
      rw [ee] at hih
      by_cases hg : rd s (pre.length : Int) ≥ 0
      · rw [if_pos hg] at hih ⊢
        exact Ev.pos hg hih
      · rw [if_neg hg] at hih ⊢
        refine Ev.neg hg ?_
        obtain ⟨h5, h6⟩ := step_fine h1 hp hg
        exact ps_l2 l hl (pre.length : Int) (by omega) l.length _ _ h5 (by simpa using h6) (by simpa using h6) (by rw [pre_w hx hs]; exact hih)
  · rintro pre c suf s hx rfl ih
    have hp := pre_len hx
    simp only [spec_l02Parts.l0, pre_lt hx, if_true, pre_w hx hs]
    exact Ev.pos (by rw [List.length_replicate]; omega) (ih _ (by simp [List.replicate_succ']))
def oneB (l : List Int) : Bool := l.all fun x => decide (x = 0)
def first (nb : Cell → List Cell) (l : List Cell) : List Int := bfs nb l 0 l.length ((List.replicate l.length (-1 : Int)).set 0 0) [0]
theorem max_ev (l : List Int) (hs : small l) (h0 : 0 < l.length) (hp : ∀ x ∈ l, 0 ≤ x) : Ev (fun k => slices_Max_int64_int64.f k l) (l.foldl mx 0) := by
  unfold slices_Max_int64_int64.f
  obtain ⟨c, r, rfl⟩ : ∃ c r, l = c :: r := by cases l with | nil => simp at h0 | cons c r => exact ⟨c, r, rfl⟩
  refine Ev.neg (by omega) (Ev.pos (by omega) ?_)
  have h1 : rd (c :: r) 0 = c := rfl
  rw [h1]
  have := loop_tail c r (fun k i (s : Int) => slices_Max_int64_int64.l0 k (c :: r) s i) (fun _ suf s => suf.foldl mx s) (fun _ _ => True) ?_ ?_ c trivial
  · refine Ev.of_eq this ?_
    have hc := hp c List.mem_cons_self
    have : mx 0 c = c := by unfold mx; split <;> omega
    simp [this]
  · rintro s _
    simp only [slices_Max_int64_int64.l0, len_lt, if_false]
    exact Ev.now _
  · rintro pre d suf s hx _ _ ih
    simp only [slices_Max_int64_int64.l0, pre_lt hx, pre_0, if_true, at_preI hx, pre_w hx hs]
    exact ih (mx s d) trivial
theorem foldl_mx : ∀ (l : List Int) (a : Int), 0 ≤ a → (∀ x ∈ l, 0 ≤ x) → 0 ≤ l.foldl mx a ∧ (l.foldl mx a = 0 ↔ a = 0 ∧ oneB l = true)
  | [], a, ha, _ => ⟨ha, by simp [oneB]⟩
  | c :: r, a, ha, h => by
    have hc := h c List.mem_cons_self
    have h1 : 0 ≤ mx a c := by unfold mx; split <;> omega
    obtain ⟨h2, h3⟩ := foldl_mx r (mx a c) h1 (fun x hx => h x (List.mem_cons_of_mem _ hx))
    refine ⟨h2, h3.trans ?_⟩
    have h4 : mx a c = 0 ↔ a = 0 ∧ c = 0 := by unfold mx; split <;> omega
    rw [h4]
    simp [oneB, and_assoc]
theorem pa_l3 (l : List Cell) (hl : l.length ≤ 1048576) (hn : l.Nodup) (i : Int) (hi : 0 ≤ i) (xs : List Cell) (hx4 : xs.length ≤ 16) (hwx : ∀ d ∈ xs, wfC d = true) (o p q : List Int) (hf : Fine l o q) (hb : negs o + (p ++ q).length ≤ l.length) (at_ len_ n_ : Int) {r : List Int}
    (hc : Ev (fun k => impl_parts__impl_around.l2 k l (visit l i xs (o, q)).1 i (p ++ (visit l i xs (o, q)).2) (wrap64 (at_ + 1)) len_ n_) r) :
    Ev (fun k => impl_parts__impl_around.l3 k l o i (p ++ q) at_ len_ n_ xs (xs.length : Int) 0) r := by
  have hsm : small xs := by unfold small; omega
  refine loop_list xs (fun k j (s : List Int × List Int) => impl_parts__impl_around.l3 k l s.1 i (p ++ s.2) at_ len_ n_ xs (xs.length : Int) j) (fun _ _ _ => r) (fun pre s => s = visit l i pre (o, q)) ?_ ?_ (o, q) rfl
  · rintro s rfl
    simp only [impl_parts__impl_around.l3, len_lt, if_false]
    exact hc
  · rintro pre d suf s hx rfl ih
    obtain ⟨h1, h2, h3, _⟩ := visit_fine hi pre (s := (o, q)) hf
    simp only at h2 h3
    have hln := h1.len
    have hd : wfC d = true := hwx d (by rw [hx]; simp)
    simp only [impl_parts__impl_around.l3, pre_lt hx, pre_0, if_true, at_pre hx, pre_w hx hsm, look_eq l d hn hd, Option.bind_some]
    have hlt := idxC_lt l d
    have hq : (p ++ (visit l i pre (o, q)).2).length ≤ l.length := by
      rw [List.length_append] at hb ⊢
      omega
    by_cases hg : idxC l d ≥ 0
    · simp only [hg, if_true]
      refine Ev.pos (by omega) ?_
      by_cases hr : rd (visit l i pre (o, q)).1 (idxC l d) < 0
      · refine Ev.pos hr (Ev.pos (by omega) ?_)
        have e : visit1 l i (visit l i pre (o, q)) d = ((visit l i pre (o, q)).1.set (idxC l d).toNat i, (visit l i pre (o, q)).2 ++ [idxC l d]) := by
          unfold visit1; rw [if_pos ⟨hg, hr⟩]
        have h := ih ((visit l i pre (o, q)).1.set (idxC l d).toNat i, (visit l i pre (o, q)).2 ++ [idxC l d]) (by rw [visit_snoc, e])
        rw [List.append_assoc]
        exact h
      · refine Ev.neg hr (ih _ ?_)
        rw [visit_snoc]
        unfold visit1
        rw [if_neg fun h => hr h.2]
    · simp only [hg, if_false, Bool.false_eq_true]
      refine ih _ ?_
      rw [visit_snoc]
      unfold visit1
      rw [if_neg fun h => hg h.1]
theorem pa_l2 (l : List Cell) (hl : l.length ≤ 1048576) (hn : l.Nodup) (hw : l.all wfC = true) (i : Int) (hi : 0 ≤ i) (len_ n_ : Int) {r : List Int} : ∀ (n : Nat) (o p q : List Int), Fine l o q → negs o + (p ++ q).length ≤ l.length → negs o + q.length ≤ n →
    Ev (fun k => impl_parts__impl_around.l1 k l (bfs aroundC l i n o q) len_ (wrap64 (n_ + 1))) r → Ev (fun k => impl_parts__impl_around.l2 k l o i (p ++ q) (p.length : Int) len_ n_) r := by
  intro n
  induction n with
  | zero =>
    intro o p q hf hb hm hc
    obtain rfl : q = [] := List.length_eq_zero_iff.1 (by omega)
    refine Ev.succ ?_
    simp only [impl_parts__impl_around.l2, List.append_nil, len_lt, if_false]
    exact hc
  | succ n ih =>
    intro o p q hf hb hm hc
    refine Ev.succ ?_
    cases q with
    | nil =>
      simp only [impl_parts__impl_around.l2, List.append_nil, len_lt, if_false]
      exact hc
    | cons c q =>
      have hr := hf.rng c List.mem_cons_self
      have hlen : (p ++ c :: q).length = p.length + (q.length + 1) := by simp
      have e1 : rd (p ++ c :: q) (p.length : Int) = c := by unfold rd; exact getD_at p q c _
      simp only [impl_parts__impl_around.l2, e1]
      refine Ev.pos (by rw [hlen]; omega) (Ev.pos (by omega) (Ev.pos hr.1 (Ev.pos hr.2 ?_)))
      simp only [implAround_eq, Option.bind_some]
      have hf' : Fine l o q := ⟨hf.len, fun j hj => hf.rng j (List.mem_cons_of_mem _ hj)⟩
      have hwc : wfC (rd_T58 l c) = true := by
        refine List.all_eq_true.1 hw _ ?_
        unfold rd_T58
        rw [List.getD_eq_getElem?_getD, List.getElem?_eq_getElem (show c.toNat < l.length by omega)]
        exact List.getElem_mem _
      obtain ⟨h1, h2, h3, _⟩ := visit_fine hi (aroundC (rd_T58 l c)) (s := (o, q)) hf'
      have ea : p ++ c :: q = (p ++ [c]) ++ q := by simp
      have ew : wrap64 ((p.length : Int) + 1) = ((p ++ [c]).length : Int) := by
        rw [w64 (by omega) (by omega)]; simp
      rw [ea] at hb ⊢
      refine pa_l3 l hl hn i hi (aroundC (rd_T58 l c)) (aroundC_len _) (aroundC_wf hwc) o (p ++ [c]) q hf' hb _ _ _ ?_
      rw [ew]
      refine ih _ _ _ h1 ?_ ?_ hc
      · simp only [List.length_append, List.length_singleton] at hb ⊢
        simp only at h2 h3
        omega
      · simp only [List.length_cons] at hm
        simp only at h2
        omega
theorem pa_ev (l : List Cell) (hl : l.length ≤ 1048576) (hn : l.Nodup) (hw : l.all wfC = true) : Ev (fun k => impl_parts__impl_around.f k l) (partsR aroundC l) := by
  have hs : small l := by unfold small; omega
  unfold impl_parts__impl_around.f
  refine Ev.pos hw (Ev.pos (by omega) (Ev.pos (by omega) ?_))
  have hz := loop_list l (fun k i (s : List Int) => impl_parts__impl_around.l0 k l s l (l.length : Int) i) (fun _ _ _ => partsR aroundC l) (fun pre s => s = List.replicate pre.length (-1) ++ List.replicate (l.length - pre.length) 0) ?_ ?_ (List.replicate (l.length : Int).toNat 0) (by simp)
  · exact hz
  · rintro s rfl
    simp only [impl_parts__impl_around.l0, len_lt, if_false, Nat.sub_self, List.replicate_zero, List.append_nil]
    have := loop_list l (fun k i (s : List Int) => impl_parts__impl_around.l1 k l s (l.length : Int) i) (fun pre suf s => partsF aroundC l (pre.length : Int) suf s) (fun pre s => s.length = l.length ∧ ∀ j : Nat, j < pre.length → 0 ≤ rd s (j : Int)) ?_ ?_ (List.replicate l.length (-1)) ⟨by simp, fun j hj => by simp at hj⟩
    · exact this
    · rintro s _
      simp only [impl_parts__impl_around.l1, len_lt, if_false]
      exact Ev.now _
    · rintro pre c suf s hx ⟨h1, h2⟩ ih
      have hp := pre_len hx
      obtain ⟨h3, h4⟩ := step_next (nb := aroundC) (l := l) (o := s) (i := pre.length) h1 hp h2
      have hlt : ((pre.length : Int) < (s.length : Int)) = True := by rw [h1]; exact pre_lt hx
      simp only [impl_parts__impl_around.l1, pre_lt hx, pre_0, if_true, hlt, pre_w hx hs, Int.toNat_natCast]
      have hih := ih _ ⟨h3, by simpa using h4⟩
      unfold partsF
      rw [Int.toNat_natCast]
      have ee : ((pre ++ [c]).length : Int) = (pre.length : Int) + 1 := by simp
      rw [ee] at hih
      by_cases hg : rd s (pre.length : Int) ≥ 0
      · rw [if_pos hg] at hih ⊢
        exact Ev.pos hg hih
      · rw [if_neg hg] at hih ⊢
        refine Ev.neg hg ?_
        obtain ⟨h5, h6⟩ := step_fine h1 hp hg
        have e0 : ([(pre.length : Int)] : List Int) = [] ++ [(pre.length : Int)] := rfl
        have := pa_l2 l hl hn hw (pre.length : Int) (by omega) (l.length : Int) (pre.length : Int) (r := partsF aroundC l ((pre.length : Int) + 1) suf (bfs aroundC l (pre.length : Int) l.length (s.set pre.length (pre.length : Int)) [(pre.length : Int)])) l.length (s.set pre.length (pre.length : Int)) [] [(pre.length : Int)] h5 (by simpa using h6) (by simpa using h6) (by
          rw [pre_w hx hs]; exact hih)
        exact this
  · rintro pre c suf s hx rfl ih
    have hp := pre_len hx
    have hlt : ((pre.length : Int) < ((List.replicate pre.length (-1 : Int) ++ List.replicate (l.length - pre.length) 0).length : Int)) = True := by simp; omega
    simp only [impl_parts__impl_around.l0, pre_lt hx, pre_0, if_true, hlt, pre_w hx hs, Int.toNat_natCast]
    refine ih _ ?_
    have e : l.length - pre.length = (l.length - (pre.length + 1)) + 1 := by omega
    simp only [List.length_append, List.length_singleton]
    rw [e, List.replicate_succ, List.set_append_right _ _ (by simp)]
    simp [List.replicate_succ', List.append_assoc]
theorem pa_conn (l : List Cell) (hl : l.length ≤ 1048576) (h0 : l ≠ []) (hn : l.Nodup) (hw : l.all wfC = true) : Ev (fun k => impl_connected__impl_around.f k l) (oneB (partsR aroundC l)) := by
  unfold impl_connected__impl_around.f
  have hln := partsR_len aroundC l
  have hp := partsR_pos aroundC l
  have hpos : 0 < (partsR aroundC l).length := by rw [hln]; exact List.length_pos_iff.2 h0
  refine Ev.bind (pa_ev l hl hn hw) (Ev.bind (max_ev _ (by unfold small; omega) hpos hp) (Ev.of_eq (Ev.now _) ?_))
  have h := (foldl_mx (partsR aroundC l) 0 (Int.le_refl _) hp).2
  rw [Bool.eq_iff_iff, beq_iff_eq, h]
  simp
def connB (l : List Cell) : Bool := oneB (partsR aroundC l)
theorem shape_fine {l : List Cell} (h : shapeB l = true) : l ≠ [] ∧ l.Nodup ∧ l.all wfC = true ∧ l.length ≤ 1048576 := by
  obtain ⟨h1, h2, h3, h4⟩ := shapeB_iff.1 h
  refine ⟨shape_ne h, h2.imp fun {a b} hab e => ?_, List.all_eq_true.2 fun c hc => wfC_ok (h1 c hc), by omega⟩
  subst e
  unfold ltC at hab
  omega
theorem region_shape {l : List Cell} (h : regionB l = true) : shapeB l = true := by
  unfold regionB at h
  rw [Bool.and_eq_true] at h
  exact h.1
end Go.Proofs.YtfdfdifjkaaeoaaGreat.L
end
section
namespace Go.Proofs.YtfdfdifjkaaeoaaGreat.L
open Go.RowKit Go.Proofs.YtfdfdifjkaaeoaaGreatW.PrintWords Go.Proofs.YtfdfdifjkaaeoaaGreatW.PrintLast Go.Proofs.YtfdfdifjkaaeoaaGreatW.PrintMore Go.Proofs.YtfdfdifjkaaeoaaGreat.F
set_option linter.unusedVariables false
set_option linter.unusedSimpArgs false
theorem one_ev (l : List Int) (hs : small l) : Ev (fun k => spec_l02One.f k l) (oneB l) := by
  unfold spec_l02One.f
  refine loop_list l (fun k i (_ : Unit) => spec_l02One.l0 k l i) (fun pre suf _ => oneB suf) (fun _ _ => True) ?_ ?_ () trivial
  · intro _ _
    simp only [spec_l02One.l0, len_lt, if_false]
    exact Ev.now _
  · intro pre c suf _ hx _ ih
    simp only [spec_l02One.l0, pre_lt hx, pre_0, if_true, at_preI hx, pre_w hx hs]
    by_cases hc : c = 0
    · exact Ev.pos hc (Ev.of_eq (ih () trivial) (by simp [oneB, hc]))
    · exact Ev.neg hc (Ev.of_eq (Ev.now _) (by simp [oneB, hc]))
theorem specConn_ev (l : List Cell) (hl : l.length ≤ 1048576) : Ev (fun k => spec_IsConnected.f k l) (shapeB l && connB l) := by
  have hs : small l := by unfold small; omega
  unfold spec_IsConnected.f
  refine Ev.bind (specIsShape_ev l hs) ?_
  by_cases h : shapeB l = true
  · refine Ev.pos h (Ev.bind (ps_ev l hl) (Ev.bind (one_ev _ (by unfold small; rw [partsR_len]; omega)) (Ev.of_eq (Ev.now _) ?_)))
    simp [h, connB]
  · exact Ev.neg h (Ev.of_eq (Ev.now _) (by simp [h]))
def pieceB (l : List Cell) (n : Int) : Bool := regionB l && (connB l && decide (1 ≤ n ∧ n ≤ 8))
theorem specIsPiece_ev (l : List Cell) (n : Int) (b : Bool) (hl : l.length ≤ 1048576) : Ev (fun k => spec_IsPiece.f k l n b) (pieceB l n) := by
  have hs : small l := by unfold small; omega
  unfold spec_IsPiece.f pieceB
  refine Ev.bind (specIsRegion_ev l hs) ?_
  by_cases h : regionB l = true
  · refine Ev.pos h (Ev.bind (specConn_ev l hl) ?_)
    rw [region_shape h, Bool.true_and, h, Bool.true_and]
    by_cases hc : connB l = true
    · refine Ev.pos hc ?_
      simp only [in_eq, Option.bind_some, hc, Bool.true_and]
      exact Ev.now _
    · exact Ev.neg hc (Ev.of_eq (Ev.now _) (by simp [hc]))
  · exact Ev.neg h (Ev.of_eq (Ev.now _) (by simp [h]))
theorem implIsPiece_ev (l : List Cell) (n : Int) (b : Bool) (hl : l.length ≤ 1048576) : Ev (fun k => impl_IsPiece.f k l n b) (pieceB l n) := by
  have hs : small l := by unfold small; omega
  unfold impl_IsPiece.f pieceB
  refine Ev.bind (implIsRegion_ev l hs) ?_
  by_cases h : regionB l = true
  · obtain ⟨h1, h2, h3, _⟩ := shape_fine (region_shape h)
    refine Ev.pos h (Ev.bind (pa_conn l hl h1 h2 h3) ?_)
    rw [h, Bool.true_and]
    by_cases hc : connB l = true
    · refine Ev.pos hc ?_
      simp only [within_eq, Option.bind_some, hc, Bool.true_and]
      exact Ev.now _
    · exact Ev.neg hc (Ev.of_eq (Ev.now _) (by simp [hc]))
  · exact Ev.neg h (Ev.of_eq (Ev.now _) (by simp [h]))
end Go.Proofs.YtfdfdifjkaaeoaaGreat.L
end
section
namespace Go.Proofs.YtfdfdifjkaaeoaaGreat.L
open Go.RowKit Go.Proofs.YtfdfdifjkaaeoaaGreatW.PrintWords Go.Proofs.YtfdfdifjkaaeoaaGreatW.PrintLast Go.Proofs.YtfdfdifjkaaeoaaGreatW.PrintMore Go.Proofs.YtfdfdifjkaaeoaaGreat.F
set_option linter.unusedVariables false
set_option linter.unusedSimpArgs false
abbrev Piece := S43
abbrev LPiece := S52
def pieceOf (c : LPiece) : Piece := ⟨c.f0.map cellOf, c.f1, c.f2⟩
theorem at_preP {xs pre suf : List Piece} {c : Piece} (h : xs = pre ++ c :: suf) : rd_T43 xs (pre.length : Int) = c := by
  subst h; exact getD_at pre suf c _
theorem at_preLP {xs pre suf : List LPiece} {c : LPiece} (h : xs = pre ++ c :: suf) : rd_T52 xs (pre.length : Int) = c := by
  subst h; exact getD_at pre suf c _
theorem pieceP_pos {l : List Cell} {n : Int} (h : pieceB l n = true) : 0 < l.length := by
  unfold pieceB at h
  rw [Bool.and_eq_true] at h
  have := (shapeB_iff.1 (region_shape h.1)).2.2.1
  omega
def szP : List LPiece → Int → Int
  | [], n => n
  | c :: r, n => if n - (c.f0.length : Int) < 0 then -1 else szP r (n - (c.f0.length : Int))
theorem szP_le : ∀ (l : List LPiece) (n : Int), n ≤ 1048576 → 0 ≤ szP l n → ∀ c ∈ l, c.f0.length ≤ 1048576
  | [], n, h1, h2, c, hc => by simp at hc
  | a :: r, n, h1, h2, c, hc => by
    unfold szP at h2
    by_cases h : n - (a.f0.length : Int) < 0
    · rw [if_pos h] at h2; omega
    · rw [if_neg h] at h2
      rcases List.mem_cons.1 hc with rfl | hc
      · omega
      · exact szP_le r _ (by omega) h2 c hc
theorem szPieceS_l (L : List LPiece) (hs : L.length ≤ 1048576) (hv : ∀ c ∈ L, c.f0.length ≤ 9223372036854775807) : ∀ (suf pre : List LPiece) (n : Int), L = pre ++ suf → 0 ≤ n → n ≤ 1048576 → Ev (fun k => laws_szPieceS.l0 k L n (pre.length : Int)) (szP suf n)
  | [], pre, n, hx, h0, h1 => by
    refine Ev.succ ?_
    have hp := congrArg List.length hx
    simp only [List.length_append, List.length_nil] at hp
    simp only [laws_szPieceS.l0]
    exact Ev.neg (by omega) (Ev.now _)
  | c :: suf, pre, n, hx, h0, h1 => by
    refine Ev.succ ?_
    have hsm : small L := by unfold small; omega
    have ih := szPieceS_l L hs hv suf (pre ++ [c]) (n - (c.f0.length : Int)) (by rw [hx]; simp)
    simp only [List.length_append, List.length_singleton, Int.natCast_add] at ih
    simp only [laws_szPieceS.l0, pre_lt hx, pre_0, if_true, at_preLP hx, pre_w hx hsm]
    have hsz : laws_szPiece.f c.f0 c.f1 c.f2 n = some (if n - (c.f0.length : Int) < 0 then -1 else n - (c.f0.length : Int)) := by
      unfold laws_szPiece.f
      rw [szCellS_eq c.f0 n h0 h1 (hv c (by rw [hx]; simp))]
      simp only [Option.bind_some]
      by_cases h : n - (c.f0.length : Int) < 0
      · rw [if_pos h, if_pos (by decide)]
      · rw [if_neg h, if_neg h]
    refine Ev.bind0 hsz ?_
    unfold szP
    by_cases h : n - (c.f0.length : Int) < 0
    · rw [if_pos h]; exact Ev.of_eq (Ev.pos (by decide) (Ev.now _)) (by rw [if_pos h])
    · rw [if_neg h, if_neg h]; exact Ev.neg h (ih (by omega) (by omega))
def szZ (a : List LCell) (b : List LPiece) : Int :=
  if 1048576 - (a.length : Int) < 0 then -1 else if 1048576 - (a.length : Int) - (b.length : Int) < 0 then -1 else szP b (1048576 - (a.length : Int) - (b.length : Int))
theorem szPuzzle_ev (a : List LCell) (b : List LPiece) (ha : a.length ≤ 9223372036854775807) (hb : b.length ≤ 9223372036854775807) (hv : ∀ c ∈ b, c.f0.length ≤ 9223372036854775807) : Ev (fun k => (laws_szPuzzle.f k a b 1048576)) (if szZ a b < 0 then -1 else szZ a b) := by
  unfold laws_szPuzzle.f szZ
  rw [szCellS_eq a 1048576 (by decide) (by decide) ha]
  simp only [Option.bind_some]
  by_cases h : (1048576 : Int) - (a.length : Int) < 0
  · simp only [if_pos h]
    exact Ev.pos (by decide) (Ev.of_eq (Ev.now _) (by rw [if_pos (by decide)]))
  · simp only [if_neg h]
    unfold laws_szPieceS.f
    rw [w64 (n := 1048576 - (a.length : Int) - (b.length : Int)) (by omega) (by omega)]
    by_cases h2 : (1048576 : Int) - (a.length : Int) - (b.length : Int) < 0
    · simp only [if_pos h2, Option.bind_some]
      exact Ev.pos (by decide) (Ev.of_eq (Ev.now _) (by rw [if_pos (by decide)]))
    · simp only [if_neg h2]
      refine Ev.bind (szPieceS_l b (by omega) hv b [] _ rfl (by omega) (by omega)) ?_
      by_cases h3 : szP b (1048576 - (a.length : Int) - (b.length : Int)) < 0
      · exact Ev.of_eq (Ev.pos h3 (Ev.now _)) (by rw [if_pos h3])
      · exact Ev.of_eq (Ev.neg h3 (Ev.now _)) (by rw [if_neg h3])
theorem szZ_le {a : List LCell} {b : List LPiece} (h : ¬ szZ a b < 0) : a.length ≤ 1048576 ∧ b.length ≤ 1048576 ∧ ∀ c ∈ b, c.f0.length ≤ 1048576 := by
  unfold szZ at h
  by_cases h1 : (1048576 : Int) - (a.length : Int) < 0
  · rw [if_pos h1] at h; omega
  · rw [if_neg h1] at h
    by_cases h2 : (1048576 : Int) - (a.length : Int) - (b.length : Int) < 0
    · rw [if_pos h2] at h; omega
    · rw [if_neg h2] at h
      exact ⟨by omega, by omega, szP_le b (1048576 - (a.length : Int) - (b.length : Int)) (by omega) (by omega)⟩
theorem toPieceP_ev (c : LPiece) (la : c.f0.length ≤ 1048576) : Ev (fun k => laws_toPiece.f k c.f0 c.f1 c.f2) (c.f0.map cellOf, c.f1, c.f2) := by
  unfold laws_toPiece.f
  exact Ev.bind (toCellS_ev c.f0 la) (Ev.now _)
theorem toPieceS_ev (b : List LPiece) (hb : b.length ≤ 1048576) (hv : ∀ c ∈ b, c.f0.length ≤ 1048576) : Ev (fun k => laws_toPieceS.f k b) (b.map pieceOf) := by
  have hs : small b := by unfold small; omega
  unfold laws_toPieceS.f
  refine Ev.pos (by omega) (Ev.pos (by omega) ?_)
  have := loop_list b (fun k i (s : List Piece) => laws_toPieceS.l0 k b s i) (fun _ suf s => s.take (b.length - suf.length) ++ suf.map pieceOf) (fun pre s => s.length = b.length) ?_ ?_ (List.replicate b.length z43) (by simp)
  · refine Ev.of_eq this ?_
    simp
  · intro s hl
    simp only [laws_toPieceS.l0, len_lt, if_false]
    refine Ev.of_eq (Ev.now _) ?_
    simp [List.take_of_length_le, hl]
  · intro pre c suf s hx hl ih
    have hlt : ((pre.length : Int) < (s.length : Int)) = True := by rw [hl]; exact pre_lt hx
    simp only [laws_toPieceS.l0, pre_lt hx, pre_0, if_true, at_preLP hx, hlt, pre_w hx hs]
    refine Ev.bind (toPieceP_ev c (hv c (by rw [hx]; simp))) ?_
    refine Ev.of_eq (ih (s.set (pre.length : Int).toNat (pieceOf c)) (by simpa using hl)) ?_
    have hn : b.length = pre.length + (suf.length + 1) := by rw [hx]; simp
    have e1 : b.length - suf.length = pre.length + 1 := by omega
    have e2 : b.length - (c :: suf).length = pre.length := by simp; omega
    rw [e1, e2, Int.toNat_natCast, List.take_add_one, List.getElem?_set_self (by omega), List.take_set_of_le (Nat.le_refl _)]
    simp
theorem toPuzzle_ev (a : List LCell) (b : List LPiece) (ha : a.length ≤ 1048576) (hb : b.length ≤ 1048576) (hv : ∀ c ∈ b, c.f0.length ≤ 1048576) : Ev (fun k => laws_toPuzzle.f k a b) (a.map cellOf, b.map pieceOf) := by
  unfold laws_toPuzzle.f
  exact Ev.bind (toCellS_ev a ha) (Ev.bind (toPieceS_ev b hb hv) (Ev.now _))
theorem eqPuzzle_ev (R : List Cell) (P : List Piece) (hR : small R) (hP : small P) (hv : ∀ c ∈ P, small c.f0) : Ev (fun k => laws_eqPuzzle.f k R P R P) true := by
  unfold laws_eqPuzzle.f
  refine Ev.bind (eqCellS_ev R hR) (Ev.pos rfl (Ev.bind (a := true) ?_ (Ev.pos rfl (Ev.now _))))
  unfold laws_eqPieceS.f
  refine Ev.pos rfl ?_
  refine loop_list P (fun k i (_ : Unit) => laws_eqPieceS.l0 k P P i) (fun _ _ _ => true) (fun _ _ => True) ?_ ?_ () trivial
  · intro _ _
    simp only [laws_eqPieceS.l0, len_lt, if_false]
    exact Ev.now _
  · intro pre c suf _ hx _ ih
    simp only [laws_eqPieceS.l0, pre_lt hx, pre_0, if_true, at_preP hx, pre_w hx hP]
    refine Ev.bind (a := true) ?_ (Ev.pos rfl (ih () trivial))
    unfold laws_eqPiece.f
    exact Ev.bind (eqCellS_ev c.f0 (hv c (by rw [hx]; simp))) (Ev.pos rfl (Ev.pos rfl (Ev.neg (by simp) (Ev.now _))))
def likeP (c y : Piece) : Bool := meetF (pieceF c.f0 c.f2) (pieceF y.f0 y.f2)
theorem likeP_len {c y : Piece} (h : c.f0.length ≠ y.f0.length) : likeP c y = false := by
  rw [Bool.eq_false_iff]
  intro hm
  unfold likeP meetF at hm
  obtain ⟨x, hx, e⟩ := List.any_eq_true.1 hm
  obtain ⟨z, hz, e⟩ := List.any_eq_true.1 e
  have hxz : x = z := (cmpS_zero x z).1 (by simpa using e)
  have h1 := pieceF_mem x hx
  have h2 := pieceF_mem z hz
  rw [hxz] at h1
  omega
def okPs : List Piece → List Piece → Bool
  | _, [] => true
  | pre, c :: r => pieceB c.f0 c.f1 && (!(pre.any fun y => likeP c y) && okPs (pre ++ [c]) r)
def puzzleB (R : List Cell) (P : List Piece) : Bool := regionB R && (decide (1 ≤ (P.length : Int) ∧ (P.length : Int) ≤ 12) && okPs [] P)
section
variable (R : List Cell) (P : List Piece) (hP : P.length ≤ 1048576) (hv : ∀ c ∈ P, c.f0.length ≤ 1048576)
include hP hv
theorem specPz_l1 {r : Bool} (pre : List Piece) (c : Piece) (suf : List Piece) (hx : P = pre ++ c :: suf) (hc : pieceB c.f0 c.f1 = true) (ho : ∀ y ∈ pre, pieceB y.f0 y.f1 = true) : ∀ (s2 p2 : List Piece), pre = p2 ++ s2 →
    Ev (fun k => if (s2.any fun y => likeP c y) = true then some false else spec_IsPuzzle.l0 k (wrap64 ((pre.length : Int) + 1)) R P) r → Ev (fun k => spec_IsPuzzle.l1 k (pre.length : Int) (p2.length : Int) R P) r
  | [], p2, h2, hr => by
    refine Ev.succ ?_
    have hp := congrArg List.length h2
    simp only [List.length_append, List.length_nil] at hp
    simp only [spec_IsPuzzle.l1]
    refine Ev.neg (by omega) ?_
    simpa using hr
  | y :: s2, p2, h2, hr => by
    refine Ev.succ ?_
    have hp := congrArg List.length h2
    simp only [List.length_append, List.length_cons] at hp
    have hx2 : P = p2 ++ y :: (s2 ++ c :: suf) := by rw [hx, h2]; simp
    have hs : small P := by unfold small; omega
    have hym : y ∈ pre := by rw [h2]; simp
    have hcm : c ∈ P := by rw [hx]; simp
    have hyp : y ∈ P := by rw [hx]; simp [hym]
    have hlt := pre_lt hx
    have hlt2 := pre_lt hx2
    simp only [spec_IsPuzzle.l1, pre_lt hx2, pre_lt hx, pre_0, if_true, at_preP hx, at_preP hx2, pre_w hx2 hs]
    refine Ev.pos (by omega) (Ev.bind (specAlike_ev c.f0 c.f1 c.f2 y.f0 y.f1 y.f2 (hv c hcm) (hv y hyp) (pieceP_pos hc) (pieceP_pos (ho y hym))) ?_)
    have hl : meetF (pieceF c.f0 c.f2) (pieceF y.f0 y.f2) = likeP c y := rfl
    rw [hl]
    cases hq : likeP c y with
    | true =>
      refine Ev.pos rfl ?_
      simpa [hq] using hr
    | false =>
      refine Ev.neg (by simp) ?_
      have := specPz_l1 pre c suf hx hc ho s2 (p2 ++ [y]) (by rw [h2]; simp) (by simpa [hq] using hr)
      simpa using this
theorem specPz_l0 : ∀ (suf pre : List Piece), P = pre ++ suf → (∀ y ∈ pre, pieceB y.f0 y.f1 = true) → Ev (fun k => spec_IsPuzzle.l0 k (pre.length : Int) R P) (okPs pre suf)
  | [], pre, hx, ho => by
    refine Ev.succ ?_
    have hp := congrArg List.length hx
    simp only [List.length_append, List.length_nil] at hp
    simp only [spec_IsPuzzle.l0]
    exact Ev.neg (by omega) (Ev.now _)
  | c :: suf, pre, hx, ho => by
    refine Ev.succ ?_
    have hs : small P := by unfold small; omega
    simp only [spec_IsPuzzle.l0, pre_lt hx, pre_0, if_true, at_preP hx]
    refine Ev.bind (specIsPiece_ev c.f0 c.f1 c.f2 (hv c (by rw [hx]; simp))) ?_
    unfold okPs
    by_cases hc : pieceB c.f0 c.f1 = true
    · refine Ev.pos hc (specPz_l1 R P hP hv pre c suf hx hc ho pre [] rfl ?_)
      rw [hc, Bool.true_and]
      by_cases hq : (pre.any fun y => likeP c y) = true
      · exact Ev.pos hq (Ev.of_eq (Ev.now _) (by simp [hq]))
      · refine Ev.neg hq ?_
        rw [pre_w hx hs]
        have ih := specPz_l0 suf (pre ++ [c]) (by rw [hx]; simp) (fun y hy => by
          rcases List.mem_append.1 hy with hy | hy
          · exact ho y hy
          · simp at hy; exact hy ▸ hc)
        simp only [List.length_append, List.length_singleton, Int.natCast_add] at ih
        refine Ev.of_eq ih ?_
        simp [hq]
    · exact Ev.neg hc (Ev.of_eq (Ev.now _) (by simp [hc]))
theorem implPz_l1 {r : Bool} (n i : Int) (pre : List Piece) (c : Piece) (suf : List Piece) (hx : P = pre ++ c :: suf) (hc : pieceB c.f0 c.f1 = true) (ho : ∀ y ∈ pre, pieceB y.f0 y.f1 = true) : ∀ (s2 p2 : List Piece), pre = p2 ++ s2 →
    Ev (fun k => if (s2.any fun y => likeP c y) = true then some false else impl_IsPuzzle.l0 k P n (wrap64 (i + 1)) R P) r → Ev (fun k => impl_IsPuzzle.l1 k P n i pre (pre.length : Int) (p2.length : Int) R P c.f0 c.f1 c.f2) r
  | [], p2, h2, hr => by
    refine Ev.succ ?_
    have hp := congrArg List.length h2
    simp only [List.length_append, List.length_nil] at hp
    simp only [impl_IsPuzzle.l1]
    refine Ev.neg (by omega) ?_
    simpa using hr
  | y :: s2, p2, h2, hr => by
    refine Ev.succ ?_
    have hpl : pre.length ≤ P.length := by rw [hx]; simp
    have hs : small pre := by unfold small; omega
    have hym : y ∈ pre := by rw [h2]; simp
    have hcm : c ∈ P := by rw [hx]; simp
    have hyp : y ∈ P := by rw [hx]; simp [hym]
    simp only [impl_IsPuzzle.l1, pre_lt h2, pre_0, if_true, at_preP h2, pre_w h2 hs]
    have ih (hq : likeP c y = false) := implPz_l1 n i pre c suf hx hc ho s2 (p2 ++ [y]) (by rw [h2]; simp) (by simpa [hq] using hr)
    simp only [List.length_append, List.length_singleton, Int.natCast_add] at ih
    by_cases hl : c.f0.length = y.f0.length
    · refine Ev.pos (by omega) (Ev.bind (implAlike_ev c.f0 c.f1 c.f2 y.f0 y.f1 y.f2 (hv c hcm) (hv y hyp) (pieceP_pos hc) (pieceP_pos (ho y hym))) ?_)
      have hl : meetF (pieceF c.f0 c.f2) (pieceF y.f0 y.f2) = likeP c y := rfl
      rw [hl]
      cases hq : likeP c y with
      | true =>
        refine Ev.pos rfl ?_
        simpa [hq] using hr
      | false => exact Ev.neg (by simp) (ih hq)
    · exact Ev.neg (by omega) (ih (likeP_len hl))
theorem implPz_l0 : ∀ (suf pre : List Piece), P = pre ++ suf → (∀ y ∈ pre, pieceB y.f0 y.f1 = true) → Ev (fun k => impl_IsPuzzle.l0 k P (P.length : Int) (pre.length : Int) R P) (okPs pre suf)
  | [], pre, hx, ho => by
    refine Ev.succ ?_
    have hp := congrArg List.length hx
    simp only [List.length_append, List.length_nil] at hp
    simp only [impl_IsPuzzle.l0]
    exact Ev.neg (by omega) (Ev.now _)
  | c :: suf, pre, hx, ho => by
    refine Ev.succ ?_
    have hs : small P := by unfold small; omega
    have htk : P.take (pre.length : Int).toNat = pre := by rw [hx]; simp
    have hpl := pre_lt hx
    simp only [impl_IsPuzzle.l0, pre_lt hx, pre_0, if_true, at_preP hx, htk]
    refine Ev.bind (implIsPiece_ev c.f0 c.f1 c.f2 (hv c (by rw [hx]; simp))) ?_
    unfold okPs
    by_cases hc : pieceB c.f0 c.f1 = true
    · refine Ev.pos hc (Ev.pos (by simp at hpl; omega) (Ev.bind0 rfl (implPz_l1 R P hP hv _ (pre.length : Int) pre c suf hx hc ho pre [] rfl ?_)))
      rw [hc, Bool.true_and]
      by_cases hq : (pre.any fun y => likeP c y) = true
      · exact Ev.pos hq (Ev.of_eq (Ev.now _) (by simp [hq]))
      · refine Ev.neg hq ?_
        rw [pre_w hx hs]
        have ih := implPz_l0 suf (pre ++ [c]) (by rw [hx]; simp) (fun y hy => by
          rcases List.mem_append.1 hy with hy | hy
          · exact ho y hy
          · simp at hy; exact hy ▸ hc)
        simp only [List.length_append, List.length_singleton, Int.natCast_add] at ih
        refine Ev.of_eq ih ?_
        simp [hq]
    · exact Ev.neg hc (Ev.of_eq (Ev.now _) (by simp [hc]))
theorem specPuzzle_ev (hR : small R) : Ev (fun k => spec_IsPuzzle.f k R P) (puzzleB R P) := by
  unfold spec_IsPuzzle.f puzzleB
  refine Ev.bind (specIsRegion_ev R hR) ?_
  have jt : Ev (fun k => spec_IsPuzzle.j0 k true R P) false := Ev.step (fun k => spec_IsPuzzle.j0.eq_2 _ _ _ _) (Ev.pos rfl (Ev.now _))
  by_cases h : regionB R = true
  · refine Ev.pos h ?_
    rw [in_eq]
    refine Ev.bind0 rfl ?_
    by_cases hn : 1 ≤ (P.length : Int) ∧ (P.length : Int) ≤ 12
    · rw [decide_eq_true hn, h]
      exact Ev.step (fun k => spec_IsPuzzle.j0.eq_2 _ _ _ _) (Ev.neg (by simp) (Ev.of_eq (specPz_l0 R P hP hv P [] rfl (by simp)) (by simp)))
    · rw [decide_eq_false hn]
      exact Ev.of_eq jt (by simp)
  · exact Ev.neg h (Ev.of_eq jt (by simp [h]))
theorem implPuzzle_ev (hR : small R) : Ev (fun k => impl_IsPuzzle.f k R P) (puzzleB R P) := by
  unfold impl_IsPuzzle.f puzzleB
  refine Ev.bind (implIsRegion_ev R hR) ?_
  have jt : Ev (fun k => impl_IsPuzzle.j0 k true R P) false := Ev.step (fun k => impl_IsPuzzle.j0.eq_2 _ _ _ _) (Ev.pos rfl (Ev.now _))
  by_cases h : regionB R = true
  · refine Ev.pos h ?_
    by_cases h1 : (P.length : Int) < 1
    · have hn : ¬ (1 ≤ (P.length : Int) ∧ (P.length : Int) ≤ 12) := by omega
      rw [decide_eq_false hn]
      exact Ev.pos h1 (Ev.of_eq jt (by simp))
    · refine Ev.neg h1 ?_
      by_cases h2 : (P.length : Int) > 12
      · have hn : ¬ (1 ≤ (P.length : Int) ∧ (P.length : Int) ≤ 12) := by omega
        rw [decide_eq_false hn, decide_eq_true h2]
        exact Ev.of_eq jt (by simp)
      · have hn : 1 ≤ (P.length : Int) ∧ (P.length : Int) ≤ 12 := by omega
        rw [decide_eq_true hn, decide_eq_false h2, h]
        exact Ev.step (fun k => impl_IsPuzzle.j0.eq_2 _ _ _ _) (Ev.neg (by simp) (Ev.of_eq (implPz_l0 R P hP hv P [] rfl (by simp)) (by simp)))
  · exact Ev.neg h (Ev.of_eq jt (by simp [h]))
end
def areaP : List Piece → Int → Int
  | [], n => n
  | c :: r, n => areaP r (wrap64 (n + wrap64 (c.f1 * (c.f0.length : Int))))
theorem specArea_ev (R : List Cell) (P : List Piece) (hP : small P) : Ev (fun k => spec_l11Area.f k R P) (areaP P 0) := by
  unfold spec_l11Area.f
  refine loop_list P (fun k i (n : Int) => spec_l11Area.l0 k n i R P) (fun _ suf n => areaP suf n) (fun _ _ => True) ?_ ?_ 0 trivial
  · intro n _
    simp only [spec_l11Area.l0, len_lt, if_false]
    exact Ev.now _
  · intro pre c suf n hx _ ih
    simp only [spec_l11Area.l0, pre_lt hx, pre_0, if_true, at_preP hx, pre_w hx hP]
    exact ih _ trivial
theorem implArea_ev (R : List Cell) (P : List Piece) (hP : small P) : Ev (fun k => impl_pieceArea.f k R P) (areaP P 0) := by
  unfold impl_pieceArea.f
  refine loop_list P (fun k i (n : Int) => impl_pieceArea.l0 k n P (P.length : Int) i) (fun _ suf n => areaP suf n) (fun _ _ => True) ?_ ?_ 0 trivial
  · intro n _
    simp only [impl_pieceArea.l0, len_lt, if_false]
    exact Ev.now _
  · intro pre c suf n hx _ ih
    simp only [impl_pieceArea.l0, pre_lt hx, pre_0, if_true, at_preP hx, pre_w hx hP]
    exact ih _ trivial
theorem puzzle_args {a : List LCell} {b : List LPiece} (h : ¬ szZ a b < 0) : small (a.map cellOf) ∧ (b.map pieceOf).length ≤ 1048576 ∧ (∀ c ∈ b.map pieceOf, c.f0.length ≤ 1048576) ∧ small (b.map pieceOf) ∧ ∀ c ∈ b.map pieceOf, small c.f0 := by
  obtain ⟨h1, h2, h3⟩ := szZ_le h
  have h4 : ∀ c ∈ b.map pieceOf, c.f0.length ≤ 1048576 := fun c hc => by
    obtain ⟨d, hd, rfl⟩ := List.mem_map.1 hc
    have := h3 d hd
    show (d.f0.map cellOf).length ≤ _
    simpa using this
  refine ⟨by unfold small; simp; omega, by simpa using h2, h4, by unfold small; simp; omega, fun c hc => by have := h4 c hc; unfold small; omega⟩
end Go.Proofs.YtfdfdifjkaaeoaaGreat.L
end
section
namespace Go.Proofs.YtfdfdifjkaaeoaaGreat.Pure
open Go.RowKit Go.Proofs.YtfdfdifjkaaeoaaGreatW.PrintWords Go.Proofs.YtfdfdifjkaaeoaaGreat.F Go.Proofs.YtfdfdifjkaaeoaaGreat.L
set_option linter.unusedVariables false
def fitB (R : List Cell) (P : List Piece) : Bool := if puzzleB R P = true then (areaP P 0 == (R.length : Int)) else false
theorem specFit_ev (R : List Cell) (P : List Piece) (hP : P.length ≤ 1048576) (hv : ∀ c ∈ P, c.f0.length ≤ 1048576) (hR : small R) (hs : small P) : Ev (fun k => spec_DoesFit.f k R P) (fitB R P) := by
  unfold spec_DoesFit.f fitB
  exact Ev.bind (specPuzzle_ev R P hP hv hR) (Ev.if_ (fun _ => Ev.bind (specArea_ev R P hs) (Ev.now _)) (fun _ => Ev.now _))
theorem implFit_ev (R : List Cell) (P : List Piece) (hP : P.length ≤ 1048576) (hv : ∀ c ∈ P, c.f0.length ≤ 1048576) (hR : small R) (hs : small P) : Ev (fun k => impl_DoesFit.f k R P) (fitB R P) := by
  unfold impl_DoesFit.f fitB
  exact Ev.bind (implPuzzle_ev R P hP hv hR) (Ev.if_ (fun _ => Ev.bind (implArea_ev R P hs) (Ev.now _)) (fun _ => Ev.now _))
theorem FnExactDoesFit (a : List LCell) (b : List LPiece) (hv : V25 ⟨a, b⟩) : ∃ k, laws_FnExactDoesFit.f k a b = some true := by
  refine Ev.rounds ?_
  have va : a.length ≤ 9223372036854775807 := hv.1.1
  have vb : b.length ≤ 9223372036854775807 := hv.2.1
  have vc : ∀ c ∈ b, c.f0.length ≤ 9223372036854775807 := fun c hc => (hv.2.2 c hc).1.1
  unfold laws_FnExactDoesFit.f
  refine Ev.bind (szPuzzle_ev a b va vb vc) ?_
  by_cases h : szZ a b < 0
  · rw [if_pos h]; exact Ev.pos (by decide) (Ev.now _)
  · rw [if_neg h]
    obtain ⟨h1, h2, h3⟩ := szZ_le h
    obtain ⟨g1, g2, g3, g4, g5⟩ := puzzle_args h
    have tz := toPuzzle_ev a b h1 h2 h3
    refine Ev.neg h (Ev.bind tz (Ev.bind (specFit_ev _ _ g2 g3 g1 g4) (Ev.bind tz (Ev.bind (implFit_ev _ _ g2 g3 g1 g4) (Ev.neg (by simp) ?_)))))
    exact Ev.bind tz (Ev.bind (eqPuzzle_ev _ _ g1 g4 g5) (Ev.pos rfl (Ev.now _)))
end Go.Proofs.YtfdfdifjkaaeoaaGreat.Pure
end
