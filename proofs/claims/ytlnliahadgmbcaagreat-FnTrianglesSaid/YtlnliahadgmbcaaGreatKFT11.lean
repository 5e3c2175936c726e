/- The row of FnTriangles, with what it needs: text 12 of 13. -/
import Derived.Test.YtlnliahadgmbcaaGreatKFT10
set_option maxHeartbeats 8000000
set_option maxRecDepth 100000
section
namespace Go.Proofs.YtlnliahadgmbcaaGreat.L
open Go.RowKit Go.Proofs.YtlnliahadgmbcaaGreatW.PrintWords Go.Proofs.YtlnliahadgmbcaaGreatW.PrintLast Go.Proofs.YtlnliahadgmbcaaGreatW.PrintMore Go.Proofs.YtlnliahadgmbcaaGreat.F
set_option linter.unusedVariables false
set_option linter.unusedSimpArgs false
theorem compF_asc {l : List (List Cell)} (h : l.Pairwise fun a b => cmpS a b ≤ 0) : asc (compF l) := by
  cases l with
  | nil => exact List.Pairwise.nil
  | cons a r => rw [compF]; exact compG_asc r a h
def tidyL (l : List (List Cell)) : List (List Cell) := compF (sortS l)
theorem tidyL_mem {l : List (List Cell)} {x : List Cell} : x ∈ tidyL l ↔ x ∈ l := compF_mem.trans sortS_mem
theorem tidyL_asc (l : List (List Cell)) : asc (tidyL l) := compF_asc (sortS_sorted l)
theorem tidyL_len (l : List (List Cell)) : (tidyL l).length ≤ l.length := by
  refine Nat.le_trans (compF_len _) (Nat.le_of_eq ?_)
  exact (List.mergeSort_perm _ _).length_eq
theorem implTidy_eq (l : List (List Cell)) (h0 : 0 < l.length) (h1 : l.length < 4611686018427387904) : impl_tidyShapes.f l = some (tidyL l) := by
  unfold impl_tidyShapes.f
  rw [if_pos ⟨h0, h1⟩]
  rfl
def insS (x : List Cell) : List (List Cell) → List (List Cell)
  | [] => [x]
  | a :: r => if cmpS x a < 0 then x :: a :: r else a :: insS x r
theorem insS_mem (x : List Cell) : ∀ (l : List (List Cell)) (y : List Cell), y ∈ insS x l ↔ y = x ∨ y ∈ l
  | [], y => by simp [insS]
  | a :: r, y => by
    unfold insS
    split
    · simp
    · rw [List.mem_cons, insS_mem x r y, List.mem_cons]
      constructor
      · rintro (h | h | h)
        · exact .inr (.inl h)
        · exact .inl h
        · exact .inr (.inr h)
      · rintro (h | h | h)
        · exact .inr (.inl h)
        · exact .inl h
        · exact .inr (.inr h)
theorem insS_len (x : List Cell) : ∀ l : List (List Cell), (insS x l).length = l.length + 1
  | [] => rfl
  | a :: r => by unfold insS; split <;> simp [insS_len x r]
theorem insS_asc (x : List Cell) : ∀ l : List (List Cell), asc l → x ∉ l → asc (insS x l)
  | [], _, _ => by simp [insS, asc]
  | a :: r, h, hx => by
    obtain ⟨h1, h2⟩ := List.pairwise_cons.1 h
    unfold insS
    split
    · rename_i hc
      refine List.pairwise_cons.2 ⟨fun b hb => ?_, h⟩
      rcases List.mem_cons.1 hb with rfl | hb
      · exact hc
      · exact cmpS_lt_trans hc (h1 b hb)
    · rename_i hc
      refine List.pairwise_cons.2 ⟨fun b hb => ?_, insS_asc x r h2 (fun e => hx (List.mem_cons_of_mem _ e))⟩
      rcases (insS_mem x r b).1 hb with rfl | hb
      · have h3 : cmpS b a ≠ 0 := fun e => hx (by rw [(cmpS_zero b a).1 e]; exact List.mem_cons_self)
        have := cmpS_anti b a
        omega
      · exact h1 b hb
def addL (l : List (List Cell)) (x : List Cell) : List (List Cell) := if x ∈ l then l else insS x l
theorem addL_mem {l : List (List Cell)} {x y : List Cell} : y ∈ addL l x ↔ y = x ∨ y ∈ l := by
  unfold addL
  by_cases h : x ∈ l
  · rw [if_pos h]
    exact ⟨.inr, fun h' => h'.elim (fun e => e ▸ h) id⟩
  · rw [if_neg h]
    exact insS_mem x l y
theorem addL_asc {l : List (List Cell)} {x : List Cell} (h : asc l) : asc (addL l x) := by
  unfold addL
  by_cases hx : x ∈ l
  · rw [if_pos hx]; exact h
  · rw [if_neg hx]; exact insS_asc x l h hx
theorem addL_len (l : List (List Cell)) (x : List Cell) : (addL l x).length ≤ l.length + 1 := by
  unfold addL
  split
  · omega
  · rw [insS_len]; exact Nat.le_refl _
theorem specAdd_ev (l : List (List Cell)) (x : List Cell) (hl : l.length ≤ 1000000000) (hx_ : small x) : Ev (fun k => spec_l03Add.f k l x) (addL l x) := by
  have hs : small l := by unfold small; omega
  unfold spec_l03Add.f
  have key := loop_list l (fun k i (s : List (List Cell) × Bool) => spec_l03Add.l0 k l x s.1 s.2 i) (fun pre suf s => if x ∈ suf then l else if s.2 = true then s.1 ++ suf else s.1 ++ insS x suf) (fun pre s => s.1.length ≤ pre.length + 1 ∧ (s.2 = false → s.1.length ≤ pre.length)) ?_ ?_ ([], false) ⟨by simp, fun _ => by simp⟩
  · refine Ev.of_eq key ?_
    simp [addL]
  · rintro ⟨s, b⟩ ⟨hi, hj⟩
    simp only at hi hj
    simp only [spec_l03Add.l0, len_lt, if_false]
    cases b
    · refine Ev.neg (by simp) (Ev.pos (by omega) (Ev.of_eq (Ev.now _) ?_))
      simp [insS]
    · refine Ev.pos rfl (Ev.of_eq (Ev.now _) ?_)
      simp
  · rintro pre c suf ⟨s, b⟩ hx ⟨hi, hj⟩ ih
    have hp := pre_len hx
    simp only at hi hj
    simp only [spec_l03Add.l0, pre_lt hx, pre_0, if_true, at_preL2 hx, pre_w hx hs]
    refine Ev.bind (specCompare_ev x c hx_) ?_
    by_cases h0 : cmpS x c = 0
    · have e := (cmpS_zero x c).1 h0
      refine Ev.pos h0 (Ev.of_eq (Ev.now _) ?_)
      simp [e]
    · have hne : x ≠ c := fun e => h0 ((cmpS_zero x c).2 e)
      refine Ev.neg h0 ?_
      by_cases h1 : cmpS x c < 0
      · refine Ev.pos h1 ?_
        cases b
        · refine Ev.neg (by simp) (Ev.pos (by omega) ?_)
          have hj' := hj rfl
          refine Ev.pos (by simp; omega) (Ev.of_eq (ih ((s ++ [x]) ++ [c], true) ⟨by simp; omega, fun h => by cases h⟩) ?_)
          simp [insS, h1, hne]
        · refine Ev.pos rfl (Ev.pos (by omega) (Ev.of_eq (ih (s ++ [c], true) ⟨by simp; omega, fun h => by cases h⟩) ?_))
          simp [hne]
      · refine Ev.neg h1 (Ev.pos (by omega) (Ev.of_eq (ih (s ++ [c], b) ⟨by simp; omega, fun h => by have := hj h; simp; omega⟩) ?_))
        cases b
        · simp [insS, h1, hne]
        · simp [hne]
theorem sorted_le (x y : Cell) : (!Go.Proofs.ltOf cmpV y x) = decide (¬ ltC y x) := by
  rw [ltV]
  by_cases h : ltC y x
  · have h' : y.f1 < x.f1 ∨ y.f1 = x.f1 ∧ y.f0 < x.f0 := h
    simp [h, h']
  · have h' : ¬ (y.f1 < x.f1 ∨ y.f1 = x.f1 ∧ y.f0 < x.f0) := h
    simp only [h, h', decide_false]
    rfl
theorem sortC_perm (l : List Cell) : (sortC l).Perm l := List.mergeSort_perm _ _
theorem sortC_len (l : List Cell) : (sortC l).length = l.length := (sortC_perm l).length_eq
theorem sortC_mem {l : List Cell} {c : Cell} : c ∈ sortC l ↔ c ∈ l := (sortC_perm l).mem_iff
theorem sortC_sorted (l : List Cell) : (sortC l).Pairwise fun a b => ¬ ltC b a := by
  have := List.pairwise_mergeSort (le := fun x y : Cell => !Go.Proofs.ltOf cmpV y x) (fun a b c h1 h2 => by
    rw [sorted_le, decide_eq_true_eq] at *
    unfold ltC at *
    omega) (fun a b => by
    rw [sorted_le, sorted_le, Bool.or_eq_true, decide_eq_true_eq, decide_eq_true_eq]
    unfold ltC
    omega) l
  exact this.imp fun h => by rw [sorted_le, decide_eq_true_eq] at h; exact h
theorem eq_of_sorted : ∀ (l l' : List Cell), l.Perm l' → (l.Pairwise fun a b => ¬ ltC b a) → (l'.Pairwise fun a b => ¬ ltC b a) → l = l'
  | [], l', hp, _, _ => (List.Perm.nil_eq hp)
  | a :: r, [], hp, _, _ => absurd hp.symm (by simp)
  | a :: r, b :: s, hp, h1, h2 => by
    obtain ⟨h3, h4⟩ := List.pairwise_cons.1 h1
    obtain ⟨h5, h6⟩ := List.pairwise_cons.1 h2
    have hab : a = b := by
      have ha : a ∈ b :: s := hp.mem_iff.1 List.mem_cons_self
      have hb : b ∈ a :: r := hp.mem_iff.2 List.mem_cons_self
      have n1 : ¬ ltC b a := by
        rcases List.mem_cons.1 hb with e | e
        · rw [e]; unfold ltC; omega
        · exact h3 b e
      have n2 : ¬ ltC a b := by
        rcases List.mem_cons.1 ha with e | e
        · rw [e]; unfold ltC; omega
        · exact h5 a e
      obtain ⟨a0, a1⟩ := a
      obtain ⟨b0, b1⟩ := b
      unfold ltC at n1 n2
      simp only at n1 n2
      simp only [S25.mk.injEq]
      omega
    subst hab
    rw [eq_of_sorted r s (List.Perm.cons_inv hp) h4 h6]
theorem sortC_eq {l l' : List Cell} (hp : l'.Perm l) (hs : l'.Pairwise fun a b => ¬ ltC b a) : sortC l = l' :=
  eq_of_sorted _ _ ((sortC_perm l).trans hp.symm) (sortC_sorted l) hs
theorem implSorted_eq (l : List Cell) (h0 : 0 < l.length) (h1 : l.length ≤ 1000000000000) : impl_sorted.f l = some (sortC l) := by
  unfold impl_sorted.f impl_Cell_46.f impl_Cell_47__impl_compareCells.f
  rw [if_pos h1, Option.bind_some, if_pos ⟨h0, by omega⟩]
  rfl
def insC (c : Cell) : List Cell → List Cell
  | [] => [c]
  | a :: r => if ltC c a then c :: a :: r else a :: insC c r
theorem insC_perm (c : Cell) : ∀ l : List Cell, (insC c l).Perm (c :: l)
  | [] => List.Perm.refl _
  | a :: r => by
    unfold insC
    split
    · exact List.Perm.refl _
    · exact ((insC_perm c r).cons a).trans (List.Perm.swap c a r)
theorem insC_sorted (c : Cell) : ∀ l : List Cell, (l.Pairwise fun a b => ¬ ltC b a) → (insC c l).Pairwise fun a b => ¬ ltC b a
  | [], _ => by simp [insC]
  | a :: r, h => by
    obtain ⟨h1, h2⟩ := List.pairwise_cons.1 h
    unfold insC
    split
    · rename_i hc
      refine List.pairwise_cons.2 ⟨fun b hb => ?_, h⟩
      rcases List.mem_cons.1 hb with rfl | hb
      · unfold ltC at *; omega
      · have := h1 b hb
        unfold ltC at *; omega
    · rename_i hc
      refine List.pairwise_cons.2 ⟨fun b hb => ?_, insC_sorted c r h2⟩
      rcases List.mem_cons.1 ((insC_perm c r).mem_iff.1 hb) with rfl | hb
      · exact hc
      · exact h1 b hb
theorem specInsert_ev (l : List Cell) (c : Cell) (hl : l.length ≤ 1048576) : Ev (fun k => spec_l02Insert.f k l c.f0 c.f1) (insC c l) := by
  have hs : small l := by unfold small; omega
  unfold spec_l02Insert.f
  have := loop_list l (fun k i (s : List Cell × Bool) => spec_l02Insert.l0 k l s.1 s.2 i c.f0 c.f1) (fun pre suf s => if s.2 = true then s.1 ++ suf else s.1 ++ insC c suf) (fun pre s => s.1.length ≤ pre.length + 1 ∧ (s.2 = false → s.1.length = pre.length)) ?_ ?_ ([], false) ⟨by simp, fun _ => rfl⟩
  · simpa using this
  · rintro ⟨s, b⟩ ⟨h1, h2⟩
    simp only at h1 h2
    simp only [spec_l02Insert.l0, len_lt, if_false]
    cases b
    · refine Ev.neg (by simp) (Ev.pos (by omega) (Ev.of_eq (Ev.now _) ?_))
      simp [insC]
    · refine Ev.pos rfl (Ev.of_eq (Ev.now _) ?_)
      simp
  · rintro pre d suf ⟨s, b⟩ hx ⟨h1, h2⟩ ih
    have hp := pre_len hx
    simp only at h1 h2
    simp only [spec_l02Insert.l0, pre_lt hx, pre_0, if_true, at_pre hx, pre_w hx hs]
    cases b
    · refine Ev.neg (by simp) ?_
      simp only [l02Less_eq, Option.bind_some]
      have h2' := h2 rfl
      by_cases hd : ltC c d
      · have hd' : c.f1 < d.f1 ∨ c.f1 = d.f1 ∧ c.f0 < d.f0 := hd
        refine Ev.pos (by simpa using hd') (Ev.pos (by omega) ?_)
        refine Ev.pos (by simp; omega) (Ev.of_eq (ih ((s ++ [(⟨c.f0, c.f1⟩ : Cell)]) ++ [(⟨d.f0, d.f1⟩ : Cell)], true) ⟨by simp; omega, fun h => by cases h⟩) ?_)
        simp [insC, hd]
      · have hd' : ¬ (c.f1 < d.f1 ∨ c.f1 = d.f1 ∧ c.f0 < d.f0) := hd
        refine Ev.neg (by simpa using hd') (Ev.pos (by omega) (Ev.of_eq (ih (s ++ [(⟨d.f0, d.f1⟩ : Cell)], false) ⟨by simp; omega, fun _ => by simp; omega⟩) ?_))
        simp [insC, hd]
    · refine Ev.pos rfl (Ev.pos (by omega) (Ev.of_eq (ih (s ++ [(⟨d.f0, d.f1⟩ : Cell)], true) ⟨by simp; omega, fun h => by cases h⟩) ?_))
      simp
def insAll : List Cell → List Cell → List Cell
  | acc, [] => acc
  | acc, c :: r => insAll (insC c acc) r
theorem insAll_spec : ∀ (l acc : List Cell), (acc.Pairwise fun a b => ¬ ltC b a) → (insAll acc l).Perm (acc ++ l) ∧ (insAll acc l).Pairwise fun a b => ¬ ltC b a
  | [], acc, h => ⟨by simp [insAll], h⟩
  | c :: r, acc, h => by
    obtain ⟨h1, h2⟩ := insAll_spec r (insC c acc) (insC_sorted c acc h)
    refine ⟨h1.trans ?_, h2⟩
    refine ((insC_perm c acc).append_right r).trans ?_
    exact List.perm_middle.symm
theorem specSortI_ev (l : List Cell) (hl : l.length ≤ 1048576) : Ev (fun k => spec_l02Sort.f k l) (insAll [] l) := by
  have hs : small l := by unfold small; omega
  unfold spec_l02Sort.f
  refine loop_list l (fun k i (s : List Cell) => spec_l02Sort.l0 k l s i) (fun pre suf s => insAll s suf) (fun pre s => s.length = pre.length) ?_ ?_ [] rfl
  · intro s _
    simp only [spec_l02Sort.l0, len_lt, if_false]
    exact Ev.now _
  · intro pre c suf s hx hi ih
    have hp := pre_len hx
    simp only [spec_l02Sort.l0, pre_lt hx, pre_0, if_true, at_pre hx, pre_w hx hs]
    refine Ev.bind (specInsert_ev s c (by omega)) (ih _ ?_)
    rw [(insC_perm c s).length_eq]
    simp [hi]
theorem insAll_eq (l : List Cell) : insAll [] l = sortC l := by
  obtain ⟨h1, h2⟩ := insAll_spec l [] List.Pairwise.nil
  exact (sortC_eq (by simpa using h1) h2).symm
theorem specSort_ev (l : List Cell) (hl : l.length ≤ 1048576) : Ev (fun k => spec_l02Sort.f k l) (sortC l) := by
  rw [← insAll_eq]
  exact specSortI_ev l hl
def moveL (l : List Cell) (x y : Int) : List Cell := l.map fun c => ⟨wrap64 (c.f0 + x), wrap64 (c.f1 + y)⟩
theorem moveL_len (l : List Cell) (x y : Int) : (moveL l x y).length = l.length := by simp [moveL]
theorem specMove_ev (l : List Cell) (x y : Int) (hl : l.length ≤ 1048576) : Ev (fun k => spec_l02Move.f k l x y) (moveL l x y) := by
  have hs : small l := by unfold small; omega
  unfold spec_l02Move.f
  have := loop_list l (fun k i (s : List Cell) => spec_l02Move.l0 k l x y s i) (fun pre suf s => s ++ moveL suf x y) (fun pre s => s.length = pre.length) ?_ ?_ [] rfl
  · simpa using this
  · intro s _
    simp only [spec_l02Move.l0, len_lt, if_false]
    exact Ev.of_eq (Ev.now _) (by simp [moveL])
  · intro pre c suf s hx hi ih
    have hp := pre_len hx
    simp only [spec_l02Move.l0, pre_lt hx, pre_0, if_true, at_pre hx, pre_w hx hs]
    refine Ev.pos (by omega) (Ev.of_eq (ih _ (by simp [hi])) ?_)
    simp [moveL]
theorem implMoved_ev (l : List Cell) (x y : Int) (hl : l.length ≤ 1048576) : Ev (fun k => impl_moved.f k l x y) (moveL l x y) := by
  have hs : small l := by unfold small; omega
  unfold impl_moved.f
  refine Ev.pos (by omega) (Ev.pos (by omega) ?_)
  have := loop_list l (fun k i (s : List Cell) => impl_moved.l0 k x y s l (l.length : Int) i) (fun pre suf s => s ++ moveL suf x y) (fun pre s => s.length = pre.length) ?_ ?_ [] rfl
  · simpa using this
  · intro s _
    simp only [impl_moved.l0, len_lt, if_false]
    exact Ev.of_eq (Ev.now _) (by simp [moveL])
  · intro pre c suf s hx hi ih
    have hp := pre_len hx
    simp only [impl_moved.l0, pre_lt hx, pre_0, if_true, at_pre hx, pre_w hx hs]
    refine Ev.pos (by omega) (Ev.of_eq (ih _ (by simp [hi])) ?_)
    simp [moveL]
end Go.Proofs.YtlnliahadgmbcaaGreat.L
end
section
namespace Go.Proofs.YtlnliahadgmbcaaGreat.L
open Go.RowKit Go.Proofs.YtlnliahadgmbcaaGreatW.PrintWords Go.Proofs.YtlnliahadgmbcaaGreatW.PrintLast Go.Proofs.YtlnliahadgmbcaaGreatW.PrintMore Go.Proofs.YtlnliahadgmbcaaGreat.F
set_option linter.unusedVariables false
set_option linter.unusedSimpArgs false
def freeOf (s l : List Cell) : List Cell := l.filter fun d => !decide (d ∈ s)
def besideR (nb : Cell → List Cell) (s : List Cell) : List Cell := s.flatMap fun c => freeOf s (nb c)
def besideL (nb : Cell → List Cell) (s : List Cell) : List Cell := compF (sortC (besideR nb s))
def grownR (nb : Cell → List Cell) (nf : List Cell → List Cell) (s : List Cell) : List (List Cell) := (besideL nb s).map fun d => nf (sortC (s ++ [d]))
def grownL (nb : Cell → List Cell) (nf : List Cell → List Cell) (s : List Cell) : List (List Cell) := tidyL (grownR nb nf s)
def nextI (nb : Cell → List Cell) (nf : List Cell → List Cell) (l : List (List Cell)) : List (List Cell) := tidyL (l.flatMap (grownL nb nf))
def moreOf (nb : Cell → List Cell) (nf : List Cell → List Cell) (s : List Cell) : List (List Cell) := s.flatMap fun c => (freeOf s (nb c)).map fun d => nf (insC d s)
def nextS (nb : Cell → List Cell) (nf : List Cell → List Cell) (l : List (List Cell)) : List (List Cell) := (l.flatMap (moreOf nb nf)).foldl addL []
def growI (nb : Cell → List Cell) (nf : List Cell → List Cell) : Nat → List (List Cell) → List (List Cell)
  | 0, l => l
  | n + 1, l => growI nb nf n (nextI nb nf l)
def growS (nb : Cell → List Cell) (nf : List Cell → List Cell) : Nat → List (List Cell) → List (List Cell)
  | 0, l => l
  | n + 1, l => growS nb nf n (nextS nb nf l)
theorem foldAdd_asc : ∀ (xs acc : List (List Cell)), asc acc → asc (xs.foldl addL acc)
  | [], _, h => h
  | x :: r, acc, h => foldAdd_asc r _ (addL_asc h)
theorem foldAdd_mem : ∀ (xs acc : List (List Cell)) (y : List Cell), y ∈ xs.foldl addL acc ↔ y ∈ xs ∨ y ∈ acc
  | [], acc, y => by simp
  | x :: r, acc, y => by
    rw [List.foldl_cons, foldAdd_mem r, addL_mem, List.mem_cons]
    constructor
    · rintro (h | h | h)
      · exact .inl (.inr h)
      · exact .inl (.inl h)
      · exact .inr h
    · rintro ((h | h) | h)
      · exact .inr (.inl h)
      · exact .inl h
      · exact .inr (.inr h)
theorem foldAdd_len : ∀ (xs acc : List (List Cell)), (xs.foldl addL acc).length ≤ acc.length + xs.length
  | [], _ => by simp
  | x :: r, acc => by
    rw [List.foldl_cons, List.length_cons]
    have := foldAdd_len r (addL acc x)
    have := addL_len acc x
    omega
theorem insC_eq {s : List Cell} (d : Cell) (h : s.Pairwise fun a b => ¬ ltC b a) : insC d s = sortC (s ++ [d]) :=
  (sortC_eq ((insC_perm d s).trans (List.perm_append_singleton d s).symm) (insC_sorted d s h)).symm
theorem lt_sorted {s : List Cell} (h : s.Pairwise ltC) : s.Pairwise fun a b => ¬ ltC b a := h.imp fun {a b} h => by unfold ltC at *; omega
theorem besideL_mem {nb : Cell → List Cell} {s : List Cell} {d : Cell} : d ∈ besideL nb s ↔ ∃ c ∈ s, d ∈ nb c ∧ d ∉ s := by
  unfold besideL besideR freeOf
  rw [compF_mem, sortC_mem, List.mem_flatMap]
  simp
theorem grownL_mem {nb : Cell → List Cell} {nf : List Cell → List Cell} {s x : List Cell} (h : s.Pairwise ltC) : x ∈ grownL nb nf s ↔ x ∈ moreOf nb nf s := by
  unfold grownL grownR moreOf
  rw [tidyL_mem, List.mem_map, List.mem_flatMap]
  constructor
  · rintro ⟨d, hd, rfl⟩
    obtain ⟨c, hc, h1, h2⟩ := besideL_mem.1 hd
    refine ⟨c, hc, List.mem_map.2 ⟨d, ?_, by rw [insC_eq d (lt_sorted h)]⟩⟩
    unfold freeOf
    simp [h1, h2]
  · rintro ⟨c, hc, hx⟩
    obtain ⟨d, hd, rfl⟩ := List.mem_map.1 hx
    unfold freeOf at hd
    simp at hd
    exact ⟨d, besideL_mem.2 ⟨c, hc, hd.1, hd.2⟩, by rw [insC_eq d (lt_sorted h)]⟩
theorem next_eq {nb : Cell → List Cell} {nf : List Cell → List Cell} {l : List (List Cell)} (h : ∀ s ∈ l, s.Pairwise ltC) : nextI nb nf l = nextS nb nf l := by
  refine asc_eq _ _ (tidyL_asc _) (foldAdd_asc _ _ List.Pairwise.nil) fun x => ?_
  unfold nextI nextS
  rw [tidyL_mem, foldAdd_mem, List.mem_flatMap, List.mem_flatMap]
  constructor
  · rintro ⟨s, hs, hx⟩
    exact .inl ⟨s, hs, (grownL_mem (h s hs)).1 hx⟩
  · rintro (⟨s, hs, hx⟩ | hx)
    · exact ⟨s, hs, (grownL_mem (h s hs)).2 hx⟩
    · simp at hx
structure Good (P : Cell → Prop) (m : Int) (n : Nat) (s : List Cell) : Prop where
  len : s.length = n
  pos : 1 ≤ n
  lt : s.Pairwise ltC
  box : ∀ c ∈ s, 0 ≤ c.f0 ∧ c.f0 ≤ 2 + m ∧ 0 ≤ c.f1 ∧ c.f1 ≤ 2 + m
  sp : ∀ c ∈ s, ∀ d ∈ s, c.f0 - d.f0 ≤ m ∧ c.f1 - d.f1 ≤ m ∧ (c.f0 + c.f1) - (d.f0 + d.f1) ≤ m
  p : ∀ c ∈ s, P c
structure Pre (P : Cell → Prop) (m : Int) (n : Nat) (s : List Cell) : Prop where
  len : s.length = n
  pos : 1 ≤ n
  lt : s.Pairwise ltC
  box : ∀ c ∈ s, -1000 ≤ c.f0 ∧ c.f0 ≤ 1000 ∧ -1000 ≤ c.f1 ∧ c.f1 ≤ 1000
  sp : ∀ c ∈ s, ∀ d ∈ s, c.f0 - d.f0 ≤ m ∧ c.f1 - d.f1 ≤ m ∧ (c.f0 + c.f1) - (d.f0 + d.f1) ≤ m
  p : ∀ c ∈ s, P c
structure Latt (nb : Cell → List Cell) (nf : List Cell → List Cell) (P : Cell → Prop) (D : Int) : Prop where
  d0 : 0 ≤ D ∧ D ≤ 2
  near : ∀ c, (-500 ≤ c.f0 ∧ c.f0 ≤ 500 ∧ -500 ≤ c.f1 ∧ c.f1 ≤ 500) → P c → ∀ d ∈ nb c, (d.f0 - c.f0 ≤ D ∧ c.f0 - d.f0 ≤ D) ∧ (d.f1 - c.f1 ≤ D ∧ c.f1 - d.f1 ≤ D) ∧ ((d.f0 + d.f1) - (c.f0 + c.f1) ≤ D ∧ (c.f0 + c.f1) - (d.f0 + d.f1) ≤ D) ∧ P d
  norm : ∀ s n m, 0 ≤ m → m ≤ 100 → Pre P m n s → Good P m n (nf s)
  cnt : ∀ c, (nb c).length ≤ 6
  low : ∀ c, (-500 ≤ c.f0 ∧ c.f0 ≤ 500 ∧ -500 ≤ c.f1 ∧ c.f1 ≤ 500) → ∃ d ∈ nb c, ltC d c
theorem insC_mem {c d : Cell} {s : List Cell} : c ∈ insC d s ↔ c = d ∨ c ∈ s := by
  rw [(insC_perm d s).mem_iff, List.mem_cons]
theorem insC_lt (d : Cell) : ∀ s : List Cell, s.Pairwise ltC → d ∉ s → (insC d s).Pairwise ltC
  | [], _, _ => by simp [insC]
  | a :: r, h, hd => by
    obtain ⟨h1, h2⟩ := List.pairwise_cons.1 h
    unfold insC
    split
    · rename_i hc
      refine List.pairwise_cons.2 ⟨fun b hb => ?_, h⟩
      rcases List.mem_cons.1 hb with rfl | hb
      · exact hc
      · have := h1 b hb
        unfold ltC at *; omega
    · rename_i hc
      refine List.pairwise_cons.2 ⟨fun b hb => ?_, insC_lt d r h2 (fun e => hd (List.mem_cons_of_mem _ e))⟩
      rcases insC_mem.1 hb with rfl | hb
      · have hne : b ≠ a := fun e => hd (by rw [e]; exact List.mem_cons_self)
        obtain ⟨b0, b1⟩ := b
        obtain ⟨a0, a1⟩ := a
        unfold ltC at *
        simp only [ne_eq, S25.mk.injEq] at *
        omega
      · exact h1 b hb
section
variable {nb : Cell → List Cell} {nf : List Cell → List Cell} {P : Cell → Prop} {D : Int}
theorem Good.more (L : Latt nb nf P D) {m : Int} {n : Nat} {s : List Cell} (h : Good P m n s) (hm : 0 ≤ m ∧ m ≤ 80) {c d : Cell} (hc : c ∈ s) (hd : d ∈ nb c) (hn : d ∉ s) : Pre P (m + D) (n + 1) (insC d s) := by
  have hbc := h.box c hc
  obtain ⟨h1, h2, h3, h4⟩ := L.near c (by omega) (h.p c hc) d hd
  have hD := L.d0
  refine ⟨by rw [(insC_perm d s).length_eq, List.length_cons, h.len], by omega, insC_lt d s h.lt hn, fun e he => ?_, fun e he f hf => ?_, fun e he => ?_⟩
  · rcases insC_mem.1 he with rfl | he
    · omega
    · have := h.box e he; omega
  · rcases insC_mem.1 he with rfl | he'
    · rcases insC_mem.1 hf with rfl | hf'
      · omega
      · have := h.sp c hc f hf'
        have := h.sp f hf' c hc
        omega
    · rcases insC_mem.1 hf with rfl | hf'
      · have := h.sp e he' c hc
        omega
      · have := h.sp e he' f hf'
        omega
  · rcases insC_mem.1 he with rfl | he
    · exact h4
    · exact h.p e he
theorem good_more (L : Latt nb nf P D) {m : Int} {n : Nat} {s x : List Cell} (h : Good P m n s) (hm : 0 ≤ m ∧ m ≤ 80) (hx : x ∈ moreOf nb nf s) : Good P (m + D) (n + 1) x := by
  unfold moreOf at hx
  obtain ⟨c, hc, hx⟩ := List.mem_flatMap.1 hx
  obtain ⟨d, hd, rfl⟩ := List.mem_map.1 hx
  unfold freeOf at hd
  simp at hd
  have hD := L.d0
  exact L.norm _ _ _ (by omega) (by omega) (h.more L hm hc hd.1 hd.2)
theorem good_next (L : Latt nb nf P D) {m : Int} {n : Nat} {l : List (List Cell)} (h : ∀ s ∈ l, Good P m n s) (hm : 0 ≤ m ∧ m ≤ 80) : ∀ x ∈ nextS nb nf l, Good P (m + D) (n + 1) x := by
  intro x hx
  unfold nextS at hx
  rcases (foldAdd_mem _ _ x).1 hx with hx | hx
  · obtain ⟨s, hs, hx⟩ := List.mem_flatMap.1 hx
    exact good_more L (h s hs) hm hx
  · simp at hx
theorem freeOf_len (s l : List Cell) : (freeOf s l).length ≤ l.length := List.length_filter_le _ _
theorem flat_len {α β : Type} (f : α → List β) (q : Nat) : ∀ l : List α, (∀ a ∈ l, (f a).length ≤ q) → (l.flatMap f).length ≤ l.length * q
  | [], _ => by simp
  | a :: r, h => by
    rw [List.flatMap_cons, List.length_append, List.length_cons, Nat.add_mul, Nat.one_mul]
    have h1 := h a List.mem_cons_self
    have h2 := flat_len f q r (fun b hb => h b (List.mem_cons_of_mem _ hb))
    omega
theorem besideR_len (L : Latt nb nf P D) (s : List Cell) : (besideR nb s).length ≤ s.length * 6 :=
  flat_len _ 6 s fun c _ => Nat.le_trans (freeOf_len _ _) (L.cnt c)
theorem besideL_len (L : Latt nb nf P D) (s : List Cell) : (besideL nb s).length ≤ s.length * 6 := by
  unfold besideL
  have h1 := compF_len (sortC (besideR nb s))
  rw [sortC_len] at h1
  exact Nat.le_trans h1 (besideR_len L s)
theorem grownL_len (L : Latt nb nf P D) (s : List Cell) : (grownL nb nf s).length ≤ s.length * 6 := by
  unfold grownL
  refine Nat.le_trans (tidyL_len _) ?_
  unfold grownR
  rw [List.length_map]
  exact besideL_len L s
theorem moreOf_len (L : Latt nb nf P D) (s : List Cell) : (moreOf nb nf s).length ≤ s.length * 6 :=
  flat_len _ 6 s fun c _ => by rw [List.length_map]; exact Nat.le_trans (freeOf_len _ _) (L.cnt c)
theorem nextS_len (L : Latt nb nf P D) {n : Nat} {l : List (List Cell)} (h : ∀ s ∈ l, s.length = n) : (nextS nb nf l).length ≤ l.length * (n * 6) := by
  unfold nextS
  have h1 := foldAdd_len (l.flatMap (moreOf nb nf)) []
  have h2 := flat_len (moreOf nb nf) (n * 6) l (fun s hs => by rw [← h s hs]; exact moreOf_len L s)
  rw [List.length_nil] at h1
  omega
theorem beside_ne (L : Latt nb nf P D) {m : Int} {n : Nat} {s : List Cell} (h : Good P m n s) (hm : 0 ≤ m ∧ m ≤ 80) : 0 < (besideR nb s).length := by
  have hp := h.pos
  have hl := h.len
  obtain ⟨c, r, rfl⟩ : ∃ c r, s = c :: r := by cases s with | nil => simp at hl; omega | cons c r => exact ⟨c, r, rfl⟩
  have hb := h.box c List.mem_cons_self
  obtain ⟨d, hd, hlt⟩ := L.low c (by omega)
  have hn : d ∉ c :: r := by
    intro hm'
    rcases List.mem_cons.1 hm' with rfl | hm'
    · unfold ltC at hlt; omega
    · have := (List.pairwise_cons.1 h.lt).1 d hm'
      unfold ltC at *; omega
  refine List.length_pos_of_mem (a := d) ?_
  unfold besideR freeOf
  refine List.mem_flatMap.2 ⟨c, List.mem_cons_self, ?_⟩
  simp only [List.mem_filter, hd, true_and]
  simpa using hn
theorem grow_eq (L : Latt nb nf P D) : ∀ (q : Nat) (m : Int) (n : Nat) (l : List (List Cell)), (∀ s ∈ l, Good P m n s) → 0 ≤ m → m + q * D ≤ 80 → growI nb nf q l = growS nb nf q l
  | 0, _, _, _, _, _, _ => rfl
  | q + 1, m, n, l, h, h0, h1 => by
    have hD := L.d0
    have e1 : ((q + 1 : Nat) : Int) * D = (q : Int) * D + D := by rw [Int.natCast_add, Int.add_mul]; simp
    have e2 : 0 ≤ (q : Int) * D := Int.mul_nonneg (by omega) hD.1
    rw [growI, growS, next_eq fun s hs => (h s hs).lt]
    exact grow_eq L q (m + D) (n + 1) _ (good_next L h (by omega)) (by omega) (by omega)
theorem grow_good (L : Latt nb nf P D) : ∀ (q : Nat) (m : Int) (n : Nat) (l : List (List Cell)), (∀ s ∈ l, Good P m n s) → 0 ≤ m → m + q * D ≤ 80 → ∀ x ∈ growS nb nf q l, Good P (m + q * D) (n + q) x
  | 0, m, n, l, h, _, _ => by simpa [growS] using h
  | q + 1, m, n, l, h, h0, h1 => by
    have hD := L.d0
    have e1 : ((q + 1 : Nat) : Int) * D = (q : Int) * D + D := by rw [Int.natCast_add, Int.add_mul]; simp
    have e2 : 0 ≤ (q : Int) * D := Int.mul_nonneg (by omega) hD.1
    intro x hx
    rw [growS] at hx
    have := grow_good L q (m + D) (n + 1) _ (good_next L h (by omega)) (by omega) (by omega) x hx
    rw [show m + D + (q : Int) * D = m + ((q + 1 : Nat) : Int) * D by omega, show n + 1 + q = n + (q + 1) by omega] at this
    exact this
end
theorem moveL_pre {P : Cell → Prop} {m : Int} {n : Nat} {s : List Cell} {x y : Int} (h : Pre P m n s) (hx : -3000 ≤ x ∧ x ≤ 3000) (hy : -3000 ≤ y ∧ y ≤ 3000) : moveL s x y = s.map fun c => ⟨c.f0 + x, c.f1 + y⟩ := by
  unfold moveL
  refine List.map_congr_left fun c hc => ?_
  have := h.box c hc
  rw [w64 (by omega) (by omega), w64 (by omega) (by omega)]
theorem good_shift {P : Cell → Prop} {m : Int} {n : Nat} {s : List Cell} {x y : Int} (h : Pre P m n s) (hx : -3000 ≤ x ∧ x ≤ 3000) (hy : -3000 ≤ y ∧ y ≤ 3000)
    (hb : ∀ c ∈ s, 0 ≤ c.f0 + x ∧ c.f0 + x ≤ 2 + m ∧ 0 ≤ c.f1 + y ∧ c.f1 + y ≤ 2 + m) (hp : ∀ c ∈ s, P c → P ⟨c.f0 + x, c.f1 + y⟩) : Good P m n (moveL s x y) := by
  rw [moveL_pre h hx hy]
  refine ⟨by rw [List.length_map, h.len], h.pos, ?_, fun c hc => ?_, fun c hc d hd => ?_, fun c hc => ?_⟩
  · rw [List.pairwise_map]
    exact h.lt.imp fun {a b} hab => by unfold ltC at *; simp only; omega
  · obtain ⟨e, he, rfl⟩ := List.mem_map.1 hc
    exact hb e he
  · obtain ⟨e, he, rfl⟩ := List.mem_map.1 hc
    obtain ⟨f, hf, rfl⟩ := List.mem_map.1 hd
    have := h.sp e he f hf
    simp only
    omega
  · obtain ⟨e, he, rfl⟩ := List.mem_map.1 hc
    exact hp e he (h.p e he)
end Go.Proofs.YtlnliahadgmbcaaGreat.L
end
section
namespace Go.Proofs.YtlnliahadgmbcaaGreat.L
open Go.RowKit Go.Proofs.YtlnliahadgmbcaaGreatW.PrintWords Go.Proofs.YtlnliahadgmbcaaGreatW.PrintLast Go.Proofs.YtlnliahadgmbcaaGreatW.PrintMore Go.Proofs.YtlnliahadgmbcaaGreat.F
set_option linter.unusedVariables false
set_option linter.unusedSimpArgs false
def rot6 : Nat → Int × Int → Int × Int
  | 0, p => p
  | n + 1, p => rot6 n (wrap64 (-p.2), wrap64 (p.1 + p.2))
def latC (c : Cell) (t : Int) : Int × Int := rot6 (t % 6).toNat (if t ≥ 6 then (c.f1, c.f0) else (c.f0, c.f1))
def latD (t : Int) (c : Cell) : Cell := ⟨(latC c t).1, (latC c t).2⟩
theorem tmod6 {t : Int} (h : 0 ≤ t) : Int.tmod t 6 = ((t % 6).toNat : Int) := by
  rw [Int.tmod_eq_emod_of_nonneg h]
  omega
theorem specLat_l (n : Nat) (hn : n ≤ 1048576) : ∀ p : Int × Int, Ev (fun k => spec_l07Turn.l0 k (n : Int) p.1 p.2) (rot6 n p) := by
  induction n with
  | zero =>
    intro p
    refine Ev.succ ?_
    simp only [spec_l07Turn.l0]
    exact Ev.neg (by simp) (Ev.now _)
  | succ n ih =>
    intro p
    refine Ev.succ ?_
    simp only [spec_l07Turn.l0]
    have e1 : wrap64 (((n + 1 : Nat) : Int) - 1) = (n : Int) := by rw [w64 (by omega) (by omega)]; omega
    refine Ev.pos (by omega) ?_
    simp only [e1]
    exact ih (by omega) (wrap64 (-p.2), wrap64 (p.1 + p.2))
theorem specLat_ev (c : Cell) (t : Int) (h : 0 ≤ t) : Ev (fun k => spec_l07Turn.f k c.f0 c.f1 t) (latC c t) := by
  unfold spec_l07Turn.f latC
  have := specLat_l (t % 6).toNat (by omega)
  by_cases h4 : t ≥ 6
  · rw [if_pos h4]
    refine Ev.pos h4 (Ev.step (fun k => spec_l07Turn.j0.eq_2 _ _ _ _) ?_)
    simp only [tmod6 h]
    exact this (c.f1, c.f0)
  · rw [if_neg h4]
    refine Ev.neg h4 (Ev.step (fun k => spec_l07Turn.j0.eq_2 _ _ _ _) ?_)
    simp only [tmod6 h]
    exact this (c.f0, c.f1)
def latL (l : List Cell) (t : Int) : List Cell := sortC (l.map (latD t))
theorem latL_len (l : List Cell) (t : Int) : (latL l t).length = l.length := by unfold latL; rw [sortC_len]; simp
theorem implLat_l (m : Nat) (hm : m ≤ 1048576) (t : Int) (l s : List Cell) (len_ i_ : Int) {r : List Cell} (n : Nat) : ∀ (i : Nat) (p : Int × Int), i + n = m → s.length ≤ 1048576 →
    Ev (fun k => impl_latticeCells.l0 k t (s ++ [(⟨(rot6 n p).1, (rot6 n p).2⟩ : Cell)]) l len_ (wrap64 (i_ + 1))) r → Ev (fun k => impl_latticeCells.l1 k t s l len_ i_ (m : Int) (i : Int) p.1 p.2) r := by
  induction n with
  | zero =>
    intro i p hi hs hc
    refine Ev.succ ?_
    simp only [impl_latticeCells.l1]
    exact Ev.neg (by omega) (Ev.pos (by omega) hc)
  | succ n ih =>
    intro i p hi hs hc
    refine Ev.succ ?_
    simp only [impl_latticeCells.l1]
    have e1 : wrap64 ((i : Int) + 1) = ((i + 1 : Nat) : Int) := by rw [w64 (by omega) (by omega)]; omega
    refine Ev.pos (by omega) ?_
    simp only [e1]
    exact ih (i + 1) (wrap64 (-p.2), wrap64 (p.1 + p.2)) (by omega) hs hc
theorem implLattice_ev (l : List Cell) (t : Int) (ht : 0 ≤ t) (hl : l.length ≤ 1048576) (h0 : 0 < l.length) : Ev (fun k => impl_latticeCells.f k l t) (latL l t) := by
  have hs : small l := by unfold small; omega
  unfold impl_latticeCells.f latL
  refine Ev.pos (by omega) (Ev.pos (by omega) ?_)
  have := loop_list l (fun k i (s : List Cell) => impl_latticeCells.l0 k t s l (l.length : Int) i) (fun pre suf s => sortC (s ++ suf.map (latD t))) (fun pre s => s.length = pre.length) ?_ ?_ [] rfl
  · simpa using this
  · intro s hi
    have hi' : s.length = l.length := hi
    simp only [impl_latticeCells.l0, len_lt, if_false, implSorted_eq s (by omega) (by omega), Option.bind_some]
    exact Ev.of_eq (Ev.now _) (by simp)
  · intro pre c suf s hx hi ih
    have hp := pre_len hx
    simp only [impl_latticeCells.l0, pre_lt hx, pre_0, if_true, at_pre hx]
    have hc := implLat_l (t % 6).toNat (by omega) t l s (l.length : Int) (pre.length : Int) (r := sortC (s ++ (c :: suf).map (latD t))) (t % 6).toNat 0
    have hih := ih (s ++ [latD t c]) (by simp [hi])
    have e : s ++ [latD t c] ++ suf.map (latD t) = s ++ (c :: suf).map (latD t) := by simp
    simp only [e] at hih
    by_cases h6 : t ≥ 6
    · refine Ev.pos h6 (Ev.step (fun k => impl_latticeCells.j1.eq_2 _ _ _ _ _ _ _ _) ?_)
      simp only [tmod6 ht]
      refine hc (c.f1, c.f0) (by omega) (by omega) ?_
      rw [pre_w hx hs]
      have e2 : (⟨(rot6 (t % 6).toNat (c.f1, c.f0)).1, (rot6 (t % 6).toNat (c.f1, c.f0)).2⟩ : Cell) = latD t c := by unfold latD latC; rw [if_pos h6]
      rw [e2]
      exact hih
    · refine Ev.neg h6 (Ev.step (fun k => impl_latticeCells.j1.eq_2 _ _ _ _ _ _ _ _) ?_)
      simp only [tmod6 ht]
      refine hc (c.f0, c.f1) (by omega) (by omega) ?_
      rw [pre_w hx hs]
      have e2 : (⟨(rot6 (t % 6).toNat (c.f0, c.f1)).1, (rot6 (t % 6).toNat (c.f0, c.f1)).2⟩ : Cell) = latD t c := by unfold latD latC; rw [if_neg h6]
      rw [e2]
      exact hih
theorem l01Mod3 (a : Int) : spec_l01Mod.f a 3 = some (a % 3) := by
  unfold spec_l01Mod.f
  rw [if_neg (by decide), mod_eq a 3 (by decide) (by decide)]
theorem modOf3 (a : Int) : impl_modOf.f a 3 = some (a % 3) := by
  unfold impl_modOf.f
  rw [if_neg (by decide), mod_eq a 3 (by decide) (by decide)]
theorem l07Is_eq (x y : Int) : spec_l07Is.f 0 x y = some (decide (x % 3 = y % 3 ∧ x % 3 ≠ 0)) := by
  unfold spec_l07Is.f
  rw [if_neg (by decide)]
  simp only [l01Mod3, Option.bind_some]
  by_cases h : x % 3 = y % 3
  · rw [if_pos h]; simp [h]; rfl
  · rw [if_neg h]; simp [h]
theorem isTriangle_eq (x y : Int) : impl_isTriangle.f x y = some (decide (x % 3 = y % 3 ∧ x % 3 ≠ 0)) := by
  unfold impl_isTriangle.f
  simp only [modOf3, Option.bind_some]
  by_cases h : x % 3 = 0
  · rw [if_pos h]; simp [h]
  · rw [if_neg h]
    by_cases h' : x % 3 = y % 3 <;> simp [h, h']
    omega
theorem specIsTriangle_eq (x y : Int) : spec_IsTriangle.f x y = some (decide ((ok1 x ∧ ok1 y) ∧ (x % 3 = y % 3 ∧ x % 3 ≠ 0))) := by
  unfold spec_IsTriangle.f
  simp only [l02Cell_eq, l07Is_eq, Option.bind_some]
  by_cases h : ok1 x ∧ ok1 y <;> simp [h]
theorem implIsTriangle_eq (x y : Int) : impl_IsTriangle.f x y = some (decide ((ok1 x ∧ ok1 y) ∧ (x % 3 = y % 3 ∧ x % 3 ≠ 0))) := by
  unfold impl_IsTriangle.f
  simp only [isCoordinate_eq, isTriangle_eq, Option.bind_some]
  by_cases h : ok1 x <;> by_cases h' : ok1 y <;> simp [h, h']
def triX (c : Cell) : Prop := c.f0 % 3 = c.f1 % 3 ∧ c.f0 % 3 ≠ 0
instance (c : Cell) : Decidable (triX c) := by unfold triX; infer_instance
def normalT (l : List Cell) : List Cell := moveL l (wrap64 ((leastOf l).1 % 3 - (leastOf l).1)) (wrap64 ((leastOf l).2 % 3 - (leastOf l).2))
theorem normalT_len (l : List Cell) : (normalT l).length = l.length := moveL_len _ _ _
theorem specNormal0_ev (l : List Cell) (hl : l.length ≤ 1048576) (h0 : 0 < l.length) : Ev (fun k => spec_l07Normal.f k 0 l) (normalT l) := by
  unfold spec_l07Normal.f
  refine Ev.bind (specLeast_ev l (by unfold small; omega) h0) (Ev.neg (by decide) ?_)
  simp only [l01Mod3, Option.bind_some]
  exact Ev.bind (specMove_ev l _ _ hl) (Ev.now _)
theorem implNormalT_ev (l : List Cell) (hl : l.length ≤ 1048576) (h0 : 0 < l.length) : Ev (fun k => impl_normalTriangles.f k l) (normalT l) := by
  unfold impl_normalTriangles.f
  refine Ev.bind (implCorner_ev l (by unfold small; omega) h0) ?_
  simp only [modOf3, Option.bind_some]
  exact Ev.bind (implMoved_ev l _ _ hl) (Ev.now _)
theorem specForm0_ev (l : List Cell) (t : Int) (ht : 0 ≤ t) (hl : l.length ≤ 1048576) (h0 : 0 < l.length) : Ev (fun k => spec_l07Form.f k 0 l t) (normalT (latL l t)) := by
  have hs : small l := by unfold small; omega
  unfold spec_l07Form.f latL
  have := loop_list l (fun k i (s : List Cell) => spec_l07Form.l0 k 0 l t s i) (fun pre suf s => normalT (sortC (s ++ suf.map (latD t)))) (fun pre s => s.length = pre.length) ?_ ?_ [] rfl
  · simpa using this
  · intro s hi
    have hi' : s.length = l.length := hi
    simp only [spec_l07Form.l0, len_lt, if_false]
    refine Ev.bind (specSort_ev s (by omega)) (Ev.bind (specNormal0_ev _ (by rw [sortC_len]; omega) (by rw [sortC_len]; omega)) (Ev.of_eq (Ev.now _) (by simp)))
  · intro pre c suf s hx hi ih
    have hp := pre_len hx
    simp only [spec_l07Form.l0, pre_lt hx, pre_0, if_true, at_pre hx, pre_w hx hs]
    refine Ev.bind (specLat_ev c t ht) (Ev.pos (by omega) (Ev.of_eq (ih (s ++ [latD t c]) (by simp [hi])) (by simp)))
theorem implTriForm_ev (l : List Cell) (t : Int) (ht : 0 ≤ t) (hl : l.length ≤ 1048576) (h0 : 0 < l.length) : Ev (fun k => impl_triangleForm.f k l t) (normalT (latL l t)) := by
  unfold impl_triangleForm.f
  exact Ev.bind (implLattice_ev l t ht hl h0) (Ev.bind (implNormalT_ev _ (by rw [latL_len]; omega) (by rw [latL_len]; omega)) (Ev.now _))
theorem minS_mem : ∀ (r : List (List Cell)) (m : List Cell), minS m r ∈ m :: r
  | [], m => by simp [minS]
  | x :: r, m => by
    unfold minS
    have h := minS_mem r (if cmpS x m < 0 then x else m)
    rcases List.mem_cons.1 h with h | h
    · rw [h]
      split
      · simp
      · simp
    · exact List.mem_cons_of_mem _ (List.mem_cons_of_mem _ h)
def minA : List (List Cell) → List Cell
  | [] => []
  | c :: r => minS c r
theorem specLeastS_ev (c : List Cell) (r : List (List Cell)) (hs : small (c :: r)) (hx_ : ∀ x ∈ c :: r, small x) : Ev (fun k => spec_l07Least.f k (c :: r)) (minS c r) := by
  unfold spec_l07Least.f
  refine Ev.pos (by rw [List.length_cons]; omega) ?_
  have h1 : rd_L2 (c :: r) 0 = c := rfl
  rw [h1]
  refine loop_tail c r (fun k i (s : List Cell) => spec_l07Least.l0 k (c :: r) s i) (fun _ suf s => minS s suf) (fun _ s => True) ?_ ?_ c trivial
  · rintro s _
    simp only [spec_l07Least.l0, len_lt, if_false]
    exact Ev.now _
  · rintro pre d suf s hx _ _ ih
    simp only [spec_l07Least.l0, pre_lt hx, pre_0, if_true, at_preL2 hx, pre_w hx hs]
    refine Ev.bind (specCompare_ev d s (hx_ d (by rw [hx]; simp))) ?_
    unfold minS
    by_cases h : cmpS d s < 0
    · rw [if_pos h]; exact Ev.pos h (ih d trivial)
    · rw [if_neg h]; exact Ev.neg h (ih s trivial)
def triG (l : List Cell) (t : Int) : List Cell := normalT (latL l t)
theorem triG_len (l : List Cell) (t : Int) : (triG l t).length = l.length := by unfold triG; rw [normalT_len, latL_len]
def triGOk (l : List Cell) : Nat → Int → Bool
  | 0, _ => true
  | n + 1, t => shapeB (triG l t) && triGOk l n (t + 1)
def triGS (l : List Cell) : Nat → Int → List (List Cell)
  | 0, _ => []
  | n + 1, t => triG l t :: triGS l n (t + 1)
theorem triGS_len (l : List Cell) : ∀ (n : Nat) (t : Int), (triGS l n t).length = n
  | 0, _ => rfl
  | n + 1, t => by unfold triGS; rw [List.length_cons, triGS_len l n]
theorem triGS_mem (l : List Cell) : ∀ (n : Nat) (t : Int), ∀ x ∈ triGS l n t, x.length = l.length
  | 0, _, x, h => by simp [triGS] at h
  | n + 1, t, x, h => by
    unfold triGS at h
    rcases List.mem_cons.1 h with rfl | h
    · exact triG_len l t
    · exact triGS_mem l n _ x h
theorem specForms0_l (l : List Cell) (hl : l.length ≤ 1048576) (h0 : 0 < l.length) : ∀ (n : Nat) (t : Int) (acc : List (List Cell)) (b : Bool), 0 ≤ t → t + (n : Int) = 12 → acc.length + n ≤ 12 → Ev (fun k => spec_l07Forms.l0 k 0 l acc b t) (acc ++ triGS l n t, b && triGOk l n t)
  | 0, t, acc, b, h1, h2, h3 => by
    refine Ev.succ ?_
    simp only [spec_l07Forms.l0]
    exact Ev.neg (by omega) (Ev.of_eq (Ev.now _) (by simp [triGS, triGOk]))
  | n + 1, t, acc, b, h1, h2, h3 => by
    refine Ev.succ ?_
    simp only [spec_l07Forms.l0]
    have ew : wrap64 (t + 1) = t + 1 := w64 (by omega) (by omega)
    refine Ev.pos (by omega) (Ev.bind (specForm0_ev l t h1 hl h0) ?_)
    have hf : small (normalT (latL l t)) := by have := triG_len l t; unfold triG at this; unfold small; omega
    simp only [ew]
    cases b
    · refine Ev.neg (by simp) (Ev.pos (by omega) (Ev.of_eq (specForms0_l l hl h0 n (t + 1) (acc ++ [triG l t]) false (by omega) (by omega) (by simp; omega)) ?_))
      simp [triGS]
    · refine Ev.pos rfl (Ev.bind (specIsShape_ev _ hf) (Ev.pos (by omega) (Ev.of_eq (specForms0_l l hl h0 n (t + 1) (acc ++ [triG l t]) _ (by omega) (by omega) (by simp; omega)) ?_)))
      simp [triGS, triGOk, triG]
theorem implLeast0_l (l : List Cell) (hl : l.length ≤ 1048576) (h0 : 0 < l.length) : ∀ (n : Nat) (t : Int) (acc : List (List Cell)), 0 ≤ t → t + (n : Int) = 12 → acc.length + n = 12 → (∀ x ∈ acc, small x) → Ev (fun k => impl_leastForm__impl_triangleForm.l0 k l acc t) (if triGOk l n t = true then (minA (acc ++ triGS l n t), true) else ([], false))
  | 0, t, acc, h1, h2, h3, h4 => by
    obtain ⟨c, r, rfl⟩ : ∃ c r, acc = c :: r := by cases acc with | nil => simp at h3 | cons c r => exact ⟨c, r, rfl⟩
    refine Ev.succ ?_
    simp only [impl_leastForm__impl_triangleForm.l0]
    refine Ev.neg (by omega) (Ev.bind (implMin_ev c r (by unfold small; omega) h4) (Ev.of_eq (Ev.now _) ?_))
    simp [triGOk, triGS, minA]
  | n + 1, t, acc, h1, h2, h3, h4 => by
    have ew : wrap64 (t + 1) = t + 1 := w64 (by omega) (by omega)
    have hf : small (normalT (latL l t)) := by have := triG_len l t; unfold triG at this; unfold small; omega
    by_cases hs : shapeB (normalT (latL l t)) = true
    · have hm := implLeast0_l l hl h0 n (t + 1) (acc ++ [normalT (latL l t)]) (by omega) (by omega) (by simp; omega) (fun x hx => by
        rcases List.mem_append.1 hx with hx | hx
        · exact h4 x hx
        · simp at hx; exact hx ▸ hf)
      refine Ev.succ ?_
      simp only [impl_leastForm__impl_triangleForm.l0]
      refine Ev.pos (by omega) (Ev.bind (implTriForm_ev l t h1 hl h0) (Ev.bind (implIsShape_ev _ hf) (Ev.pos hs (Ev.pos (by omega) ?_))))
      simp only [ew]
      refine Ev.of_eq hm ?_
      simp [triGOk, triGS, triG, hs]
    · refine Ev.succ ?_
      simp only [impl_leastForm__impl_triangleForm.l0]
      refine Ev.pos (by omega) (Ev.bind (implTriForm_ev l t h1 hl h0) (Ev.bind (implIsShape_ev _ hf) (Ev.neg hs (Ev.of_eq (Ev.now _) ?_))))
      simp [triGOk, triG, hs]
def triGMin (l : List Cell) : List Cell := minS (triG l 0) (triGS l 11 1)
theorem triGMin_len (l : List Cell) : (triGMin l).length = l.length := by
  have h := minS_mem (triGS l 11 1) (triG l 0)
  rcases List.mem_cons.1 h with h | h
  · unfold triGMin; rw [h, triG_len]
  · exact triGS_mem l 11 1 _ h
def triRaw (c : Cell) : List Cell := if c.f0 % 3 = 2 then [⟨wrap64 (c.f0 + (-1)), wrap64 (c.f1 + (-1))⟩, ⟨wrap64 (c.f0 - (2 * (-1))), wrap64 (c.f1 + (-1))⟩, ⟨wrap64 (c.f0 + (-1)), wrap64 (c.f1 - (2 * (-1)))⟩]
  else [⟨wrap64 (c.f0 + 1), wrap64 (c.f1 + 1)⟩, ⟨wrap64 (c.f0 - (2 * 1)), wrap64 (c.f1 + 1)⟩, ⟨wrap64 (c.f0 + 1), wrap64 (c.f1 - (2 * 1))⟩]
def triC (c : Cell) : List Cell := sortC (triRaw c)
theorem triRaw_len (c : Cell) : (triRaw c).length = 3 := by unfold triRaw; split <;> rfl
theorem triC_len (c : Cell) : (triC c).length ≤ 16 := by unfold triC; rw [sortC_len, triRaw_len]; omega
theorem implTri_eq (c : Cell) : impl_trianglesAround.f c.f0 c.f1 = some (triC c) := by
  unfold impl_trianglesAround.f triC triRaw
  simp only [modOf3, Option.bind_some]
  by_cases h : c.f0 % 3 = 2
  · rw [if_pos h, if_pos h, implSorted_eq _ (by simp) (by simp)]; rfl
  · rw [if_neg h, if_neg h, implSorted_eq _ (by simp) (by simp)]; rfl
theorem specTri_eq {c : Cell} (h : okC c) (ht : triX c) : spec_l07Around.f 0 c.f0 c.f1 = some (triC c) := by
  unfold spec_l07Around.f
  rw [if_neg (by decide)]
  simp only [l01Mod3, Option.bind_some]
  unfold okC ok1 at h
  unfold triX at ht
  have w (n : Int) (h0 : -1000 ≤ n) (h1 : n ≤ 1000) : wrap64 n = n := w64 (by omega) (by omega)
  by_cases h1 : c.f0 % 3 = 1
  · rw [if_pos h1]
    congr 1
    symm
    refine sortC_eq ?_ ?_
    · unfold triRaw
      rw [if_neg (by omega), w (c.f0 + 1) (by omega) (by omega), w (c.f1 - 2) (by omega) (by omega), w (c.f0 - 2) (by omega) (by omega), w (c.f1 + 1) (by omega) (by omega), w (c.f0 - 2 * 1) (by omega) (by omega), w (c.f1 - 2 * 1) (by omega) (by omega)]
      exact List.reverse_perm [(⟨c.f0 + 1, c.f1 + 1⟩ : Cell), ⟨c.f0 - 2, c.f1 + 1⟩, ⟨c.f0 + 1, c.f1 - 2⟩]
    · rw [w (c.f0 + 1) (by omega) (by omega), w (c.f1 - 2) (by omega) (by omega), w (c.f0 - 2) (by omega) (by omega), w (c.f1 + 1) (by omega) (by omega)]
      simp only [List.pairwise_cons, List.mem_cons, List.not_mem_nil, or_false, forall_eq_or_imp, forall_eq, false_implies, implies_true, List.Pairwise.nil, and_true, ltC]
      omega
  · rw [if_neg h1]
    congr 1
    symm
    refine sortC_eq ?_ ?_
    · unfold triRaw
      rw [if_pos (by omega), w (c.f0 - 1) (by omega) (by omega), w (c.f1 - 1) (by omega) (by omega), w (c.f0 + 2) (by omega) (by omega), w (c.f1 + 2) (by omega) (by omega), w (c.f0 + -1) (by omega) (by omega), w (c.f1 + -1) (by omega) (by omega), w (c.f0 - 2 * -1) (by omega) (by omega), w (c.f1 - 2 * -1) (by omega) (by omega)]
      have e1 : c.f0 + -1 = c.f0 - 1 := by omega
      have e2 : c.f1 + -1 = c.f1 - 1 := by omega
      have e3 : c.f0 - 2 * -1 = c.f0 + 2 := by omega
      have e4 : c.f1 - 2 * -1 = c.f1 + 2 := by omega
      rw [e1, e2, e3, e4]
    · rw [w (c.f0 - 1) (by omega) (by omega), w (c.f1 - 1) (by omega) (by omega), w (c.f0 + 2) (by omega) (by omega), w (c.f1 + 2) (by omega) (by omega)]
      simp only [List.pairwise_cons, List.mem_cons, List.not_mem_nil, or_false, forall_eq_or_imp, forall_eq, false_implies, implies_true, List.Pairwise.nil, and_true, ltC]
      omega
theorem implIndex_ev (l : List Cell) (c : Cell) (hs : small l) : Ev (fun k => impl_Cell_91.f k l c.f0 c.f1) (idxC l c) := by
  unfold impl_Cell_91.f
  refine loop_list l (fun k i (_ : Unit) => impl_Cell_91.l0 k l (l.length : Int) i c.f0 c.f1) (fun pre suf _ => idxF suf c (pre.length : Int)) (fun _ _ => True) ?_ ?_ () trivial
  · intro _ _
    simp only [impl_Cell_91.l0, len_lt, if_false]
    exact Ev.now _
  · intro pre d suf _ hx _ ih
    simp only [impl_Cell_91.l0, pre_lt hx, pre_0, if_true, at_pre hx, pre_w hx hs, idxF]
    have e : (c.f0 == d.f0 && c.f1 == d.f1) = sameC d c := by
      rw [Bool.eq_iff_iff]
      simp only [sameC, Bool.and_eq_true, beq_iff_eq, decide_eq_true_eq]
      constructor <;> (rintro ⟨h, h'⟩; exact ⟨h.symm, h'.symm⟩)
    rw [e]
    refine Ev.if_ (fun _ => Ev.now _) (fun _ => Ev.of_eq (ih () trivial) ?_)
    simp
theorem implContains_ev (l : List Cell) (c : Cell) (hs : small l) : Ev (fun k => impl_Cell_82.f k l c.f0 c.f1) (decide (idxC l c ≥ 0)) := by
  unfold impl_Cell_82.f
  exact Ev.bind (implIndex_ev l c hs) (Ev.now _)
theorem equalC_ev (a b : List Cell) (ha : small a) : Ev (fun k => impl_Cell_37.f k a b) (decide (a = b)) := by
  unfold impl_Cell_37.f
  by_cases hl : a.length = b.length
  · refine Ev.pos (by omega) ?_
    refine loop_list a (fun k i (_ : Unit) => impl_Cell_37.l0 k a b (a.length : Int) i) (fun pre suf _ => decide (suf = b.drop pre.length)) (fun _ _ => True) ?_ ?_ () trivial
    · intro _ _
      simp only [impl_Cell_37.l0, len_lt, if_false]
      refine Ev.of_eq (Ev.now _) ?_
      rw [hl, List.drop_length]
      simp
    · intro pre c suf _ hx _ ih
      have hp := pre_len hx
      have hpb : pre.length < b.length := by omega
      have hlt : ((pre.length : Int) < (b.length : Int)) = True := by simp; omega
      have eb : rd_T25 b (pre.length : Int) = b[pre.length] := by
        unfold rd_T25
        rw [List.getD_eq_getElem?_getD, Int.toNat_natCast, List.getElem?_eq_getElem hpb]
        rfl
      simp only [impl_Cell_37.l0, pre_lt hx, pre_0, if_true, hlt, at_pre hx, pre_w hx ha, eb]
      rw [List.drop_eq_getElem_cons hpb]
      by_cases he : c = b[pre.length]
      · refine Ev.neg (by rw [← he]; simp) (Ev.of_eq (ih () trivial) ?_)
        rw [List.length_append, List.length_singleton]
        generalize b.drop (pre.length + 1) = R
        rw [← he]
        simp only [List.cons.injEq, true_and]
      · refine Ev.pos ?_ (Ev.of_eq (Ev.now _) ?_)
        · refine Decidable.byContradiction fun h => he ?_
          generalize b[pre.length] = d at h
          obtain ⟨c0, c1⟩ := c
          obtain ⟨d0, d1⟩ := d
          simp at h
          simp [h]
        · generalize b.drop (pre.length + 1) = R
          simp only [List.cons.injEq, he, false_and, decide_false]
  · refine Ev.neg (by omega) (Ev.of_eq (Ev.now _) ?_)
    have : a ≠ b := fun e => hl (by rw [e])
    simp [this]
def tiny (p : Int × Int) : Prop := -200 ≤ p.1 ∧ p.1 ≤ 200 ∧ -200 ≤ p.2 ∧ p.2 ≤ 200
def rotV : Nat → Int × Int → Int × Int
  | 0, p => p
  | 1, p => (-p.2, p.1 + p.2)
  | 2, p => (-(p.1 + p.2), p.1)
  | 3, p => (-p.1, -p.2)
  | 4, p => (p.2, -(p.1 + p.2))
  | _, p => (p.1 + p.2, -p.1)
theorem rot_val {k : Nat} (hk : k < 6) {p : Int × Int} (h : tiny p) : rot6 k p = rotV k p := by
  obtain ⟨x, y⟩ := p
  unfold tiny at h
  simp only at h
  have w (n : Int) (h0 : -5000 ≤ n) (h1 : n ≤ 5000) : wrap64 n = n := w64 (by omega) (by omega)
  have step : ∀ (n : Nat) (a b : Int), -2000 ≤ a → a ≤ 2000 → -2000 ≤ b → b ≤ 2000 → rot6 (n + 1) (a, b) = rot6 n (-b, a + b) := fun n a b h1 h2 h3 h4 => by
    rw [rot6]
    simp only
    rw [w (-b) (by omega) (by omega), w (a + b) (by omega) (by omega)]
  have e : k = 0 ∨ k = 1 ∨ k = 2 ∨ k = 3 ∨ k = 4 ∨ k = 5 := by omega
  rcases e with rfl | rfl | rfl | rfl | rfl | rfl
  · rfl
  · rw [step 0 x y (by omega) (by omega) (by omega) (by omega)]; rfl
  · rw [step 1 x y (by omega) (by omega) (by omega) (by omega), step 0 _ _ (by omega) (by omega) (by omega) (by omega)]
    show (-(x + y), -y + (x + y)) = (-(x + y), x)
    congr 1; omega
  · rw [step 2 x y (by omega) (by omega) (by omega) (by omega), step 1 _ _ (by omega) (by omega) (by omega) (by omega), step 0 _ _ (by omega) (by omega) (by omega) (by omega)]
    show (-(-y + (x + y)), -(x + y) + (-y + (x + y))) = (-x, -y)
    congr 1 <;> omega
  · rw [step 3 x y (by omega) (by omega) (by omega) (by omega), step 2 _ _ (by omega) (by omega) (by omega) (by omega), step 1 _ _ (by omega) (by omega) (by omega) (by omega), step 0 _ _ (by omega) (by omega) (by omega) (by omega)]
    show (-(-(x + y) + (-y + (x + y))), -(-y + (x + y)) + (-(x + y) + (-y + (x + y)))) = (y, -(x + y))
    congr 1 <;> omega
  · rw [step 4 x y (by omega) (by omega) (by omega) (by omega), step 3 _ _ (by omega) (by omega) (by omega) (by omega), step 2 _ _ (by omega) (by omega) (by omega) (by omega), step 1 _ _ (by omega) (by omega) (by omega) (by omega), step 0 _ _ (by omega) (by omega) (by omega) (by omega)]
    show (-(-(-y + (x + y)) + (-(x + y) + (-y + (x + y)))), -(-(x + y) + (-y + (x + y))) + (-(-y + (x + y)) + (-(x + y) + (-y + (x + y))))) = (x + y, -x)
    congr 1 <;> omega
def near2 (m : Int) (p q : Int × Int) : Prop := (p.1 - q.1 ≤ m ∧ q.1 - p.1 ≤ m) ∧ (p.2 - q.2 ≤ m ∧ q.2 - p.2 ≤ m) ∧ ((p.1 + p.2) - (q.1 + q.2) ≤ m ∧ (q.1 + q.2) - (p.1 + p.2) ≤ m)
theorem rotV_ok {k : Nat} (hk : k < 6) {p q : Int × Int} {m : Int} : (rotV k p = rotV k q → p = q) ∧ (near2 m p q → near2 m (rotV k p) (rotV k q)) := by
  obtain ⟨x, y⟩ := p
  obtain ⟨u, v⟩ := q
  have e : k = 0 ∨ k = 1 ∨ k = 2 ∨ k = 3 ∨ k = 4 ∨ k = 5 := by omega
  rcases e with rfl | rfl | rfl | rfl | rfl | rfl <;> (simp only [rotV, near2, Prod.mk.injEq]; omega)
theorem rotV_bd {k : Nat} (hk : k < 6) {p : Int × Int} (h : tiny p) : (-400 ≤ (rotV k p).1 ∧ (rotV k p).1 ≤ 400) ∧ (-400 ≤ (rotV k p).2 ∧ (rotV k p).2 ≤ 400) := by
  obtain ⟨x, y⟩ := p
  unfold tiny at h
  have e : k = 0 ∨ k = 1 ∨ k = 2 ∨ k = 3 ∨ k = 4 ∨ k = 5 := by omega
  rcases e with rfl | rfl | rfl | rfl | rfl | rfl <;> (simp only [rotV] at *; omega)
def turnV (t : Int) (c : Cell) : Int × Int := rotV (t % 6).toNat (if t ≥ 6 then (c.f1, c.f0) else (c.f0, c.f1))
theorem latC_val {t : Int} {c : Cell} (h : tiny (c.f0, c.f1)) : latC c t = turnV t c := by
  unfold latC turnV
  refine rot_val (by omega) ?_
  unfold tiny at *
  split <;> simp only at * <;> omega
theorem turnV_ok {t : Int} {c d : Cell} {m : Int} : (turnV t c = turnV t d → c = d) ∧ (near2 m (c.f0, c.f1) (d.f0, d.f1) → near2 m (turnV t c) (turnV t d)) := by
  unfold turnV
  have h := rotV_ok (k := (t % 6).toNat) (by omega) (p := if t ≥ 6 then (c.f1, c.f0) else (c.f0, c.f1)) (q := if t ≥ 6 then (d.f1, d.f0) else (d.f0, d.f1)) (m := m)
  refine ⟨fun e => ?_, fun hn => h.2 ?_⟩
  · have e := h.1 e
    obtain ⟨c0, c1⟩ := c
    obtain ⟨d0, d1⟩ := d
    simp only [S25.mk.injEq]
    split at e <;> simp only [Prod.mk.injEq] at e <;> omega
  · unfold near2 at *
    split <;> simp only at * <;> omega
theorem sortC_lt {l : List Cell} (h : l.Nodup) : (sortC l).Pairwise ltC := by
  have h1 := sortC_sorted l
  have h2 : (sortC l).Nodup := (sortC_perm l).nodup_iff.2 h
  have := h1.and h2
  refine this.imp fun {a b} hab => ?_
  obtain ⟨h3, h4⟩ := hab
  obtain ⟨a0, a1⟩ := a
  obtain ⟨b0, b1⟩ := b
  unfold ltC at *
  simp only [ne_eq, S25.mk.injEq] at *
  omega
theorem lat_pre {P Q : Cell → Prop} {m : Int} {n : Nat} {s : List Cell} (h : Good P m n s) (hm : 0 ≤ m ∧ m ≤ 80) (t : Int) (hp : ∀ c ∈ s, P c → Q (latD t c)) : Pre Q m n (latL s t) := by
  have hv : ∀ c ∈ s, tiny (c.f0, c.f1) := fun c hc => by
    have := h.box c hc
    unfold tiny
    simp only
    omega
  have hd : ∀ c ∈ s, latD t c = ⟨(turnV t c).1, (turnV t c).2⟩ := fun c hc => by
    unfold latD
    rw [latC_val (hv c hc)]
  unfold latL
  have hmap : s.map (latD t) = s.map fun c => ⟨(turnV t c).1, (turnV t c).2⟩ := List.map_congr_left hd
  refine ⟨by rw [sortC_len, List.length_map, h.len], h.pos, sortC_lt ?_, fun c hc => ?_, fun c hc d hd' => ?_, fun c hc => ?_⟩
  · rw [hmap]
    show List.Pairwise _ _
    rw [List.pairwise_map]
    refine h.lt.imp fun {a b} hab e => ?_
    have e2 : turnV t a = turnV t b := by
      simp only [S25.mk.injEq] at e
      exact Prod.ext e.1 e.2
    have := (turnV_ok (m := 0)).1 e2
    subst this
    unfold ltC at hab
    omega
  · rw [sortC_mem] at hc
    obtain ⟨e, he, rfl⟩ := List.mem_map.1 hc
    rw [hd e he]
    have hb := rotV_bd (k := (t % 6).toNat) (by omega) (p := if t ≥ 6 then (e.f1, e.f0) else (e.f0, e.f1)) (by
      have := hv e he
      unfold tiny at *
      split <;> simp only at * <;> omega)
    unfold turnV
    simp only
    omega
  · rw [sortC_mem] at hc hd'
    obtain ⟨e, he, rfl⟩ := List.mem_map.1 hc
    obtain ⟨f, hf, rfl⟩ := List.mem_map.1 hd'
    rw [hd e he, hd f hf]
    have h1 := h.sp e he f hf
    have h2 := h.sp f hf e he
    have := (turnV_ok (t := t) (c := e) (d := f) (m := m)).2 (by unfold near2; simp only; omega)
    unfold near2 at this
    simp only
    omega
  · rw [sortC_mem] at hc
    obtain ⟨e, he, rfl⟩ := List.mem_map.1 hc
    exact hp e he (h.p e he)
theorem good_shape {P : Cell → Prop} {m : Int} {n : Nat} {s : List Cell} (h : Good P m n s) (hm : 0 ≤ m ∧ m ≤ 80) (hn : n ≤ 40) : shapeB s = true := by
  have hp := h.pos
  have hl := h.len
  refine shapeB_iff.2 ⟨fun c hc => ?_, h.lt, by omega, by omega⟩
  have := h.box c hc
  unfold okC ok1
  omega
theorem triC_six (c : Cell) : (triC c).length ≤ 6 := by unfold triC; rw [sortC_len, triRaw_len]; omega
theorem triX_rot {k : Nat} (hk : k < 6) {p : Int × Int} (h : p.1 % 3 = p.2 % 3 ∧ p.1 % 3 ≠ 0) : (rotV k p).1 % 3 = (rotV k p).2 % 3 ∧ (rotV k p).1 % 3 ≠ 0 := by
  obtain ⟨x, y⟩ := p
  have e : k = 0 ∨ k = 1 ∨ k = 2 ∨ k = 3 ∨ k = 4 ∨ k = 5 := by omega
  rcases e with rfl | rfl | rfl | rfl | rfl | rfl <;> (simp only [rotV] at *; omega)
theorem triX_lat {t : Int} {c : Cell} (hb : -200 ≤ c.f0 ∧ c.f0 ≤ 200 ∧ -200 ≤ c.f1 ∧ c.f1 ≤ 200) (h : triX c) : triX (latD t c) := by
  unfold latD triX
  rw [latC_val (by unfold tiny; exact hb)]
  unfold turnV
  refine triX_rot (by omega) ?_
  unfold triX at h
  split <;> simp only <;> omega
theorem triLatt : Latt triC normalT triX 2 where
  d0 := by omega
  near := by
    intro c hb hp d hd
    have w (n : Int) (h0 : -1000 ≤ n) (h1 : n ≤ 1000) : wrap64 n = n := w64 (by omega) (by omega)
    unfold triX at hp
    unfold triC at hd
    rw [sortC_mem] at hd
    unfold triRaw at hd
    split at hd
    · rw [w (c.f0 + -1) (by omega) (by omega), w (c.f1 + -1) (by omega) (by omega), w (c.f0 - 2 * -1) (by omega) (by omega), w (c.f1 - 2 * -1) (by omega) (by omega)] at hd
      simp only [List.mem_cons, List.not_mem_nil, or_false] at hd
      rcases hd with rfl | rfl | rfl <;> (simp only [triX]; omega)
    · rw [w (c.f0 + 1) (by omega) (by omega), w (c.f1 + 1) (by omega) (by omega), w (c.f0 - 2 * 1) (by omega) (by omega), w (c.f1 - 2 * 1) (by omega) (by omega)] at hd
      simp only [List.mem_cons, List.not_mem_nil, or_false] at hd
      rcases hd with rfl | rfl | rfl <;> (simp only [triX]; omega)
  norm := by
    intro s n m h0 h1 h
    have hne : s ≠ [] := by
      intro e
      have := h.len
      have := h.pos
      rw [e] at *
      simp at *
      omega
    obtain ⟨⟨e, he, ex⟩, ⟨f, hf, ey⟩⟩ := least_mem hne
    have be := h.box e he
    have bf := h.box f hf
    unfold normalT
    rw [w64 (by omega) (by omega), w64 (by omega) (by omega)]
    refine good_shift h (by omega) (by omega) (fun c hc => ?_) (fun c _ hp => ?_)
    · have h2 := least_le hc
      have h3 := h.sp c hc e he
      have h4 := h.sp c hc f hf
      omega
    · unfold triX at *
      simp only
      omega
  cnt := triC_six
  low := by
    intro c hb
    have w (n : Int) (h0 : -1000 ≤ n) (h1 : n ≤ 1000) : wrap64 n = n := w64 (by omega) (by omega)
    by_cases h : c.f0 % 3 = 2
    · refine ⟨⟨c.f0 - 1, c.f1 - 1⟩, ?_, ?_⟩
      · unfold triC
        rw [sortC_mem]
        unfold triRaw
        rw [if_pos h, w (c.f0 + -1) (by omega) (by omega), w (c.f1 + -1) (by omega) (by omega)]
        exact List.mem_cons_self
      · unfold ltC; simp only; omega
    · refine ⟨⟨c.f0 + 1, c.f1 - 2⟩, ?_, ?_⟩
      · unfold triC
        rw [sortC_mem]
        unfold triRaw
        rw [if_neg h, w (c.f0 + 1) (by omega) (by omega), w (c.f1 - 2 * 1) (by omega) (by omega)]
        simp
      · unfold ltC; simp only; omega
theorem aroundT {c : Cell} (hb : -100 ≤ c.f0 ∧ c.f0 ≤ 100 ∧ -100 ≤ c.f1 ∧ c.f1 ≤ 100) (hp : triX c) : spec_l07Around.f 0 c.f0 c.f1 = some (triC c) := specTri_eq (by unfold okC ok1; omega) hp
theorem implFree_lT (s : List Cell) (hs : s.length ≤ 64) (nbl : List Cell) (hn : nbl.length ≤ 64) (len i : Int) {r : List Cell} : ∀ (suf pre out : List Cell), nbl = pre ++ suf → out.length + suf.length ≤ 1000000 → Ev (fun k => impl_beside__impl_trianglesAround.l0 k s (out ++ freeOf s suf) s len (wrap64 (i + 1))) r → Ev (fun k => impl_beside__impl_trianglesAround.l1 k s out s len i nbl (nbl.length : Int) (pre.length : Int)) r
  | [], pre, out, hx, hl, hc => by
    refine Ev.succ ?_
    rw [List.append_nil] at hx
    subst hx
    simp only [impl_beside__impl_trianglesAround.l1]
    refine Ev.neg (by omega) ?_
    simpa [freeOf] using hc
  | d :: suf, pre, out, hx, hl, hc => by
    refine Ev.succ ?_
    have hsm : small nbl := by unfold small; omega
    simp only [List.length_cons] at hl
    have hi (out' : List Cell) (ho : out'.length + suf.length ≤ 1000000) (hc' : Ev (fun k => impl_beside__impl_trianglesAround.l0 k s (out' ++ freeOf s suf) s len (wrap64 (i + 1))) r) := implFree_lT s hs nbl hn len i suf (pre ++ [d]) out' (by rw [hx]; simp) ho hc'
    simp only [List.length_append, List.length_singleton, Int.natCast_add] at hi
    simp only [impl_beside__impl_trianglesAround.l1, pre_lt hx, pre_0, if_true, at_pre hx, pre_w hx hsm]
    refine Ev.bind (implContains_ev s d (by unfold small; omega)) ?_
    by_cases hm : d ∈ s
    · refine Ev.pos (by simpa using (idxC_mem s d).2 hm) (hi out (by omega) ?_)
      simpa [freeOf, hm] using hc
    · refine Ev.neg (by simpa using fun h => hm ((idxC_mem s d).1 h)) (Ev.pos (by omega) (hi (out ++ [(⟨d.f0, d.f1⟩ : Cell)]) (by simp; omega) ?_))
      have : freeOf s (d :: suf) = d :: freeOf s suf := by simp [freeOf, hm]
      rw [this] at hc
      simpa using hc
theorem implBeside_evT (s : List Cell) (hs : s.length ≤ 64) (h0 : 0 < (besideR triC s).length) : Ev (fun k => impl_beside__impl_trianglesAround.f k s) (besideL triC s) := by
  have hsm : small s := by unfold small; omega
  unfold impl_beside__impl_trianglesAround.f
  refine loop_list s (fun k i (out : List Cell) => impl_beside__impl_trianglesAround.l0 k s out s (s.length : Int) i) (fun _ _ _ => besideL triC s) (fun pre out => out = pre.flatMap fun c => freeOf s (triC c)) ?_ ?_ [] rfl
  · rintro out rfl
    have hlen : (besideR triC s).length ≤ s.length * 6 := besideR_len triLatt s
    unfold besideR at hlen h0
    simp only [impl_beside__impl_trianglesAround.l0, len_lt, if_false]
    have e1 : impl_Cell_47__impl_compareCells.f (s.flatMap fun c => freeOf s (triC c)) = some (sortC (s.flatMap fun c => freeOf s (triC c))) := by
      unfold impl_Cell_47__impl_compareCells.f
      rw [if_pos ⟨h0, by omega⟩]
    have e2 : impl_Cell_83.f (sortC (s.flatMap fun c => freeOf s (triC c))) = some (compF (sortC (s.flatMap fun c => freeOf s (triC c)))) := by
      unfold impl_Cell_83.f
      rw [if_pos ⟨by rw [sortC_len]; exact h0, by rw [sortC_len]; omega⟩]
    exact Ev.bind0 e1 (Ev.bind0 e2 (Ev.now _))
  · rintro pre c suf out hx rfl ih
    simp only [impl_beside__impl_trianglesAround.l0, pre_lt hx, pre_0, if_true, at_pre hx]
    refine Ev.bind0 (implTri_eq c) ?_
    have hp := pre_len hx
    have ho : (pre.flatMap fun c => freeOf s (triC c)).length ≤ pre.length * 6 := flat_len _ 6 pre fun c _ => Nat.le_trans (freeOf_len _ _) (triLatt.cnt c)
    have hc6 := triLatt.cnt c
    refine implFree_lT s hs (triC c) (by omega) _ _ (triC c) [] _ rfl (by omega) ?_
    rw [pre_w hx hsm]
    exact ih _ (by rw [List.flatMap_append]; simp)
theorem implGrown_evT {m : Int} {n : Nat} (s : List Cell) (h : Good triX m n s) (hm : 0 ≤ m ∧ m ≤ 80) (hn : n ≤ 60) : Ev (fun k => impl_grown__impl_trianglesAround_impl_normalTriangles.f k s) (grownL triC normalT s) ∧ 0 < (grownL triC normalT s).length := by
  have hl := h.len
  have hp := h.pos
  have h0 := beside_ne triLatt h hm
  have hbl := besideL_len triLatt s
  have hb0 : 0 < (besideL triC s).length := by
    obtain ⟨d, hd⟩ := List.exists_mem_of_length_pos h0
    refine List.length_pos_of_mem (a := d) ?_
    unfold besideL
    rw [compF_mem, sortC_mem]
    exact hd
  have hbs : small (besideL triC s) := by unfold small; omega
  have hg0 : 0 < (grownR triC normalT s).length := by unfold grownR; rw [List.length_map]; exact hb0
  refine ⟨?_, ?_⟩
  · unfold impl_grown__impl_trianglesAround_impl_normalTriangles.f
    refine Ev.bind (implBeside_evT s (by omega) h0) ?_
    refine loop_list (besideL triC s) (fun k i (acc : List (List Cell)) => impl_grown__impl_trianglesAround_impl_normalTriangles.l0 k s acc (besideL triC s) ((besideL triC s).length : Int) i) (fun _ _ _ => grownL triC normalT s) (fun pre acc => acc = pre.map fun d => normalT (sortC (s ++ [d]))) ?_ ?_ [] rfl
    · rintro acc rfl
      simp only [impl_grown__impl_trianglesAround_impl_normalTriangles.l0, len_lt, if_false]
      have hgl : (grownR triC normalT s).length ≤ 1000 := by unfold grownR; rw [List.length_map]; omega
      exact Ev.bind0 (implTidy_eq _ hg0 (by unfold grownR at hgl; omega)) (Ev.now _)
    · rintro pre d suf acc hx rfl ih
      have hpl := pre_len hx
      simp only [impl_grown__impl_trianglesAround_impl_normalTriangles.l0, pre_lt hx, pre_0, if_true, at_pre hx, pre_w hx hbs]
      have e1 : impl_Cell_46.f s = some s := by
        unfold impl_Cell_46.f
        rw [if_pos (by omega)]
      have e2 : impl_sorted.f (s ++ [(⟨d.f0, d.f1⟩ : Cell)]) = some (sortC (s ++ [(⟨d.f0, d.f1⟩ : Cell)])) := implSorted_eq _ (by simp) (by simp; omega)
      refine Ev.bind0 e1 (Ev.bind0 rfl (Ev.pos (by simp; omega) (Ev.bind0 e2 (Ev.bind (implNormalT_ev _ (by rw [sortC_len]; simp; omega) (by rw [sortC_len]; simp)) (Ev.bind0 rfl (Ev.pos (by simp; omega) ?_))))))
      exact ih _ (by simp)
  · have h1 : 0 < (grownR triC normalT s).length := hg0
    obtain ⟨x, hx⟩ := List.exists_mem_of_length_pos h1
    exact List.length_pos_of_mem (tidyL_mem.2 hx)
theorem implAll_lT {m : Int} {n : Nat} (now : List (List Cell)) (h : ∀ s ∈ now, Good triX m n s) (hm : 0 ≤ m ∧ m ≤ 80) (hn : n ≤ 6) (h0 : 0 < now.length) (hl : now.length ≤ 1000000000) (len_ i_ : Int) {r : List (List Cell)} : ∀ (suf pre acc : List (List Cell)), now = pre ++ suf → acc = pre.flatMap (grownL triC normalT) → Ev (fun k => impl_allGrown__impl_trianglesAround_impl_normalTriangles.l0 k (nextI triC normalT now) len_ (wrap64 (i_ + 1))) r →
    Ev (fun k => impl_allGrown__impl_trianglesAround_impl_normalTriangles.l1 k acc len_ i_ now (now.length : Int) (pre.length : Int)) r
  | [], pre, acc, hx, ha, hc => by
    refine Ev.succ ?_
    rw [List.append_nil] at hx
    subst hx ha
    simp only [impl_allGrown__impl_trianglesAround_impl_normalTriangles.l1]
    refine Ev.neg (by omega) ?_
    have h1 : (now.flatMap (grownL triC normalT)).length ≤ now.length * 36 := flat_len _ 36 now fun s hs => by
      have := grownL_len triLatt s
      have := (h s hs).len
      omega
    obtain ⟨s, hs⟩ := List.exists_mem_of_length_pos h0
    have h2 := (implGrown_evT s (h s hs) hm (by omega)).2
    obtain ⟨x, hx⟩ := List.exists_mem_of_length_pos h2
    have h3 : 0 < (now.flatMap (grownL triC normalT)).length := List.length_pos_of_mem (List.mem_flatMap.2 ⟨s, hs, hx⟩)
    exact Ev.bind0 (implTidy_eq _ h3 (by omega)) hc
  | s :: suf, pre, acc, hx, ha, hc => by
    refine Ev.succ ?_
    have hsm : small now := by unfold small; omega
    have hs : s ∈ now := by rw [hx]; simp
    have hi := implAll_lT now h hm hn h0 hl len_ i_ suf (pre ++ [s]) (acc ++ grownL triC normalT s) (by rw [hx]; simp) (by rw [ha]; simp) hc
    simp only [List.length_append, List.length_singleton, Int.natCast_add] at hi
    have h1 : acc.length ≤ pre.length * 36 := by
      rw [ha]
      exact flat_len _ 36 pre fun s hs => by
        have := grownL_len triLatt s
        have := (h s (by rw [hx]; simp [hs])).len
        omega
    have h2 := grownL_len triLatt s
    have h3 := (h s hs).len
    have h4 := pre_len hx
    simp only [impl_allGrown__impl_trianglesAround_impl_normalTriangles.l1, pre_lt hx, pre_0, if_true, at_preL2 hx, pre_w hx hsm]
    exact Ev.bind (implGrown_evT s (h s hs) hm (by omega)).1 (Ev.pos (by omega) hi)
theorem implAll_qT (N : Nat) (hN : N ≤ 6) : ∀ (q i : Nat) (m : Int) (n : Nat) (now : List (List Cell)), i + q = N → (∀ s ∈ now, Good triX m n s) → 0 ≤ m → m + q * 2 ≤ 80 → n + q ≤ 6 → 0 < now.length → now.length * 36 ^ q ≤ 1000000000 →
    Ev (fun k => impl_allGrown__impl_trianglesAround_impl_normalTriangles.l0 k now (N : Int) (i : Int)) (growI triC normalT q now)
  | 0, i, m, n, now, hi, h, h0, h1, h2, h3, h4 => by
    refine Ev.succ ?_
    simp only [impl_allGrown__impl_trianglesAround_impl_normalTriangles.l0]
    exact Ev.neg (by omega) (Ev.now _)
  | q + 1, i, m, n, now, hi, h, h0, h1, h2, h3, h4 => by
    have e36 : 36 ^ (q + 1) = 36 ^ q * 36 := Nat.pow_succ ..
    have e1 : 0 < 36 ^ q := Nat.pow_pos (by omega)
    have hnl : now.length ≤ 1000000000 := Nat.le_trans (Nat.le_mul_of_pos_right _ (by rw [e36]; omega)) h4
    have ew : wrap64 ((i : Int) + 1) = ((i + 1 : Nat) : Int) := by rw [w64 (by omega) (by omega)]; omega
    have hg : ∀ x ∈ nextI triC normalT now, Good triX (m + 2) (n + 1) x := by
      rw [next_eq fun s hs => (h s hs).lt]
      exact good_next triLatt h (by omega)
    have hnx : (nextI triC normalT now).length ≤ now.length * 36 := by
      rw [next_eq fun s hs => (h s hs).lt]
      refine Nat.le_trans (nextS_len triLatt (n := n) fun s hs => (h s hs).len) (Nat.mul_le_mul_left _ (by omega))
    have hn0 : 0 < (nextI triC normalT now).length := by
      obtain ⟨s, hs⟩ := List.exists_mem_of_length_pos h3
      have h2 := (implGrown_evT s (h s hs) (by omega) (by omega)).2
      obtain ⟨x, hx⟩ := List.exists_mem_of_length_pos h2
      exact List.length_pos_of_mem (tidyL_mem.2 (List.mem_flatMap.2 ⟨s, hs, hx⟩))
    have hb : (nextI triC normalT now).length * 36 ^ q ≤ 1000000000 := by
      refine Nat.le_trans (Nat.mul_le_mul_right _ hnx) ?_
      rw [Nat.mul_assoc, Nat.mul_comm 36, ← e36]
      exact h4
    refine Ev.succ ?_
    simp only [impl_allGrown__impl_trianglesAround_impl_normalTriangles.l0]
    refine Ev.pos (by omega) (implAll_lT now h (by omega) (by omega) h3 hnl _ _ now [] [] rfl rfl ?_)
    rw [ew]
    exact implAll_qT N hN q (i + 1) (m + 2) (n + 1) _ (by omega) hg (by omega) (by omega) (by omega) hn0 hb
theorem specAll_3T (N x6 i j : Int) (now : List (List Cell)) (s : List Cell) (hs : s.length ≤ 64) (hi0 : 0 ≤ i) (hi1 : i < (now.length : Int)) (hrd : rd_L2 now i = s) (arr : List Cell) (ha : arr.length ≤ 64) {r : List (List Cell)} : ∀ (suf pre : List Cell) (next : List (List Cell)), arr = pre ++ suf → next.length + suf.length ≤ 900000000 →
    Ev (fun k => spec_l07All.l2 k 0 N now x6 (((freeOf s suf).map fun d => normalT (insC d s)).foldl addL next) i (wrap64 (j + 1))) r → Ev (fun k => spec_l07All.l3 k 0 N now x6 next i j arr (pre.length : Int)) r
  | [], pre, next, hx, hl, hc => by
    refine Ev.succ ?_
    rw [List.append_nil] at hx
    subst hx
    simp only [spec_l07All.l3]
    exact Ev.neg (by omega) (by simpa [freeOf] using hc)
  | d :: suf, pre, next, hx, hl, hc => by
    refine Ev.succ ?_
    have hsm : small arr := by unfold small; omega
    simp only [List.length_cons] at hl
    have hi (next' : List (List Cell)) (ho : next'.length + suf.length ≤ 900000000) (hc' : Ev (fun k => spec_l07All.l2 k 0 N now x6 (((freeOf s suf).map fun d => normalT (insC d s)).foldl addL next') i (wrap64 (j + 1))) r) := specAll_3T N x6 i j now s hs hi0 hi1 hrd arr ha suf (pre ++ [d]) next' (by rw [hx]; simp) ho hc'
    simp only [List.length_append, List.length_singleton, Int.natCast_add] at hi
    simp only [spec_l07All.l3, pre_lt hx, pre_0, if_true, at_pre hx, pre_w hx hsm, hrd]
    refine Ev.pos hi0 (Ev.pos hi1 (Ev.bind (specIndex_ev s d (by unfold small; omega)) ?_))
    by_cases hm : d ∈ s
    · have := (idxC_mem s d).2 hm
      refine Ev.neg (by omega) (hi next (by omega) ?_)
      simpa [freeOf, hm] using hc
    · have : ¬ idxC s d ≥ 0 := fun h => hm ((idxC_mem s d).1 h)
      have hil : (insC d s).length = s.length + 1 := by rw [(insC_perm d s).length_eq, List.length_cons]
      have hnl : (normalT (insC d s)).length = s.length + 1 := by rw [normalT_len, hil]
      have hal := addL_len next (normalT (insC d s))
      refine Ev.pos (by omega) (Ev.bind (specInsert_ev s d (by omega)) (Ev.bind (specNormal0_ev _ (by omega) (by omega)) (Ev.bind (specAdd_ev next _ (by omega) (by unfold small; omega)) (hi _ (by omega) ?_))))
      have : freeOf s (d :: suf) = d :: freeOf s suf := by simp [freeOf, hm]
      rw [this] at hc
      simpa using hc
theorem specAll_2T {m : Int} {n : Nat} (N x6 i : Int) (now : List (List Cell)) (s : List Cell) (h : Good triX m n s) (hm : 0 ≤ m ∧ m ≤ 80) (hs : s.length ≤ 64) (hi0 : 0 ≤ i) (hi1 : i < (now.length : Int)) (hrd : rd_L2 now i = s) {r : List (List Cell)} : ∀ (suf pre : List Cell) (next : List (List Cell)), s = pre ++ suf → next.length + suf.length * 6 ≤ 800000000 →
    Ev (fun k => spec_l07All.l1 k 0 N now x6 ((suf.flatMap fun c => (freeOf s (triC c)).map fun d => normalT (insC d s)).foldl addL next) (wrap64 (i + 1))) r → Ev (fun k => spec_l07All.l2 k 0 N now x6 next i (pre.length : Int)) r
  | [], pre, next, hx, hl, hc => by
    refine Ev.succ ?_
    rw [List.append_nil] at hx
    subst hx
    simp only [spec_l07All.l2, hrd]
    exact Ev.pos hi0 (Ev.pos hi1 (Ev.neg (by omega) (by simpa using hc)))
  | c :: suf, pre, next, hx, hl, hc => by
    refine Ev.succ ?_
    have hsm : small s := by unfold small; omega
    simp only [List.length_cons] at hl
    have hcs : c ∈ s := by rw [hx]; simp
    have hc6 := triLatt.cnt c
    have hb := h.box c hcs
    simp only [spec_l07All.l2, hrd]
    refine Ev.pos hi0 (Ev.pos hi1 ?_)
    simp only [pre_lt hx, pre_0, if_true, at_pre hx]
    refine Ev.bind0 (aroundT (c := c) (by omega) (h.p c hcs)) ?_
    refine specAll_3T N x6 i (pre.length : Int) now s hs hi0 hi1 hrd (triC c) (by omega) (triC c) [] next rfl (by omega) ?_
    rw [pre_w hx hsm]
    have hfl := foldAdd_len ((freeOf s (triC c)).map fun d => normalT (insC d s)) next
    rw [List.length_map] at hfl
    have hfr := freeOf_len s (triC c)
    have hi := specAll_2T N x6 i now s h hm hs hi0 hi1 hrd suf (pre ++ [c]) (((freeOf s (triC c)).map fun d => normalT (insC d s)).foldl addL next) (by rw [hx]; simp) (by omega) (by simpa using hc)
    simp only [List.length_append, List.length_singleton, Int.natCast_add] at hi
    exact hi
theorem specAll_1T {m : Int} {n : Nat} (N x6 : Int) (now : List (List Cell)) (h : ∀ s ∈ now, Good triX m n s) (hm : 0 ≤ m ∧ m ≤ 80) (hn : n ≤ 6) (hnl : now.length ≤ 20000000) {r : List (List Cell)} : ∀ (suf pre : List (List Cell)) (next : List (List Cell)), now = pre ++ suf → next.length + suf.length * 36 ≤ 720000000 →
    Ev (fun k => spec_l07All.l0 k 0 N ((suf.flatMap (moreOf triC normalT)).foldl addL next) (wrap64 (x6 + 1))) r → Ev (fun k => spec_l07All.l1 k 0 N now x6 next (pre.length : Int)) r
  | [], pre, next, hx, hl, hc => by
    refine Ev.succ ?_
    rw [List.append_nil] at hx
    subst hx
    simp only [spec_l07All.l1]
    exact Ev.neg (by omega) (by simpa using hc)
  | s :: suf, pre, next, hx, hl, hc => by
    refine Ev.succ ?_
    have hsm : small now := by unfold small; omega
    simp only [List.length_cons] at hl
    have hs : s ∈ now := by rw [hx]; simp
    have hg := h s hs
    have hgl := hg.len
    have hp := pre_len hx
    simp only [spec_l07All.l1, pre_lt hx, if_true]
    refine specAll_2T N x6 (pre.length : Int) now s hg hm (by omega) (by omega) (by omega) (at_preL2 hx) s [] next rfl (by omega) ?_
    rw [pre_w hx hsm]
    have hml := moreOf_len triLatt s
    have hfl := foldAdd_len (moreOf triC normalT s) next
    have hi := specAll_1T N x6 now h hm hn hnl suf (pre ++ [s]) ((moreOf triC normalT s).foldl addL next) (by rw [hx]; simp) (by omega) (by simpa using hc)
    simp only [List.length_append, List.length_singleton, Int.natCast_add] at hi
    exact hi
theorem specAll_qT (N : Nat) (hN : N ≤ 6) : ∀ (q i : Nat) (m : Int) (n : Nat) (now : List (List Cell)), i + q = N → (∀ s ∈ now, Good triX m n s) → 0 ≤ m → m + q * 2 ≤ 80 → n + q ≤ 6 → now.length * 36 ^ q ≤ 200000000 →
    Ev (fun k => spec_l07All.l0 k 0 (N : Int) now (i : Int)) (growS triC normalT q now)
  | 0, i, m, n, now, hi, h, h0, h1, h2, h4 => by
    refine Ev.succ ?_
    simp only [spec_l07All.l0]
    exact Ev.neg (by omega) (Ev.now _)
  | q + 1, i, m, n, now, hi, h, h0, h1, h2, h4 => by
    have e36 : 36 ^ (q + 1) = 36 ^ q * 36 := Nat.pow_succ ..
    have e1 : 0 < 36 ^ q := Nat.pow_pos (by omega)
    have hnl : now.length * 36 ≤ 200000000 := Nat.le_trans (Nat.mul_le_mul_left _ (by rw [e36]; omega)) h4
    have ew : wrap64 ((i : Int) + 1) = ((i + 1 : Nat) : Int) := by rw [w64 (by omega) (by omega)]; omega
    have hg := good_next triLatt h (by omega : 0 ≤ m ∧ m ≤ 80)
    have hnx : (nextS triC normalT now).length ≤ now.length * 36 := Nat.le_trans (nextS_len triLatt (n := n) fun s hs => (h s hs).len) (Nat.mul_le_mul_left _ (by omega))
    have hb : (nextS triC normalT now).length * 36 ^ q ≤ 200000000 := by
      refine Nat.le_trans (Nat.mul_le_mul_right _ hnx) ?_
      rw [Nat.mul_assoc, Nat.mul_comm 36, ← e36]
      exact h4
    refine Ev.succ ?_
    simp only [spec_l07All.l0]
    refine Ev.pos (by omega) (specAll_1T (N : Int) (i : Int) now h (by omega) (by omega) (by omega) now [] [] rfl (by simp; omega) ?_)
    rw [ew]
    exact specAll_qT N hN q (i + 1) (m + 2) (n + 1) _ (by omega) hg (by omega) (by omega) (by omega) hb
theorem growS_lenT : ∀ (q : Nat) (m : Int) (n : Nat) (l : List (List Cell)), (∀ s ∈ l, Good triX m n s) → 0 ≤ m → m + q * 2 ≤ 80 → n + q ≤ 6 → (growS triC normalT q l).length ≤ l.length * 36 ^ q
  | 0, _, _, _, _, _, _, _ => by simp [growS]
  | q + 1, m, n, l, h, h0, h1, h2 => by
    have e36 : 36 ^ (q + 1) = 36 ^ q * 36 := Nat.pow_succ ..
    have hnx : (nextS triC normalT l).length ≤ l.length * 36 := Nat.le_trans (nextS_len triLatt (n := n) fun s hs => (h s hs).len) (Nat.mul_le_mul_left _ (by omega))
    have := growS_lenT q (m + 2) (n + 1) _ (good_next triLatt h (by omega)) (by omega) (by omega) (by omega)
    rw [growS]
    refine Nat.le_trans this (Nat.le_trans (Nat.mul_le_mul_right _ hnx) ?_)
    rw [Nat.mul_assoc, Nat.mul_comm 36, ← e36]
    exact Nat.le_refl _
theorem formOkT {m : Int} {n : Nat} {s : List Cell} (h : Good triX m n s) (hm : 0 ≤ m ∧ m ≤ 80) (hn : n ≤ 6) : ∀ (q : Nat) (t : Int), 0 ≤ t → triGOk s q t = true
  | 0, _, _ => rfl
  | q + 1, t, ht => by
    unfold triGOk
    have hp : Pre triX m n (latL s t) := lat_pre h hm t (fun c hc => triX_lat (by have := h.box c hc; omega))
    have hg : Good triX m n (triG s t) := triLatt.norm _ _ _ hm.1 (by omega) hp
    rw [good_shape hg hm (by omega), formOkT h hm hn q (t + 1) (by omega)]
    rfl
def keepT (l : List (List Cell)) : List (List Cell) := l.filter fun s => decide (triGMin s = s)
theorem rot_singT (s : List Cell) : (if triGMin s = s then [s] else []) = keepT [s] := by
  unfold keepT
  by_cases h : triGMin s = s <;> simp [h]
theorem specFree_evT {m : Int} {n : Nat} (l : List (List Cell)) (h : ∀ s ∈ l, Good triX m n s) (hm : 0 ≤ m ∧ m ≤ 80) (hn : n ≤ 6) (hl : l.length ≤ 1000000000) : Ev (fun k => spec_l07Free.f k 0 l) (keepT l) := by
  have hsm : small l := by unfold small; omega
  unfold spec_l07Free.f
  refine loop_list l (fun k i (acc : List (List Cell)) => spec_l07Free.l0 k 0 l acc i) (fun _ _ _ => keepT l) (fun pre acc => acc = keepT pre) ?_ ?_ [] rfl
  · rintro acc rfl
    simp only [spec_l07Free.l0, len_lt, if_false]
    exact Ev.now _
  · rintro pre s suf acc hx rfl ih
    have hp := pre_len hx
    have hg := h s (by rw [hx]; simp)
    have hgl := hg.len
    have hgp := hg.pos
    have hk : (keepT pre).length ≤ pre.length := List.length_filter_le _ _
    have hadd : ∀ x, keepT (pre ++ [x]) = keepT pre ++ (if triGMin x = x then [x] else []) := fun x => by
      rw [rot_singT]; unfold keepT; rw [List.filter_append]
    simp only [spec_l07Free.l0, pre_lt hx, pre_0, if_true, at_preL2 hx, pre_w hx hsm]
    have hF : Ev (fun k => spec_l07Forms.f k 0 s) (triGS s 12 0, triGOk s 12 0) := by
      unfold spec_l07Forms.f
      exact Ev.of_eq (specForms0_l s (by omega) (by omega) 12 0 [] true (by omega) (by omega) (by simp)) (by simp)
    refine Ev.bind hF ?_
    have e12 : triGS s 12 0 = triG s 0 :: triGS s 11 1 := rfl
    have hmem : ∀ x ∈ triG s 0 :: triGS s 11 1, small x := by
      intro x hx
      rw [← e12] at hx
      have := triGS_mem s 12 0 x hx
      unfold small; omega
    simp only [e12]
    refine Ev.bind (specLeastS_ev _ _ (by unfold small; rw [List.length_cons, triGS_len]; omega) hmem) ?_
    have hml := triGMin_len s
    refine Ev.bind (specCompare_ev (triGMin s) s (by unfold small; omega)) ?_
    by_cases e : triGMin s = s
    · refine Ev.pos ((cmpS_zero _ _).2 e) (Ev.pos (by omega) (ih _ ?_))
      rw [hadd, if_pos e]
    · refine Ev.neg (fun h => e ((cmpS_zero _ _).1 h)) (ih _ ?_)
      rw [hadd, if_neg e, List.append_nil]
theorem implOwn_evT {m : Int} {n : Nat} (l : List (List Cell)) (h : ∀ s ∈ l, Good triX m n s) (hm : 0 ≤ m ∧ m ≤ 80) (hn : n ≤ 6) (hl : l.length ≤ 1000000000) : Ev (fun k => impl_ownLeast__impl_triangleForm.f k l) (keepT l) := by
  have hsm : small l := by unfold small; omega
  unfold impl_ownLeast__impl_triangleForm.f
  refine loop_list l (fun k i (acc : List (List Cell)) => impl_ownLeast__impl_triangleForm.l0 k acc l (l.length : Int) i) (fun _ _ _ => keepT l) (fun pre acc => acc = keepT pre) ?_ ?_ [] rfl
  · rintro acc rfl
    simp only [impl_ownLeast__impl_triangleForm.l0, len_lt, if_false]
    exact Ev.now _
  · rintro pre s suf acc hx rfl ih
    have hp := pre_len hx
    have hg := h s (by rw [hx]; simp)
    have hgl := hg.len
    have hgp := hg.pos
    have hk : (keepT pre).length ≤ pre.length := List.length_filter_le _ _
    have hadd : ∀ x, keepT (pre ++ [x]) = keepT pre ++ (if triGMin x = x then [x] else []) := fun x => by
      rw [rot_singT]; unfold keepT; rw [List.filter_append]
    simp only [impl_ownLeast__impl_triangleForm.l0, pre_lt hx, pre_0, if_true, at_preL2 hx, pre_w hx hsm]
    have hL : Ev (fun k => impl_leastForm__impl_triangleForm.f k s) (triGMin s, true) := by
      unfold impl_leastForm__impl_triangleForm.f
      refine Ev.of_eq (implLeast0_l s (by omega) (by omega) 12 0 [] (by omega) (by omega) (by simp) (fun x hx => by simp at hx)) ?_
      rw [if_pos (formOkT hg hm hn 12 0 (by omega))]
      rfl
    have hml := triGMin_len s
    refine Ev.bind hL (Ev.pos rfl (Ev.bind (equalC_ev (triGMin s) s (by unfold small; omega)) ?_))
    by_cases e : triGMin s = s
    · refine Ev.pos (by simpa using e) (Ev.pos (by omega) (ih _ ?_))
      rw [hadd, if_pos e]
    · refine Ev.neg (by simpa using e) (ih _ ?_)
      rw [hadd, if_neg e, List.append_nil]
def startT : List (List Cell) := [[⟨1, 1⟩], [⟨2, 2⟩]]
theorem start_goodT : ∀ s ∈ startT, Good triX 0 1 s := by
  intro s hs
  simp only [startT, List.mem_cons, List.not_mem_nil, or_false] at hs
  rcases hs with rfl | rfl <;> exact ⟨rfl, by omega, by simp, by simp, by simp, by simp [triX]⟩
theorem specAll_evT (n : Nat) (h1 : 1 ≤ n) (h2 : n ≤ 6) : Ev (fun k => spec_l07All.f k 0 (n : Int)) (growS triC normalT (n - 1) startT) := by
  unfold spec_l07All.f
  refine Ev.pos rfl (Ev.succ ?_)
  simp only [spec_l07All.j0]
  have h36 : 36 ^ (n - 1) ≤ 36 ^ (6 - 1) := Nat.pow_le_pow_right (by omega) (by omega)
  exact specAll_qT n (by omega) (n - 1) 1 0 1 startT (by omega) start_goodT (by omega) (by omega) (by omega) (Nat.le_trans (Nat.mul_le_mul_left _ h36) (by decide))
theorem implAll_evT (n : Nat) (h1 : 1 ≤ n) (h2 : n ≤ 6) : Ev (fun k => impl_allTriangles.f k (n : Int)) (growS triC normalT (n - 1) startT) := by
  have h36 : 36 ^ (n - 1) ≤ 36 ^ (6 - 1) := Nat.pow_le_pow_right (by omega) (by omega)
  have e : wrap64 ((n : Int) - 1) = ((n - 1 : Nat) : Int) := by rw [w64 (by omega) (by omega)]; omega
  rw [← grow_eq triLatt (n - 1) 0 1 startT start_goodT (by omega) (by omega)]
  unfold impl_allTriangles.f
  refine Ev.bind (a := growI triC normalT (n - 1) startT) ?_ (Ev.now _)
  unfold impl_allGrown__impl_trianglesAround_impl_normalTriangles.f
  rw [e]
  exact implAll_qT (n - 1) (by omega) (n - 1) 0 0 1 startT (by omega) start_goodT (by omega) (by omega) (by omega) (by decide) (Nat.le_trans (Nat.mul_le_mul_left _ h36) (by decide))
theorem all_goodT (n : Nat) (h1 : 1 ≤ n) (h2 : n ≤ 6) : ∀ x ∈ growS triC normalT (n - 1) startT, Good triX (0 + ((n - 1 : Nat) : Int) * 2) (1 + (n - 1)) x :=
  grow_good triLatt (n - 1) 0 1 startT start_goodT (by omega) (by omega)
theorem all_lenT (n : Nat) (h1 : 1 ≤ n) (h2 : n ≤ 6) : (growS triC normalT (n - 1) startT).length ≤ 200000000 := by
  have h36 : 36 ^ (n - 1) ≤ 36 ^ (6 - 1) := Nat.pow_le_pow_right (by omega) (by omega)
  refine Nat.le_trans (growS_lenT (n - 1) 0 1 startT start_goodT (by omega) (by omega) (by omega)) (Nat.le_trans (Nat.mul_le_mul_left _ h36) (by decide))
theorem specFreeAll_evT (n : Nat) (h1 : 1 ≤ n) (h2 : n ≤ 6) : Ev (fun k => spec_l07Free.f k 0 (growS triC normalT (n - 1) startT)) (keepT (growS triC normalT (n - 1) startT)) :=
  specFree_evT _ (all_goodT n h1 h2) (by omega) (by omega) (by have := all_lenT n h1 h2; omega)
theorem implOwnAll_evT (n : Nat) (h1 : 1 ≤ n) (h2 : n ≤ 6) : Ev (fun k => impl_ownLeast__impl_triangleForm.f k (growS triC normalT (n - 1) startT)) (keepT (growS triC normalT (n - 1) startT)) :=
  implOwn_evT _ (all_goodT n h1 h2) (by omega) (by omega) (by have := all_lenT n h1 h2; omega)
end Go.Proofs.YtlnliahadgmbcaaGreat.L
end
section
namespace Go.Proofs.YtlnliahadgmbcaaGreat.L
open Go.RowKit Go.Proofs.YtlnliahadgmbcaaGreatW.PrintWords Go.Proofs.YtlnliahadgmbcaaGreatW.PrintLast Go.Proofs.YtlnliahadgmbcaaGreatW.PrintMore Go.Proofs.YtlnliahadgmbcaaGreat.F
set_option linter.unusedVariables false
def cntT (a : Int) : Int × Int × Int := if 1 ≤ a ∧ a ≤ 6 then (((growS triC normalT (a.toNat - 1) startT).length : Int), ((keepT (growS triC normalT (a.toNat - 1) startT)).length : Int), 0) else (0, 0, 2)
theorem inRT (a b c : Int) : spec_l01In.f a b c = some (decide (b ≤ a ∧ a ≤ c)) := by
  unfold spec_l01In.f
  by_cases h : a ≥ b
  · rw [if_pos h]
    congr 1
    simp
    omega
  · rw [if_neg h]
    congr 1
    simp
    omega
theorem withinRT (a b c : Int) : impl_within.f a b c = some (decide (b ≤ a ∧ a ≤ c)) := inRT a b c
theorem specCount_evT (a : Int) : Ev (fun k => spec_CountTriangles.f k a) (cntT a) := by
  unfold spec_CountTriangles.f cntT
  refine Ev.bind0 (inRT a 1 6) ?_
  by_cases h : 1 ≤ a ∧ a ≤ 6
  · obtain ⟨n, rfl⟩ : ∃ n : Nat, a = (n : Int) := ⟨a.toNat, by omega⟩
    rw [if_pos h]
    refine Ev.pos (by simpa using h) (Ev.bind (specAll_evT n (by omega) (by omega)) (Ev.bind (specFreeAll_evT n (by omega) (by omega)) (Ev.now _)))
  · rw [if_neg h]
    exact Ev.neg (by simpa using h) (Ev.now _)
theorem implCount_evT (a : Int) : Ev (fun k => impl_CountTriangles.f k a) (cntT a) := by
  unfold impl_CountTriangles.f cntT
  refine Ev.bind0 (withinRT a 1 6) ?_
  by_cases h : 1 ≤ a ∧ a ≤ 6
  · obtain ⟨n, rfl⟩ : ∃ n : Nat, a = (n : Int) := ⟨a.toNat, by omega⟩
    rw [if_pos h]
    refine Ev.pos (by simpa using h) (Ev.bind (implAll_evT n (by omega) (by omega)) (Ev.bind (implOwnAll_evT n (by omega) (by omega)) (Ev.now _)))
  · rw [if_neg h]
    exact Ev.neg (by simpa using h) (Ev.now _)
end Go.Proofs.YtlnliahadgmbcaaGreat.L
end
section
namespace Go.Proofs.YtlnliahadgmbcaaGreat.Pure
open Go.RowKit Go.Proofs.YtlnliahadgmbcaaGreatW.PrintWords Go.Proofs.YtlnliahadgmbcaaGreat.F Go.Proofs.YtlnliahadgmbcaaGreat.L
set_option linter.unusedVariables false
set_option linter.unusedSimpArgs false
def triR (c : Cell) : List Cell × Int := if okC c ∧ triX c then (triC c, 0) else ([], 1)
theorem specTriR (c : Cell) : spec_TrianglesAround.f c.f0 c.f1 = some (triR c) := by
  unfold spec_TrianglesAround.f triR
  rw [specIsTriangle_eq, Option.bind_some]
  by_cases h : okC c ∧ triX c
  · have h' : (ok1 c.f0 ∧ ok1 c.f1) ∧ (c.f0 % 3 = c.f1 % 3 ∧ c.f0 % 3 ≠ 0) := h
    rw [if_pos h, decide_eq_true h', if_pos rfl, specTri_eq h.1 h.2]; rfl
  · have h' : ¬ ((ok1 c.f0 ∧ ok1 c.f1) ∧ (c.f0 % 3 = c.f1 % 3 ∧ c.f0 % 3 ≠ 0)) := h
    rw [if_neg h, decide_eq_false h', if_neg (by simp)]
theorem implTriR (c : Cell) : impl_TrianglesAround.f c.f0 c.f1 = some (triR c) := by
  unfold impl_TrianglesAround.f triR
  rw [implIsTriangle_eq, Option.bind_some]
  by_cases h : okC c ∧ triX c
  · have h' : (ok1 c.f0 ∧ ok1 c.f1) ∧ (c.f0 % 3 = c.f1 % 3 ∧ c.f0 % 3 ≠ 0) := h
    rw [if_pos h, decide_eq_true h', if_pos rfl, implTri_eq]; rfl
  · have h' : ¬ ((ok1 c.f0 ∧ ok1 c.f1) ∧ (c.f0 % 3 = c.f1 % 3 ∧ c.f0 % 3 ≠ 0)) := h
    rw [if_neg h, decide_eq_false h', if_neg (by simp)]
end Go.Proofs.YtlnliahadgmbcaaGreat.Pure
end
section
namespace Go.Proofs.YtlnliahadgmbcaaGreat.L
open Go.RowKit Go.Proofs.YtlnliahadgmbcaaGreatW.PrintWords Go.Proofs.YtlnliahadgmbcaaGreatW.PrintLast Go.Proofs.YtlnliahadgmbcaaGreatW.PrintMore Go.Proofs.YtlnliahadgmbcaaGreat.F
set_option linter.unusedVariables false
def nearC (m : Int) (c : Cell) : Prop := -m ≤ c.f0 ∧ c.f0 ≤ m ∧ -m ≤ c.f1 ∧ c.f1 ≤ m
def triAdj (c d : Cell) : Prop :=
  (c.f0 % 3 = 2 ∧ (d.f0 = c.f0 - 1 ∧ d.f1 = c.f1 - 1 ∨ d.f0 = c.f0 + 2 ∧ d.f1 = c.f1 - 1 ∨ d.f0 = c.f0 - 1 ∧ d.f1 = c.f1 + 2)) ∨
  (c.f0 % 3 ≠ 2 ∧ (d.f0 = c.f0 + 1 ∧ d.f1 = c.f1 + 1 ∨ d.f0 = c.f0 - 2 ∧ d.f1 = c.f1 + 1 ∨ d.f0 = c.f0 + 1 ∧ d.f1 = c.f1 - 2))
theorem cell_eq {c d : Cell} : c = d ↔ c.f0 = d.f0 ∧ c.f1 = d.f1 := by
  obtain ⟨a, b⟩ := c
  obtain ⟨a', b'⟩ := d
  simp
theorem triC_adj {c d : Cell} (h : nearC 1000 c) : d ∈ triC c ↔ triAdj c d := by
  unfold triC triRaw triAdj
  unfold nearC at h
  have w (n : Int) (h0 : -2000 ≤ n) (h1 : n ≤ 2000) : wrap64 n = n := w64 (by omega) (by omega)
  rw [sortC_mem]
  by_cases h2 : c.f0 % 3 = 2
  · rw [if_pos h2, w (c.f0 + -1) (by omega) (by omega), w (c.f1 + -1) (by omega) (by omega), w (c.f0 - 2 * -1) (by omega) (by omega), w (c.f1 - 2 * -1) (by omega) (by omega)]
    simp only [List.mem_cons, List.not_mem_nil, or_false, cell_eq]
    omega
  · rw [if_neg h2, w (c.f0 + 1) (by omega) (by omega), w (c.f1 + 1) (by omega) (by omega), w (c.f0 - 2 * 1) (by omega) (by omega), w (c.f1 - 2 * 1) (by omega) (by omega)]
    simp only [List.mem_cons, List.not_mem_nil, or_false, cell_eq]
    omega
theorem triAdj_sym {c d : Cell} (hc : triX c) (h : triAdj c d) : triX d ∧ triAdj d c := by
  unfold triX at hc
  unfold triAdj at h
  unfold triX triAdj
  rcases h with ⟨h2, h | h | h⟩ | ⟨h2, h | h | h⟩
  · exact ⟨by omega, .inr ⟨by omega, .inl (by omega)⟩⟩
  · exact ⟨by omega, .inr ⟨by omega, .inr (.inl (by omega))⟩⟩
  · exact ⟨by omega, .inr ⟨by omega, .inr (.inr (by omega))⟩⟩
  · exact ⟨by omega, .inl ⟨by omega, .inl (by omega)⟩⟩
  · exact ⟨by omega, .inl ⟨by omega, .inr (.inl (by omega))⟩⟩
  · exact ⟨by omega, .inl ⟨by omega, .inr (.inr (by omega))⟩⟩
theorem triAdj_near {c d : Cell} {m : Int} (hc : nearC m c) (h : triAdj c d) : nearC (m + 2) d := by
  unfold triAdj at h
  unfold nearC at *
  rcases h with ⟨h2, h | h | h⟩ | ⟨h2, h | h | h⟩ <;> omega
theorem likeCC_ev (a : List Cell) (hs : small a) : Ev (fun k => laws_likeCells.f k a a) true := by
  unfold laws_likeCells.f
  refine Ev.pos rfl ?_
  refine loop_list a (fun k i (_ : Unit) => laws_likeCells.l0 k a a i) (fun _ _ _ => true) (fun _ _ => True) ?_ ?_ () trivial
  · intro _ _
    simp only [laws_likeCells.l0, len_lt, if_false]
    exact Ev.now _
  · intro pre d suf _ hx _ ih
    simp only [laws_likeCells.l0, pre_lt hx, pre_0, if_true, at_pre hx, pre_w hx hs]
    exact Ev.neg (by simp) (ih () trivial)
end Go.Proofs.YtlnliahadgmbcaaGreat.L
end
section
namespace Go.Proofs.YtlnliahadgmbcaaGreat.L
open Go.RowKit Go.Proofs.YtlnliahadgmbcaaGreatW.PrintWords Go.Proofs.YtlnliahadgmbcaaGreatW.PrintLast Go.Proofs.YtlnliahadgmbcaaGreatW.PrintMore Go.Proofs.YtlnliahadgmbcaaGreat.F
set_option linter.unusedVariables false
set_option linter.unusedSimpArgs false
structure Src (cs : List Int) (a s : Int) : Prop where
  at0 : 0 ≤ a
  at1 : a ≤ (cs.length : Int)
  sd0 : 0 ≤ s
  sd1 : s < 2147483647
  len : cs.length ≤ 1000000000000000000
  byte : ∀ x ∈ cs, 0 ≤ x ∧ x ≤ 255
theorem rd_byte {cs : List Int} {a s : Int} (h : Src cs a s) (i : Int) (h0 : 0 ≤ i) (h1 : i < (cs.length : Int)) : 0 ≤ rd cs i ∧ rd cs i ≤ 255 := by
  unfold rd
  obtain ⟨n, rfl⟩ : ∃ n : Nat, i = (n : Int) := ⟨i.toNat, by omega⟩
  have hn : n < cs.length := by omega
  have e : cs.getD (n : Int).toNat 0 = cs[n] := by simp [List.getD, hn]
  rw [e]
  exact h.byte _ (List.getElem_mem hn)
theorem next_ex {cs : List Int} {a s : Int} (h : Src cs a s) (n : Int) (hn : n ≤ 1000000000000) : ∃ v a' s', spec_l01Next.f cs a s n = some (v, a', s') ∧ Src cs a' s' ∧ 0 ≤ v ∧ (1 ≤ n → v < n) := by
  have ⟨h0, h1, h2, h3, h4, h5⟩ := h
  unfold spec_l01Next.f
  by_cases hn1 : n ≤ 1
  · rw [if_pos hn1]
    exact ⟨_, _, _, rfl, h, by omega, by omega⟩
  · rw [if_neg hn1]
    have ew : wrap64 ((wrap64 (s * 48271)) + 29) = s * 48271 + 29 := by rw [w64 (n := s * 48271) (by omega) (by omega), w64 (by omega) (by omega)]
    have em : Int.tmod (s * 48271 + 29) 2147483647 = (s * 48271 + 29) % 2147483647 := Int.tmod_eq_emod_of_nonneg (by omega)
    have hs0 : 0 ≤ (s * 48271 + 29) % 2147483647 := Int.emod_nonneg _ (by omega)
    have hs1 : (s * 48271 + 29) % 2147483647 < 2147483647 := Int.emod_lt_of_pos _ (by omega)
    rw [ew, em]
    generalize (s * 48271 + 29) % 2147483647 = s' at hs0 hs1 ⊢
    have et : Int.tdiv s' 31 = s' / 31 := Int.tdiv_eq_ediv_of_nonneg hs0
    rw [et, w64 (n := s' / 31) (by omega) (by omega)]
    have tm (x : Int) (hx : 0 ≤ x) : 0 ≤ Int.tmod x n ∧ Int.tmod x n < n := by
      rw [Int.tmod_eq_emod_of_nonneg hx]
      exact ⟨Int.emod_nonneg _ (by omega), Int.emod_lt_of_pos _ (by omega)⟩
    by_cases ha : a < (cs.length : Int)
    · have ea : wrap64 (a + 1) = a + 1 := w64 (by omega) (by omega)
      have hr := rd_byte h a h0 ha
      have e1 : wrap64 (rd cs a) = rd cs a := w64 (by omega) (by omega)
      have e2 : wrap64 (a + 1 - 1) = a := by rw [w64 (by omega) (by omega)]; omega
      have e3 : wrap64 (s' / 31 + rd cs a) = s' / 31 + rd cs a := w64 (by omega) (by omega)
      have hS : Src cs (a + 1) s' := ⟨by omega, by omega, hs0, hs1, h4, h5⟩
      rw [if_pos ha, if_pos h0, ea, e1, e2, e1, e3, if_pos h0, if_pos ha, if_neg (by omega : ¬ n = 0)]
      repeat' split
      all_goals first
        | exact ⟨_, _, _, rfl, hS, (tm _ (by omega)).1, fun _ => (tm _ (by omega)).2⟩
        | omega
    · have hS : Src cs a s' := ⟨by omega, by omega, hs0, hs1, h4, h5⟩
      rw [if_neg ha, if_neg (by omega : ¬ n = 0)]
      have := tm (s' / 31) (by omega)
      exact ⟨_, _, _, rfl, hS, this.1, fun _ => this.2⟩
def Ex {α : Type} (g : Nat → Option α) (P : α → Prop) : Prop := ∃ r, Ev g r ∧ P r
theorem Ex.now {α : Type} {P : α → Prop} {r : α} (h : P r) : Ex (fun _ => some r) P := ⟨r, Ev.now _, h⟩
theorem Ex.mono {α : Type} {g : Nat → Option α} {P Q : α → Prop} (h : Ex g P) (hi : ∀ r, P r → Q r) : Ex g Q := by
  obtain ⟨r, h1, h2⟩ := h
  exact ⟨r, h1, hi r h2⟩
theorem Ex.bind {α β : Type} {g : Nat → Option α} {f : Nat → α → Option β} {P : α → Prop} {Q : β → Prop} (h : Ex g P) (k : ∀ a, P a → Ex (fun n => f n a) Q) : Ex (fun n => (g n).bind (f n)) Q := by
  obtain ⟨a, h1, h2⟩ := h
  obtain ⟨b, h3, h4⟩ := k a h2
  exact ⟨b, Ev.bind h1 h3, h4⟩
theorem Ex.bind0 {α β : Type} {o : Option α} {f : Nat → α → Option β} {a : α} {Q : β → Prop} (h : o = some a) (k : Ex (fun n => f n a) Q) : Ex (fun n => o.bind (f n)) Q := by
  subst h
  exact k
theorem Ex.pos {α : Type} {c : Prop} [Decidable c] {f g : Nat → Option α} {P : α → Prop} (h : c) (e : Ex f P) : Ex (fun k => if c then f k else g k) P := by
  obtain ⟨r, h1, h2⟩ := e
  exact ⟨r, Ev.pos h h1, h2⟩
theorem Ex.neg {α : Type} {c : Prop} [Decidable c] {f g : Nat → Option α} {P : α → Prop} (h : ¬ c) (e : Ex g P) : Ex (fun k => if c then f k else g k) P := by
  obtain ⟨r, h1, h2⟩ := e
  exact ⟨r, Ev.neg h h1, h2⟩
theorem Ex.if_ {α : Type} {c : Prop} [Decidable c] {f g : Nat → Option α} {P : α → Prop} (h : c → Ex f P) (h' : ¬ c → Ex g P) : Ex (fun k => if c then f k else g k) P := by
  by_cases hc : c
  · exact Ex.pos hc (h hc)
  · exact Ex.neg hc (h' hc)
theorem Ex.succ {α : Type} {g : Nat → Option α} {P : α → Prop} (h : Ex (fun k => g (k + 1)) P) : Ex g P := by
  obtain ⟨r, h1, h2⟩ := h
  exact ⟨r, Ev.succ h1, h2⟩
theorem Ex.next {β : Type} {cs : List Int} {a s : Int} (h : Src cs a s) (n : Int) (hn : n ≤ 1000000000000) {f : Nat → Int × Int × Int → Option β} {Q : β → Prop}
    (k : ∀ v a' s', Src cs a' s' → 0 ≤ v → (1 ≤ n → v < n) → Ex (fun q => f q (v, a', s')) Q) : Ex (fun q => (spec_l01Next.f cs a s n).bind (f q)) Q := by
  obtain ⟨v, a', s', e, h1, h2, h3⟩ := next_ex h n hn
  exact Ex.bind0 e (k v a' s' h1 h2 h3)
theorem from_l (cs : List Int) (hl : cs.length ≤ 1000000000000000000) (hb : ∀ x ∈ cs, 0 ≤ x ∧ x ≤ 255) : ∀ (q i : Nat) (s : Int), i + q = min cs.length 64 → 0 ≤ s → s < 2147483647 →
    Ex (fun k => spec_l01From.l0 k cs (i : Int) cs 0 s) fun r => r.1 = cs ∧ r.2.1 = 0 ∧ Src cs 0 r.2.2
  | 0, i, s, hi, h0, h1 => by
    refine Ex.succ ?_
    simp only [spec_l01From.l0]
    have hS : Src cs 0 s := ⟨by omega, by omega, h0, h1, hl, hb⟩
    refine Ex.if_ (fun _ => Ex.neg (by omega) (Ex.now ⟨rfl, rfl, hS⟩)) (fun _ => Ex.now ⟨rfl, rfl, hS⟩)
  | q + 1, i, s, hi, h0, h1 => by
    refine Ex.succ ?_
    simp only [spec_l01From.l0]
    have hS : Src cs 0 s := ⟨by omega, by omega, h0, h1, hl, hb⟩
    have hr := rd_byte hS (i : Int) (by omega) (by omega)
    have ei : wrap64 ((i : Int) + 1) = ((i + 1 : Nat) : Int) := by rw [w64 (by omega) (by omega)]; omega
    have es : Int.tmod (wrap64 ((wrap64 (s * 47)) + (wrap64 (rd cs (i : Int))))) 2147483647 = (s * 47 + rd cs (i : Int)) % 2147483647 := by
      rw [w64 (n := s * 47) (by omega) (by omega), w64 (n := rd cs (i : Int)) (by omega) (by omega), w64 (by omega) (by omega), Int.tmod_eq_emod_of_nonneg (by omega)]
    rw [ei, es]
    exact Ex.pos (by omega) (Ex.pos (by omega) (Ex.pos (by omega) (from_l cs hl hb q (i + 1) _ (by omega) (Int.emod_nonneg _ (by omega)) (Int.emod_lt_of_pos _ (by omega)))))
theorem from_ex (cs : List Int) (hl : cs.length ≤ 1000000000000000000) (hb : ∀ x ∈ cs, 0 ≤ x ∧ x ≤ 255) : Ex (fun k => spec_l01From.f k cs) fun r => r.1 = cs ∧ r.2.1 = 0 ∧ Src cs 0 r.2.2 := by
  unfold spec_l01From.f
  exact from_l cs hl hb (min cs.length 64) 0 61003 (by omega) (by omega) (by omega)
end Go.Proofs.YtlnliahadgmbcaaGreat.L
end
section
namespace Go.Proofs.YtlnliahadgmbcaaGreat.L
open Go.RowKit Go.Proofs.YtlnliahadgmbcaaGreatW.PrintWords Go.Proofs.YtlnliahadgmbcaaGreatW.PrintLast Go.Proofs.YtlnliahadgmbcaaGreatW.PrintMore Go.Proofs.YtlnliahadgmbcaaGreat.F Go.Proofs.YtlnliahadgmbcaaGreat.Pure
set_option linter.unusedVariables false
set_option linter.unusedSimpArgs false
theorem drawTri_ex (cs : List Int) (hl : cs.length ≤ 1000000000000000000) (hb : ∀ x ∈ cs, 0 ≤ x ∧ x ≤ 255) : Ex (fun k => spec_DrawTrianglesAround.f k cs) fun _ => True := by
  unfold spec_DrawTrianglesAround.f
  have hj (x : Int) (b : Bool) (a s : Int) (h : Src cs a s) : Ex (fun k => spec_DrawIsTriangle.j0 k x b cs a s) fun _ => True := by
    refine Ex.succ ?_
    simp only [spec_DrawIsTriangle.j0]
    exact Ex.if_ (fun _ => Ex.next h 9 (by omega) fun v a s h _ _ => Ex.now trivial) (fun _ => Ex.next h 5 (by omega) fun v a s h _ _ => Ex.now trivial)
  refine Ex.bind (P := fun _ => True) ?_ fun _ _ => Ex.now trivial
  unfold spec_DrawIsTriangle.f
  refine Ex.bind (from_ex cs hl hb) fun ⟨c1, a1, s1⟩ ⟨e1, e2, h1⟩ => ?_
  simp only at e1 e2 h1
  subst e1 e2
  refine Ex.next h1 9 (by omega) fun v1 a2 s2 h2 _ _ => Ex.next h2 8 (by omega) fun v2 a3 s3 h3 _ _ => ?_
  refine Ex.if_ (fun _ => Ex.next h3 3 (by omega) fun v a s h _ _ => Ex.now trivial) (fun _ => Ex.if_ (fun _ => hj _ _ _ _ h3) (fun _ => Ex.if_ (fun _ => hj _ _ _ _ h3) (fun _ => hj _ _ _ _ h3)))
theorem drawCnt_ex (cs : List Int) (hl : cs.length ≤ 1000000000000000000) (hb : ∀ x ∈ cs, 0 ≤ x ∧ x ≤ 255) : Ex (fun k => spec_DrawCountTriangles.f k cs) fun _ => True := by
  unfold spec_DrawCountTriangles.f
  refine Ex.bind (P := fun _ => True) ?_ fun _ _ => Ex.now trivial
  unfold spec_DrawTriangleShapes.f
  refine Ex.bind (from_ex cs hl hb) fun ⟨c1, a1, s1⟩ ⟨e1, e2, h1⟩ => ?_
  simp only at e1 e2 h1
  subst e1 e2
  refine Ex.bind0 rfl (Ex.next h1 8 (by omega) fun v a s h h0 h1 => ?_)
  have := h1 (by omega)
  exact Ex.pos h0 (Ex.pos (by simp only [List.length_cons, List.length_nil]; omega) (Ex.now trivial))
theorem tri_l1 (X xs : List Cell) (i : Int) (c : Cell) (hs : small xs) {r : Bool} (hc : Ev (fun k => laws_FnTriangles.l0 k X (wrap64 (i + 1)) c.f0 c.f1) r) : ∀ (suf pre : List Cell) (b : Bool), xs = pre ++ suf → b = true ∨ c ∈ suf →
    Ev (fun k => laws_FnTriangles.l1 k X i xs b (pre.length : Int) c.f0 c.f1) r
  | [], pre, b, hx, hb => by
    refine Ev.succ ?_
    have hb' : b = true := by rcases hb with h | h; exact h; simp at h
    subst hb'
    have hp := congrArg List.length hx
    simp only [List.length_append, List.length_nil] at hp
    simp only [laws_FnTriangles.l1]
    exact Ev.neg (by omega) (Ev.pos (by simp) hc)
  | d :: suf, pre, b, hx, hb => by
    refine Ev.succ ?_
    have ih (b' : Bool) (h : b' = true ∨ c ∈ suf) := tri_l1 X xs i c hs hc suf (pre ++ [d]) b' (by rw [hx]; simp) h
    simp only [List.length_append, List.length_singleton, Int.natCast_add] at ih
    simp only [laws_FnTriangles.l1, pre_lt hx, pre_0, if_true, at_pre hx, pre_w hx hs]
    cases b with
    | true => exact Ev.pos rfl (ih true (.inl rfl))
    | false =>
      refine Ev.neg (by simp) (ih _ ?_)
      rcases hb with h | h
      · simp at h
      · rcases List.mem_cons.1 h with rfl | h
        · exact .inl (by simp)
        · exact .inr h
theorem tri_l0 (X : List Cell) (c : Cell) (hok : okC c) (hX : X.length = 3) (hx_ : ∀ d ∈ X, triX d ∧ triAdj d c ∧ nearC 1000 d) : ∀ (suf pre : List Cell), X = pre ++ suf → Ev (fun k => laws_FnTriangles.l0 k X (pre.length : Int) c.f0 c.f1) true
  | [], pre, hx => by
    refine Ev.succ ?_
    have hp := congrArg List.length hx
    simp only [List.length_append, List.length_nil] at hp
    simp only [laws_FnTriangles.l0]
    exact Ev.neg (by omega) (Ev.of_eq (Ev.now _) (by simp [hX]))
  | d :: suf, pre, hx => by
    refine Ev.succ ?_
    have hs : small X := by unfold small; omega
    obtain ⟨h1, h2, h3⟩ := hx_ d (by rw [hx]; simp)
    have ih := tri_l0 X c hok hX hx_ suf (pre ++ [d]) (by rw [hx]; simp)
    simp only [List.length_append, List.length_singleton, Int.natCast_add] at ih
    simp only [laws_FnTriangles.l0, pre_lt hx, pre_0, if_true, at_pre hx]
    refine Ev.bind0 (implTriR d) ?_
    unfold triR
    by_cases hd : okC d
    · rw [if_pos ⟨hd, h1⟩]
      refine Ev.pos rfl (tri_l1 X (triC d) _ c (by have := triC_len d; unfold small; omega) ?_ (triC d) [] false rfl (.inr ((triC_adj h3).2 h2)))
      rw [pre_w hx hs]
      exact ih
    · rw [if_neg fun h => hd h.1]
      refine Ev.neg (by simp) (Ev.bind0 (implIsTriangle_eq d.f0 d.f1) (Ev.neg ?_ ?_))
      · rw [decide_eq_true_eq]
        exact fun h => hd h.1
      · refine Ev.of_eq (Ev.if_ (r := true) (fun _ => Ev.now _) fun g1 => Ev.if_ (r := true) (fun _ => Ev.now _) fun g2 => Ev.if_ (r := true) (fun _ => Ev.now _) fun g3 => Ev.now _) ?_
        unfold okC ok1 at hd
        split
        · rfl
        · split
          · rfl
          · split
            · rfl
            · rw [decide_eq_true_eq]; omega
end Go.Proofs.YtlnliahadgmbcaaGreat.L
namespace Go.Proofs.YtlnliahadgmbcaaGreat.Pure
open Go.RowKit Go.Proofs.YtlnliahadgmbcaaGreatW.PrintWords Go.Proofs.YtlnliahadgmbcaaGreat.F Go.Proofs.YtlnliahadgmbcaaGreat.L
set_option linter.unusedVariables false
theorem FnTriangles (l0 : List Int) (hv0 : l0.length ≤ 9223372036854775807 ∧ ∀ x ∈ l0, (Lit.int .u8 x).wf = true) : ∃ k, laws_FnTriangles.f k l0 = some true := by
  refine Ev.rounds ?_
  obtain ⟨hm, hv⟩ := hv0
  have hb : ∀ x ∈ l0, 0 ≤ x ∧ x ≤ 255 := fun x hx => by
    have := hv x hx
    have m0 : IntKind.u8.min = 0 := by decide
    have m1 : IntKind.u8.max = 255 := by decide
    simp [Lit.wf, m0, m1] at this
    omega
  unfold laws_FnTriangles.f
  refine Ev.bind0 rfl ?_
  by_cases hbig : (l0.length : Int) > 4096
  · exact Ev.pos (by simpa using hbig) (Ev.now _)
  refine Ev.neg (by simpa using hbig) ?_
  obtain ⟨⟨x, y⟩, e1, _⟩ := drawTri_ex l0 (by omega) hb
  obtain ⟨n, e2, _⟩ := drawCnt_ex l0 (by omega) hb
  have hI := implTriR ⟨x, y⟩
  have hS := specTriR ⟨x, y⟩
  have hT := implIsTriangle_eq x y
  simp only at hI hS
  have hsm : small (triR ⟨x, y⟩).1 := by
    unfold triR small
    have := triC_len ⟨x, y⟩
    split
    · simp only; omega
    · simp
  refine Ev.bind e1 (Ev.bind0 hI (Ev.bind0 hS (Ev.bind e2 (Ev.bind (implCount_evT n) (Ev.bind (specCount_evT n) (Ev.pos rfl (Ev.bind (likeCC_ev _ hsm) (Ev.pos rfl (Ev.pos rfl (Ev.pos rfl (Ev.pos rfl (Ev.bind0 hT ?_))))))))))))
  refine Ev.step (fun k => laws_FnTriangles.j0.eq_2 _ _ _ _ _ _) ?_
  unfold triR
  by_cases h : okC ⟨x, y⟩ ∧ triX ⟨x, y⟩
  · have h' : (ok1 x ∧ ok1 y) ∧ (x % 3 = y % 3 ∧ x % 3 ≠ 0) := h
    rw [if_pos h, decide_eq_true h']
    refine Ev.neg (by simp) (Ev.pos rfl ?_)
    have hn : nearC 1000 (⟨x, y⟩ : Cell) := by
      obtain ⟨⟨g1, g2⟩, _⟩ := h'
      unfold nearC; unfold ok1 at g1 g2
      simp only; omega
    refine tri_l0 (triC ⟨x, y⟩) ⟨x, y⟩ h.1 (by unfold triC; rw [sortC_len, triRaw_len]) (fun d hd => ?_) (triC ⟨x, y⟩) [] rfl
    have ha := (triC_adj hn).1 hd
    obtain ⟨g1, g2⟩ := triAdj_sym h.2 ha
    have hn2 : nearC 100 (⟨x, y⟩ : Cell) := by
      obtain ⟨⟨g1, g2⟩, _⟩ := h'
      unfold nearC; unfold ok1 at g1 g2
      simp only; omega
    have := triAdj_near hn2 ha
    exact ⟨g1, g2, by unfold nearC at *; omega⟩
  · have h' : ¬ ((ok1 x ∧ ok1 y) ∧ (x % 3 = y % 3 ∧ x % 3 ≠ 0)) := h
    rw [if_neg h, decide_eq_false h']
    exact Ev.neg (by simp) (Ev.neg (by simp) (Ev.now _))
end Go.Proofs.YtlnliahadgmbcaaGreat.Pure
end
