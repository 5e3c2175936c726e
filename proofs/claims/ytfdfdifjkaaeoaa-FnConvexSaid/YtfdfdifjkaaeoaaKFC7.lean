/- The row of FnConvex, with what it needs: text 8 of 9. -/
import Derived.Test.YtfdfdifjkaaeoaaKFC6
set_option maxHeartbeats 8000000
set_option maxRecDepth 100000
section
namespace Go.Proofs.Ytfdfdifjkaaeoaa.L
open Go.RowKit Go.Proofs.YtfdfdifjkaaeoaaW.PrintWords Go.Proofs.YtfdfdifjkaaeoaaW.PrintLast Go.Proofs.YtfdfdifjkaaeoaaW.PrintMore Go.Proofs.Ytfdfdifjkaaeoaa.F
set_option linter.unusedVariables false
set_option linter.unusedSimpArgs false
section
variable (l : List Cell) (hs : small l) (hok : ∀ c ∈ l, okC c)
include hs
end
section
variable (l : List Cell) (hs : small l)
include hs
end
theorem implConv_ev (l : List Cell) (hs : small l) : Ev (fun k => impl_ConvexityOf.f k l) (convR l) := by
  unfold impl_ConvexityOf.f convR
  refine Ev.bind (implIsShape_ev l hs) (Ev.if_ (fun h => ?_) (fun _ => Ev.now _))
  have hok := (shapeB_iff.1 h).1
  refine loop_list l (fun k i (s : Bool × Bool) => impl_ConvexityOf.l0 k l s.1 s.2 l (l.length : Int) i) (fun _ suf s => (s.1 && suf.all fun a => l.all fun b => rowP l a b, s.2 && suf.all fun a => l.all fun b => colP l a b, 0)) (fun _ _ => True) ?_ ?_ (true, true) trivial
  · intro s _
    simp only [impl_ConvexityOf.l0, len_lt, if_false]
    exact Ev.of_eq (Ev.now _) (by simp)
  · intro pre a suf s hx _ ih
    have hma : a ∈ l := by rw [hx]; simp
    have ha := hok a hma
    simp only [impl_ConvexityOf.l0, pre_lt hx, pre_0, if_true, at_pre hx]
    have := loop_list l (fun k j (s : Bool × Bool) => impl_ConvexityOf.l1 k l s.1 s.2 l (l.length : Int) (pre.length : Int) l (l.length : Int) j a.f0 a.f1) (fun _ suf2 s => ((s.1 && suf2.all fun b => rowP l a b) && suf.all fun a => l.all fun b => rowP l a b, (s.2 && suf2.all fun b => colP l a b) && suf.all fun a => l.all fun b => colP l a b, 0)) (fun _ _ => True) ?_ ?_ s trivial
    · refine Ev.of_eq this ?_
      simp only [List.all_cons, and_step]
    · intro s _
      simp only [impl_ConvexityOf.l1, len_lt, if_false, pre_w hx hs]
      exact Ev.of_eq (ih s trivial) (by simp)
    · intro pre2 b suf2 s hx2 _ ih2
      simp only [impl_ConvexityOf.l1, pre_lt hx2, pre_0, if_true, at_pre hx2]
      have := ih2 (s.1 && rowP l a b, s.2 && colP l a b) trivial
      simp only at this
      rw [← pre_w hx2 hs] at this
      refine Ev.of_eq (implConv_pair l hs _ _ l l _ _ a b s.1 s.2 ha (hok b (by rw [hx2]; simp)) hma this) ?_
      simp only [List.all_cons, and_step]
end Go.Proofs.Ytfdfdifjkaaeoaa.L
end
section
namespace Go.Proofs.Ytfdfdifjkaaeoaa.L
open Go.RowKit Go.Proofs.YtfdfdifjkaaeoaaW.PrintWords Go.Proofs.YtfdfdifjkaaeoaaW.PrintLast Go.Proofs.YtfdfdifjkaaeoaaW.PrintMore Go.Proofs.Ytfdfdifjkaaeoaa.F
set_option linter.unusedVariables false
set_option linter.unusedSimpArgs false
def moveL (l : List Cell) (x y : Int) : List Cell := l.map fun c => ⟨wrap64 (c.f0 + x), wrap64 (c.f1 + y)⟩
theorem moveL_len (l : List Cell) (x y : Int) : (moveL l x y).length = l.length := by simp [moveL]
theorem specMove_ev (l : List Cell) (x y : Int) (hl : l.length ≤ 1048576) : Ev (fun k => spec_l02Move.f k l x y) (moveL l x y) := by
  have hs : small l := by unfold small; omega
  unfold spec_l02Move.f
  have := loop_list l (fun k i (s : List Cell) => spec_l02Move.l0 k l x y s i) (fun pre suf s => s ++ moveL suf x y) (fun pre s => s.length = pre.length) ?_ ?_ [] rfl
  · simpa using this
  · intro s _
    simp only [spec_l02Move.l0, len_lt, if_false]
    exact Ev.of_eq (Ev.now _) (by simp [moveL])
  · intro pre c suf s hx hi ih
    have hp := pre_len hx
    simp only [spec_l02Move.l0, pre_lt hx, pre_0, if_true, at_pre hx, pre_w hx hs]
    refine Ev.pos (by omega) (Ev.of_eq (ih _ (by simp [hi])) ?_)
    simp [moveL]
theorem implMoved_ev (l : List Cell) (x y : Int) (hl : l.length ≤ 1048576) : Ev (fun k => impl_moved.f k l x y) (moveL l x y) := by
  have hs : small l := by unfold small; omega
  unfold impl_moved.f
  refine Ev.pos (by omega) (Ev.pos (by omega) ?_)
  have := loop_list l (fun k i (s : List Cell) => impl_moved.l0 k x y s l (l.length : Int) i) (fun pre suf s => s ++ moveL suf x y) (fun pre s => s.length = pre.length) ?_ ?_ [] rfl
  · simpa using this
  · intro s _
    simp only [impl_moved.l0, len_lt, if_false]
    exact Ev.of_eq (Ev.now _) (by simp [moveL])
  · intro pre c suf s hx hi ih
    have hp := pre_len hx
    simp only [impl_moved.l0, pre_lt hx, pre_0, if_true, at_pre hx, pre_w hx hs]
    refine Ev.pos (by omega) (Ev.of_eq (ih _ (by simp [hi])) ?_)
    simp [moveL]
def normalL (l : List Cell) : List Cell := moveL l (wrap64 (-(leastOf l).1)) (wrap64 (-(leastOf l).2))
theorem normalL_len (l : List Cell) : (normalL l).length = l.length := moveL_len _ _ _
theorem specNormal_ev (l : List Cell) (hl : l.length ≤ 1048576) (h0 : 0 < l.length) : Ev (fun k => spec_l02Normal.f k l) (normalL l) := by
  unfold spec_l02Normal.f
  refine Ev.bind (specLeast_ev l (by unfold small; omega) h0) (Ev.bind (specMove_ev l _ _ hl) (Ev.now _))
theorem implNormal_ev (l : List Cell) (hl : l.length ≤ 1048576) (h0 : 0 < l.length) : Ev (fun k => impl_normal.f k l) (normalL l) := by
  unfold impl_normal.f
  refine Ev.bind (implCorner_ev l (by unfold small; omega) h0) (Ev.bind (implMoved_ev l _ _ hl) (Ev.now _))
def rotP : Nat → Int × Int → Int × Int
  | 0, p => p
  | n + 1, p => rotP n (wrap64 (-p.2), p.1)
def turnC (c : Cell) (t : Int) : Int × Int := rotP (t % 4).toNat (if t ≥ 4 then (wrap64 (-c.f0), c.f1) else (c.f0, c.f1))
theorem implTurn_l (m : Nat) (hm : m ≤ 1048576) (n : Nat) : ∀ (i : Nat) (p : Int × Int), i + n = m → Ev (fun k => impl_turnCell.l0 k (m : Int) (i : Int) p.1 p.2) (rotP n p) := by
  induction n with
  | zero =>
    intro i p hi
    refine Ev.succ ?_
    simp only [impl_turnCell.l0]
    exact Ev.neg (by omega) (Ev.now _)
  | succ n ih =>
    intro i p hi
    refine Ev.succ ?_
    simp only [impl_turnCell.l0]
    have e1 : wrap64 ((i : Int) + 1) = ((i + 1 : Nat) : Int) := by rw [w64 (by omega) (by omega)]; omega
    refine Ev.pos (by omega) ?_
    simp only [e1]
    exact ih (i + 1) (wrap64 (-p.2), p.1) (by omega)
theorem tmod4 {t : Int} (h : 0 ≤ t) : Int.tmod t 4 = ((t % 4).toNat : Int) := by
  rw [Int.tmod_eq_emod_of_nonneg h]
  omega
theorem implTurn_ev (c : Cell) (t : Int) (h : 0 ≤ t) : Ev (fun k => impl_turnCell.f k c.f0 c.f1 t) (turnC c t) := by
  unfold impl_turnCell.f turnC
  have := implTurn_l (t % 4).toNat (by omega) (t % 4).toNat 0
  by_cases h4 : t ≥ 4
  · rw [if_pos h4]
    refine Ev.pos h4 (Ev.step (fun k => impl_turnCell.j0.eq_2 _ _ _ _) ?_)
    simp only [tmod4 h]
    exact this (wrap64 (-c.f0), c.f1) (by omega)
  · rw [if_neg h4]
    refine Ev.neg h4 (Ev.step (fun k => impl_turnCell.j0.eq_2 _ _ _ _) ?_)
    simp only [tmod4 h]
    exact this (c.f0, c.f1) (by omega)
def turnD (t : Int) (c : Cell) : Cell := ⟨(turnC c t).1, (turnC c t).2⟩
def shiftC (a b : Int) (c : Cell) : Cell := ⟨c.f0 - a, c.f1 - b⟩
theorem normalL_shift {l : List Cell} (h0 : l ≠ []) (ho : ∀ c ∈ l, okC c) : normalL l = l.map (shiftC (leastOf l).1 (leastOf l).2) := by
  have hb := least_ok h0 ho
  unfold normalL moveL
  refine List.map_congr_left fun c hc => ?_
  have h := ho c hc
  unfold okC ok1 at h
  unfold ok1 at hb
  unfold shiftC
  rw [w64 (n := -(leastOf l).1) (by omega) (by omega), w64 (n := -(leastOf l).2) (by omega) (by omega), w64 (by omega) (by omega), w64 (by omega) (by omega)]
  simp only [S59.mk.injEq]
  omega
theorem sorted_le (x y : Cell) : (!Go.Proofs.ltOf cmpV y x) = decide (¬ ltC y x) := by
  rw [ltV]
  by_cases h : ltC y x
  · have h' : y.f1 < x.f1 ∨ y.f1 = x.f1 ∧ y.f0 < x.f0 := h
    simp [h, h']
  · have h' : ¬ (y.f1 < x.f1 ∨ y.f1 = x.f1 ∧ y.f0 < x.f0) := h
    simp only [h, h', decide_false]
    rfl
theorem sortC_perm (l : List Cell) : (sortC l).Perm l := List.mergeSort_perm _ _
theorem sortC_len (l : List Cell) : (sortC l).length = l.length := (sortC_perm l).length_eq
theorem sortC_mem {l : List Cell} {c : Cell} : c ∈ sortC l ↔ c ∈ l := (sortC_perm l).mem_iff
theorem sortC_sorted (l : List Cell) : (sortC l).Pairwise fun a b => ¬ ltC b a := by
  have := List.pairwise_mergeSort (le := fun x y : Cell => !Go.Proofs.ltOf cmpV y x) (fun a b c h1 h2 => by
    rw [sorted_le, decide_eq_true_eq] at *
    unfold ltC at *
    omega) (fun a b => by
    rw [sorted_le, sorted_le, Bool.or_eq_true, decide_eq_true_eq, decide_eq_true_eq]
    unfold ltC
    omega) l
  exact this.imp fun h => by rw [sorted_le, decide_eq_true_eq] at h; exact h
theorem implSorted_eq (l : List Cell) (h0 : 0 < l.length) (h1 : l.length ≤ 1000000000000) : impl_sorted.f l = some (sortC l) := by
  unfold impl_sorted.f impl_Cell_58.f impl_Cell_100__impl_compareCells.f
  rw [if_pos h1, Option.bind_some, if_pos ⟨h0, by omega⟩]
  rfl
instance (priority := low) : DecidableEq Cell := fun a b => decidable_of_iff (sameC a b = true) sameC_iff
def okP (p : Int × Int) : Prop := ok1 p.1 ∧ ok1 p.2
theorem rotP_ok : ∀ (n : Nat) (p : Int × Int), okP p → okP (rotP n p)
  | 0, p, h => h
  | n + 1, p, h => by
    have e : wrap64 (-p.2) = -p.2 := w64 (by unfold okP ok1 at h; omega) (by unfold okP ok1 at h; omega)
    unfold rotP
    rw [e]
    exact rotP_ok n _ (by unfold okP ok1 at *; simp only; omega)
theorem rotP_inj : ∀ (n : Nat) (p q : Int × Int), okP p → okP q → rotP n p = rotP n q → p = q
  | 0, p, q, _, _, h => h
  | n + 1, p, q, hp, hq, h => by
    have e : wrap64 (-p.2) = -p.2 := w64 (by unfold okP ok1 at hp; omega) (by unfold okP ok1 at hp; omega)
    have e' : wrap64 (-q.2) = -q.2 := w64 (by unfold okP ok1 at hq; omega) (by unfold okP ok1 at hq; omega)
    unfold rotP at h
    rw [e, e'] at h
    have := rotP_inj n _ _ (by unfold okP ok1 at *; simp only; omega) (by unfold okP ok1 at *; simp only; omega) h
    simp only [Prod.mk.injEq] at this
    exact Prod.ext (by omega) (by omega)
theorem turnD_ok {t : Int} {c : Cell} (h : okC c) : okC (turnD t c) := by
  have e : wrap64 (-c.f0) = -c.f0 := w64 (by unfold okC ok1 at h; omega) (by unfold okC ok1 at h; omega)
  have := rotP_ok (t % 4).toNat (if t ≥ 4 then (wrap64 (-c.f0), c.f1) else (c.f0, c.f1)) (by
    unfold okC ok1 at h
    split
    · rw [e]; unfold okP ok1; simp only; omega
    · unfold okP ok1; simp only; omega)
  exact this
theorem turnD_inj {t : Int} {c d : Cell} (hc : okC c) (hd : okC d) (h : turnD t c = turnD t d) : c = d := by
  have e : wrap64 (-c.f0) = -c.f0 := w64 (by unfold okC ok1 at hc; omega) (by unfold okC ok1 at hc; omega)
  have e' : wrap64 (-d.f0) = -d.f0 := w64 (by unfold okC ok1 at hd; omega) (by unfold okC ok1 at hd; omega)
  unfold turnD at h
  simp only [S59.mk.injEq] at h
  have hp := rotP_inj (t % 4).toNat _ _ (by
    unfold okC ok1 at hc
    split
    · rw [e]; unfold okP ok1; simp only; omega
    · unfold okP ok1; simp only; omega) (by
    unfold okC ok1 at hd
    split
    · rw [e']; unfold okP ok1; simp only; omega
    · unfold okP ok1; simp only; omega) (Prod.ext h.1 h.2 : turnC c t = turnC d t)
  obtain ⟨c0, c1⟩ := c
  obtain ⟨d0, d1⟩ := d
  simp only [S59.mk.injEq]
  simp only at hp e e'
  split at hp
  · simp only [Prod.mk.injEq] at hp; omega
  · simp only [Prod.mk.injEq] at hp; omega
def formC (l : List Cell) (t : Int) : List Cell := normalL (sortC (l.map (turnD t)))
end Go.Proofs.Ytfdfdifjkaaeoaa.L
end
section
namespace Go.Proofs.Ytfdfdifjkaaeoaa.F
open Go.RowKit Go.Proofs.YtfdfdifjkaaeoaaW.PrintWords Go.Proofs.YtfdfdifjkaaeoaaW.PrintLast Go.Proofs.YtfdfdifjkaaeoaaW.PrintMore
attribute [local go_sem] max2_int min2_int max_two min_two max_three min_three max_four min_four
set_option linter.unusedVariables false
set_option linter.unusedSimpArgs false
open Go.Sort
theorem take_snoc_get {β : Type} (l : List β) (m : Nat) (h : m < l.length) : l.take (m + 1) = l.take m ++ [l[m]] := by
  rw [List.take_succ_eq_append_getElem h]
section
variable {α β : Type} [Inhabited α] [DecidableEq β] {key : α → β} {d dk : Array α} {m kk : Nat}
omit [Inhabited α] in
theorem take_set {l : List α} {k : Nat} {x : α} (h : k < l.length) : (l.set k x).take (k + 1) = l.take k ++ [x] := by
  rw [take_snoc_get _ k (by simpa using h), List.take_set_of_le (Nat.le_refl _)]
  simp
end
instance instDecC : DecidableEq S59 := fun a b => if h : a.f0 = b.f0 ∧ a.f1 = b.f1 then .isTrue (by obtain ⟨a0, a1⟩ := a; obtain ⟨b0, b1⟩ := b; simp_all) else .isFalse (fun e => h (by rw [e]; exact ⟨rfl, rfl⟩))
open Go.Sort
open Go.Sort
end Go.Proofs.Ytfdfdifjkaaeoaa.F
end
section
namespace Go.Proofs.Ytfdfdifjkaaeoaa.L
open Go.RowKit Go.Proofs.YtfdfdifjkaaeoaaW.PrintWords Go.Proofs.YtfdfdifjkaaeoaaW.PrintLast Go.Proofs.YtfdfdifjkaaeoaaW.PrintMore Go.Proofs.Ytfdfdifjkaaeoaa.F
set_option linter.unusedVariables false
set_option linter.unusedSimpArgs false
def insC (c : Cell) : List Cell → List Cell
  | [] => [c]
  | a :: r => if ltC c a then c :: a :: r else a :: insC c r
theorem insC_perm (c : Cell) : ∀ l : List Cell, (insC c l).Perm (c :: l)
  | [] => List.Perm.refl _
  | a :: r => by
    unfold insC
    split
    · exact List.Perm.refl _
    · exact ((insC_perm c r).cons a).trans (List.Perm.swap c a r)
theorem insC_sorted (c : Cell) : ∀ l : List Cell, (l.Pairwise fun a b => ¬ ltC b a) → (insC c l).Pairwise fun a b => ¬ ltC b a
  | [], _ => by simp [insC]
  | a :: r, h => by
    obtain ⟨h1, h2⟩ := List.pairwise_cons.1 h
    unfold insC
    split
    · rename_i hc
      refine List.pairwise_cons.2 ⟨fun b hb => ?_, h⟩
      rcases List.mem_cons.1 hb with rfl | hb
      · unfold ltC at *; omega
      · have := h1 b hb
        unfold ltC at *; omega
    · rename_i hc
      refine List.pairwise_cons.2 ⟨fun b hb => ?_, insC_sorted c r h2⟩
      rcases List.mem_cons.1 ((insC_perm c r).mem_iff.1 hb) with rfl | hb
      · exact hc
      · exact h1 b hb
theorem specInsert_ev (l : List Cell) (c : Cell) (hl : l.length ≤ 1048576) : Ev (fun k => spec_l02Insert.f k l c.f0 c.f1) (insC c l) := by
  have hs : small l := by unfold small; omega
  unfold spec_l02Insert.f
  have := loop_list l (fun k i (s : List Cell × Bool) => spec_l02Insert.l0 k l s.1 s.2 i c.f0 c.f1) (fun pre suf s => if s.2 = true then s.1 ++ suf else s.1 ++ insC c suf) (fun pre s => s.1.length ≤ pre.length + 1 ∧ (s.2 = false → s.1.length = pre.length)) ?_ ?_ ([], false) ⟨by simp, fun _ => rfl⟩
  · simpa using this
  · rintro ⟨s, b⟩ ⟨h1, h2⟩
    simp only at h1 h2
    simp only [spec_l02Insert.l0, len_lt, if_false]
    cases b
    · refine Ev.neg (by simp) (Ev.pos (by omega) (Ev.of_eq (Ev.now _) ?_))
      simp [insC]
    · refine Ev.pos rfl (Ev.of_eq (Ev.now _) ?_)
      simp
  · rintro pre d suf ⟨s, b⟩ hx ⟨h1, h2⟩ ih
    have hp := pre_len hx
    simp only at h1 h2
    simp only [spec_l02Insert.l0, pre_lt hx, pre_0, if_true, at_pre hx, pre_w hx hs]
    cases b
    · refine Ev.neg (by simp) ?_
      simp only [l02Less_eq, Option.bind_some]
      have h2' := h2 rfl
      by_cases hd : ltC c d
      · have hd' : c.f1 < d.f1 ∨ c.f1 = d.f1 ∧ c.f0 < d.f0 := hd
        refine Ev.pos (by simpa using hd') (Ev.pos (by omega) ?_)
        refine Ev.pos (by simp; omega) (Ev.of_eq (ih ((s ++ [(⟨c.f0, c.f1⟩ : Cell)]) ++ [(⟨d.f0, d.f1⟩ : Cell)], true) ⟨by simp; omega, fun h => by cases h⟩) ?_)
        simp [insC, hd]
      · have hd' : ¬ (c.f1 < d.f1 ∨ c.f1 = d.f1 ∧ c.f0 < d.f0) := hd
        refine Ev.neg (by simpa using hd') (Ev.pos (by omega) (Ev.of_eq (ih (s ++ [(⟨d.f0, d.f1⟩ : Cell)], false) ⟨by simp; omega, fun _ => by simp; omega⟩) ?_))
        simp [insC, hd]
    · refine Ev.pos rfl (Ev.pos (by omega) (Ev.of_eq (ih (s ++ [(⟨d.f0, d.f1⟩ : Cell)], true) ⟨by simp; omega, fun h => by cases h⟩) ?_))
      simp
def insAll : List Cell → List Cell → List Cell
  | acc, [] => acc
  | acc, c :: r => insAll (insC c acc) r
theorem insAll_spec : ∀ (l acc : List Cell), (acc.Pairwise fun a b => ¬ ltC b a) → (insAll acc l).Perm (acc ++ l) ∧ (insAll acc l).Pairwise fun a b => ¬ ltC b a
  | [], acc, h => ⟨by simp [insAll], h⟩
  | c :: r, acc, h => by
    obtain ⟨h1, h2⟩ := insAll_spec r (insC c acc) (insC_sorted c acc h)
    refine ⟨h1.trans ?_, h2⟩
    refine ((insC_perm c acc).append_right r).trans ?_
    exact List.perm_middle.symm
theorem specSortI_ev (l : List Cell) (hl : l.length ≤ 1048576) : Ev (fun k => spec_l02Sort.f k l) (insAll [] l) := by
  have hs : small l := by unfold small; omega
  unfold spec_l02Sort.f
  refine loop_list l (fun k i (s : List Cell) => spec_l02Sort.l0 k l s i) (fun pre suf s => insAll s suf) (fun pre s => s.length = pre.length) ?_ ?_ [] rfl
  · intro s _
    simp only [spec_l02Sort.l0, len_lt, if_false]
    exact Ev.now _
  · intro pre c suf s hx hi ih
    have hp := pre_len hx
    simp only [spec_l02Sort.l0, pre_lt hx, pre_0, if_true, at_pre hx, pre_w hx hs]
    refine Ev.bind (specInsert_ev s c (by omega)) (ih _ ?_)
    rw [(insC_perm c s).length_eq]
    simp [hi]
theorem formC_len (l : List Cell) (t : Int) : (formC l t).length = l.length := by unfold formC; rw [normalL_len, sortC_len]; simp
theorem implForm8_ev (l : List Cell) (t : Int) (ht : 0 ≤ t) (hl : l.length ≤ 1048576) (h0 : 0 < l.length) : Ev (fun k => impl_form.f k l t) (formC l t) := by
  have hs : small l := by unfold small; omega
  unfold impl_form.f formC
  refine Ev.pos (by omega) (Ev.pos (by omega) ?_)
  have := loop_list l (fun k i (s : List Cell) => impl_form.l0 k t s l (l.length : Int) i) (fun pre suf s => normalL (sortC (s ++ suf.map (turnD t)))) (fun pre s => s.length = pre.length) ?_ ?_ [] rfl
  · simpa using this
  · intro s hi
    have hi' : s.length = l.length := hi
    simp only [impl_form.l0, len_lt, if_false, implSorted_eq s (by omega) (by omega), Option.bind_some]
    exact Ev.bind (implNormal_ev _ (by rw [sortC_len]; omega) (by rw [sortC_len]; omega)) (Ev.of_eq (Ev.now _) (by simp))
  · intro pre c suf s hx hi ih
    have hp := pre_len hx
    simp only [impl_form.l0, pre_lt hx, pre_0, if_true, at_pre hx, pre_w hx hs]
    refine Ev.bind (implTurn_ev c t ht) (Ev.pos (by omega) (Ev.of_eq (ih (s ++ [turnD t c]) (by simp [hi])) (by simp)))
end Go.Proofs.Ytfdfdifjkaaeoaa.L
end
section
namespace Go.Proofs.Ytfdfdifjkaaeoaa.L
open Go.RowKit Go.Proofs.YtfdfdifjkaaeoaaW.PrintWords Go.Proofs.YtfdfdifjkaaeoaaW.PrintLast Go.Proofs.YtfdfdifjkaaeoaaW.PrintMore Go.Proofs.Ytfdfdifjkaaeoaa.F
set_option linter.unusedVariables false
set_option linter.unusedSimpArgs false
theorem cell_ext {a b : Cell} (h : a.f0 = b.f0) (h' : a.f1 = b.f1) : a = b := by
  obtain ⟨x, y⟩ := a
  obtain ⟨z, w⟩ := b
  simp only at h h'
  rw [h, h']
def quad (e u v : Int) (c : Cell) : Cell := ⟨u - e * c.f1, v + e * c.f0⟩
theorem allFrom_iff (l : List Cell) (f : Int → Cell) : ∀ (n : Nat) (x : Int), allFrom l f n x = true ↔ ∀ z, x ≤ z → z < x + (n : Int) → f z ∈ l
  | 0, x => by simp only [allFrom, true_iff]; intro z h1 h2; omega
  | n + 1, x => by
    rw [allFrom, Bool.and_eq_true, allFrom_iff l f n (x + 1), decide_eq_true_iff, idxC_mem]
    constructor
    · rintro ⟨h, h'⟩ z h1 h2
      by_cases e : z = x
      · exact e ▸ h
      · exact h' z (by omega) (by omega)
    · exact fun h => ⟨h x (by omega) (by omega), fun z h1 h2 => h z (by omega) (by omega)⟩
theorem rowsB_iff (l : List Cell) : rowsB l = true ↔ ∀ a ∈ l, ∀ b ∈ l, a.f1 = b.f1 → ∀ z, a.f0 ≤ z → z < b.f0 → (⟨z, a.f1⟩ : Cell) ∈ l := by
  unfold rowsB
  simp only [List.all_eq_true]
  constructor
  · intro h a ha b hb e z h1 h2
    have := h a ha b hb
    unfold rowP at this
    rw [if_pos e, allFrom_iff] at this
    exact this z h1 (by omega)
  · intro h a ha b hb
    unfold rowP
    by_cases e : a.f1 = b.f1
    · rw [if_pos e, allFrom_iff]
      intro z h1 h2
      exact h a ha b hb e z h1 (by omega)
    · rw [if_neg e]
theorem colsB_iff (l : List Cell) : colsB l = true ↔ ∀ a ∈ l, ∀ b ∈ l, a.f0 = b.f0 → ∀ z, a.f1 ≤ z → z < b.f1 → (⟨a.f0, z⟩ : Cell) ∈ l := by
  unfold colsB
  simp only [List.all_eq_true]
  constructor
  · intro h a ha b hb e z h1 h2
    have := h a ha b hb
    unfold colP at this
    rw [if_pos e, allFrom_iff] at this
    exact this z h1 (by omega)
  · intro h a ha b hb
    unfold colP
    by_cases e : a.f0 = b.f0
    · rw [if_pos e, allFrom_iff]
      intro z h1 h2
      exact h a ha b hb e z h1 (by omega)
    · rw [if_neg e]
section
variable {A B : List Cell} {e u v : Int} (he : e = 1 ∨ e = -1) (hm : ∀ c, quad e u v c ∈ B ↔ c ∈ A)
include he hm
theorem quad_cols (h : rowsB B = true) : colsB A = true := by
  rw [rowsB_iff] at h
  rw [colsB_iff]
  intro a ha b hb hab z h1 h2
  have ha' := (hm a).2 ha
  have hb' := (hm b).2 hb
  rw [← hm]
  rcases he with rfl | rfl
  · by_cases ez : z = a.f1
    · rw [ez]; exact ha'
    · have := h _ hb' _ ha' (by simp only [quad]; omega) (u - z) (by simp only [quad]; omega) (by simp only [quad]; omega)
      refine cast (congrArg (· ∈ B) (cell_ext ?_ ?_)) this <;> simp only [quad] <;> omega
  · have := h _ ha' _ hb' (by simp only [quad]; omega) (u + z) (by simp only [quad]; omega) (by simp only [quad]; omega)
    refine cast (congrArg (· ∈ B) (cell_ext ?_ ?_)) this <;> simp only [quad] <;> omega
theorem quad_rows (h : colsB B = true) : rowsB A = true := by
  rw [colsB_iff] at h
  rw [rowsB_iff]
  intro a ha b hb hab z h1 h2
  have ha' := (hm a).2 ha
  have hb' := (hm b).2 hb
  rw [← hm]
  rcases he with rfl | rfl
  · have := h _ ha' _ hb' (by simp only [quad]; omega) (v + z) (by simp only [quad]; omega) (by simp only [quad]; omega)
    refine cast (congrArg (· ∈ B) (cell_ext ?_ ?_)) this <;> simp only [quad] <;> omega
  · by_cases ez : z = a.f0
    · rw [ez]; exact ha'
    · have := h _ hb' _ ha' (by simp only [quad]; omega) (v - z) (by simp only [quad]; omega) (by simp only [quad]; omega)
      refine cast (congrArg (· ∈ B) (cell_ext ?_ ?_)) this <;> simp only [quad] <;> omega
end
def stepC (d : Int × Int) (n : Int) (c : Cell) : Cell := ⟨c.f0 + n * d.1, c.f1 + n * d.2⟩
def dirX (d : Int × Int) : Prop := d = (1, 0) ∨ d = (0, 1)
def runF (l : List Cell) (d : Int × Int) : Nat → Cell → Nat
  | 0, _ => 0
  | n + 1, c => if idxC l c ≥ 0 then runF l d n ⟨c.f0 + d.1, c.f1 + d.2⟩ + 1 else 0
theorem step_step (d : Int × Int) (hd : dirX d) (n : Int) (c : Cell) : stepC d n ⟨c.f0 + d.1, c.f1 + d.2⟩ = stepC d (n + 1) c := by
  rcases hd with rfl | rfl <;> (refine cell_ext ?_ ?_ <;> simp only [stepC] <;> omega)
theorem step_zero (d : Int × Int) (hd : dirX d) (c : Cell) : stepC d 0 c = c := by
  rcases hd with rfl | rfl <;> (refine cell_ext ?_ ?_ <;> simp only [stepC] <;> omega)
theorem runF_le (l : List Cell) (d : Int × Int) : ∀ (n : Nat) (c : Cell), runF l d n c ≤ n
  | 0, c => Nat.le_refl _
  | n + 1, c => by
    unfold runF
    split
    · have := runF_le l d n ⟨c.f0 + d.1, c.f1 + d.2⟩; omega
    · omega
theorem runF_in (l : List Cell) (d : Int × Int) (hd : dirX d) : ∀ (n : Nat) (c : Cell) (i : Nat), i < runF l d n c → stepC d (i : Int) c ∈ l
  | 0, c, i, h => by simp [runF] at h
  | n + 1, c, i, h => by
    unfold runF at h
    split at h
    · rename_i hc
      cases i with
      | zero => rw [show ((0 : Nat) : Int) = 0 from rfl, step_zero d hd]; exact (idxC_mem l c).1 hc
      | succ i =>
        have := runF_in l d hd n ⟨c.f0 + d.1, c.f1 + d.2⟩ i (by omega)
        rw [step_step d hd] at this
        exact this
    · omega
theorem runF_ge (l : List Cell) (d : Int × Int) (hd : dirX d) : ∀ (n m : Nat) (c : Cell), m ≤ n → (∀ i : Nat, i < m → stepC d (i : Int) c ∈ l) → m ≤ runF l d n c
  | 0, m, c, h, _ => by omega
  | n + 1, 0, c, h, _ => Nat.zero_le _
  | n + 1, m + 1, c, h, hi => by
    unfold runF
    have h0 := hi 0 (by omega)
    rw [show ((0 : Nat) : Int) = 0 from rfl, step_zero d hd] at h0
    rw [if_pos ((idxC_mem l c).2 h0)]
    have := runF_ge l d hd n m ⟨c.f0 + d.1, c.f1 + d.2⟩ (by omega) (fun i h => by
      rw [step_step d hd]
      exact hi (i + 1) (by omega))
    omega
def lineF (l : List Cell) : List Cell → Int → Int
  | [], m => m
  | c :: r, m => lineF l r (mx (mx m (runF l (1, 0) 300 c)) (runF l (0, 1) 300 c))
theorem mx_ge (a b : Int) : a ≤ mx a b ∧ b ≤ mx a b ∧ (mx a b = a ∨ mx a b = b) := by
  unfold mx; split <;> omega
theorem lineF_spec (l : List Cell) : ∀ (r : List Cell) (m : Int), m ≤ lineF l r m ∧ (∀ c ∈ r, ∀ d, dirX d → (runF l d 300 c : Int) ≤ lineF l r m) ∧ (lineF l r m = m ∨ ∃ c ∈ r, ∃ d, dirX d ∧ lineF l r m = (runF l d 300 c : Int))
  | [], m => ⟨Int.le_refl _, by simp, .inl rfl⟩
  | c :: r, m => by
    unfold lineF
    have h1 := mx_ge m (runF l (1, 0) 300 c)
    have h2 := mx_ge (mx m (runF l (1, 0) 300 c)) (runF l (0, 1) 300 c)
    obtain ⟨g1, g2, g3⟩ := lineF_spec l r (mx (mx m (runF l (1, 0) 300 c)) (runF l (0, 1) 300 c))
    refine ⟨by omega, ?_, ?_⟩
    · intro x hx d hd
      rcases List.mem_cons.1 hx with rfl | hx
      · rcases hd with rfl | rfl <;> omega
      · exact g2 x hx d hd
    · rcases g3 with g3 | ⟨x, hx, d, hd, e⟩
      · rw [g3]
        rcases h2.2.2 with e | e
        · rw [e]
          rcases h1.2.2 with e' | e'
          · exact .inl e'
          · exact .inr ⟨c, List.mem_cons_self, (1, 0), .inl rfl, e'⟩
        · exact .inr ⟨c, List.mem_cons_self, (0, 1), .inr rfl, e⟩
      · exact .inr ⟨x, List.mem_cons_of_mem _ hx, d, hd, e⟩
theorem quad_line {A B : List Cell} {e u v : Int} (he : e = 1 ∨ e = -1) (hm : ∀ c ∈ A, quad e u v c ∈ B) : lineF A A 0 ≤ lineF B B 0 := by
  obtain ⟨b1, b2, _⟩ := lineF_spec B B 0
  rcases (lineF_spec A A 0).2.2 with h | ⟨c, hc, d, hd, h⟩
  · omega
  · rw [h]
    by_cases h0 : runF A d 300 c = 0
    · omega
    · have hin := runF_in A d hd 300 c
      have hle := runF_le A d 300 c
      generalize runF A d 300 c = n at h0 hin hle
      have key : ∃ c' d', dirX d' ∧ ∀ i : Nat, i < n → stepC d' (i : Int) c' ∈ B := by
        rcases hd with rfl | rfl
        · rcases he with rfl | rfl
          · refine ⟨quad 1 u v c, (0, 1), .inr rfl, fun i hi => ?_⟩
            have := hm _ (hin i hi)
            refine cast (congrArg (· ∈ B) (cell_ext ?_ ?_)) this <;> simp only [quad, stepC] <;> omega
          · refine ⟨quad (-1) u v (stepC (1, 0) ((n - 1 : Nat) : Int) c), (0, 1), .inr rfl, fun i hi => ?_⟩
            have := hm _ (hin (n - 1 - i) (by omega))
            refine cast (congrArg (· ∈ B) (cell_ext ?_ ?_)) this <;> simp only [quad, stepC] <;> omega
        · rcases he with rfl | rfl
          · refine ⟨quad 1 u v (stepC (0, 1) ((n - 1 : Nat) : Int) c), (1, 0), .inl rfl, fun i hi => ?_⟩
            have := hm _ (hin (n - 1 - i) (by omega))
            refine cast (congrArg (· ∈ B) (cell_ext ?_ ?_)) this <;> simp only [quad, stepC] <;> omega
          · refine ⟨quad (-1) u v c, (1, 0), .inl rfl, fun i hi => ?_⟩
            have := hm _ (hin i hi)
            refine cast (congrArg (· ∈ B) (cell_ext ?_ ?_)) this <;> simp only [quad, stepC] <;> omega
      obtain ⟨c', d', hd', hk⟩ := key
      have h1 := runF_ge B d' hd' 300 n c' (by omega) hk
      have hc' : c' ∈ B := by
        have := hk 0 (by omega)
        rwa [show ((0 : Nat) : Int) = 0 from rfl, step_zero d' hd'] at this
      have h2 := b2 c' hc' d' hd'
      omega
def sumN {α : Type} : List α → (α → Nat) → Nat
  | [], _ => 0
  | a :: r, f => f a + sumN r f
theorem sumN_congr {α : Type} {f g : α → Nat} : ∀ (l : List α), (∀ a ∈ l, f a = g a) → sumN l f = sumN l g
  | [], _ => rfl
  | a :: r, h => by rw [sumN, sumN, h a List.mem_cons_self, sumN_congr r fun x hx => h x (List.mem_cons_of_mem _ hx)]
theorem sumN_add {α : Type} (f g : α → Nat) : ∀ l : List α, sumN l (fun a => f a + g a) = sumN l f + sumN l g
  | [] => rfl
  | a :: r => by rw [sumN, sumN, sumN, sumN_add f g r]; omega
theorem sumN_zero {α : Type} : ∀ l : List α, sumN l (fun _ => 0) = 0
  | [] => rfl
  | a :: r => by rw [sumN, sumN_zero r]
theorem sumN_swap {α β : Type} (f : α → β → Nat) (m : List β) : ∀ l : List α, sumN l (fun a => sumN m fun b => f a b) = sumN m fun b => sumN l fun a => f a b
  | [] => by
    have : (fun b => sumN ([] : List α) fun a => f a b) = fun _ => 0 := rfl
    rw [this, sumN_zero]; rfl
  | a :: r => by
    rw [sumN, sumN_swap f m r, ← sumN_add]
    rfl
theorem sumN_map {α β : Type} (g : α → β) (f : β → Nat) : ∀ l : List α, sumN (l.map g) f = sumN l fun a => f (g a)
  | [] => rfl
  | a :: r => by rw [List.map_cons, sumN, sumN, sumN_map g f r]
theorem sumN_perm {α : Type} (f : α → Nat) {l m : List α} (h : l.Perm m) : sumN l f = sumN m f := by
  induction h with
  | nil => rfl
  | cons a _ ih => rw [sumN, sumN, ih]
  | swap a b l => simp only [sumN]; omega
  | trans _ _ h1 h2 => rw [h1, h2]
def hasN (l : List Cell) (c : Cell) : Nat := if idxC l c ≥ 0 then 1 else 0
theorem hasN_eq {l m : List Cell} {c d : Cell} (h : c ∈ l ↔ d ∈ m) : hasN l c = hasN m d := by
  unfold hasN
  rw [← idxC_mem, ← idxC_mem] at h
  by_cases g : idxC l c ≥ 0
  · rw [if_pos g, if_pos (h.1 g)]
  · rw [if_neg g, if_neg fun k => g (h.2 k)]
theorem hasN_sum (c : Cell) : ∀ l : List Cell, l.Nodup → hasN l c = sumN l fun b => if b = c then 1 else 0
  | [], _ => by unfold hasN; rw [if_neg]; · rfl
                rw [idxC_mem]; simp
  | a :: r, h => by
    obtain ⟨h1, h2⟩ := List.nodup_cons.1 h
    rw [sumN, ← hasN_sum c r h2]
    unfold hasN
    simp only [idxC_mem, List.mem_cons]
    by_cases e : a = c
    · subst e
      simp [h1]
    · have e' : ¬ c = a := fun k => e k.symm
      simp [e, e']
def cntN (l : List Cell) (x y : Int) : Nat := sumN l fun a => hasN l ⟨a.f0 + x, a.f1 + y⟩
theorem cntN_neg {l : List Cell} (h : l.Nodup) (x y : Int) : cntN l (-x) (-y) = cntN l x y := by
  unfold cntN
  rw [sumN_congr l (g := fun a => sumN l fun b => if b = ⟨a.f0 + -x, a.f1 + -y⟩ then 1 else 0) fun a _ => hasN_sum _ l h]
  rw [sumN_swap (fun a b => if b = (⟨a.f0 + -x, a.f1 + -y⟩ : Cell) then 1 else 0) l l]
  refine sumN_congr l fun b _ => ?_
  rw [hasN_sum _ l h]
  refine sumN_congr l fun a _ => ?_
  have : (b = (⟨a.f0 + -x, a.f1 + -y⟩ : Cell)) ↔ (a = (⟨b.f0 + x, b.f1 + y⟩ : Cell)) := by
    obtain ⟨a0, a1⟩ := a
    obtain ⟨b0, b1⟩ := b
    simp only [S59.mk.injEq]
    omega
  by_cases g : b = (⟨a.f0 + -x, a.f1 + -y⟩ : Cell)
  · rw [if_pos g, if_pos (this.1 g)]
  · rw [if_neg g, if_neg fun k => g (this.2 k)]
def touchN (l : List Cell) : Nat := cntN l 1 0 + cntN l 0 1
theorem quad_touch {A B : List Cell} {u v : Int} (hn : A.Nodup) (hp : B.Perm (A.map (quad 1 u v))) (hm : ∀ c, quad 1 u v c ∈ B ↔ c ∈ A) : touchN B = touchN A := by
  have h1 : cntN B 1 0 = cntN A (-0) (-1) := by
    unfold cntN
    rw [sumN_perm _ hp, sumN_map]
    refine sumN_congr A fun a _ => hasN_eq ?_
    rw [← hm]
    have : (⟨(quad 1 u v a).f0 + 1, (quad 1 u v a).f1 + 0⟩ : Cell) = quad 1 u v ⟨a.f0 + -0, a.f1 + -1⟩ := by
      refine cell_ext ?_ ?_ <;> simp only [quad] <;> omega
    rw [this]
  have h2 : cntN B 0 1 = cntN A 1 0 := by
    unfold cntN
    rw [sumN_perm _ hp, sumN_map]
    refine sumN_congr A fun a _ => hasN_eq ?_
    rw [← hm]
    have : (⟨(quad 1 u v a).f0 + 0, (quad 1 u v a).f1 + 1⟩ : Cell) = quad 1 u v ⟨a.f0 + 1, a.f1 + 0⟩ := by
      refine cell_ext ?_ ?_ <;> simp only [quad] <;> omega
    rw [this]
  unfold touchN
  rw [h1, h2, cntN_neg hn]
  omega
theorem form1 {l : List Cell} (h0 : l ≠ []) (ho : ∀ c ∈ l, okC c) : ∃ u v : Int, (formC l 1).Perm (l.map (quad 1 u v)) ∧ formC l 1 = (sortC (l.map (turnD 1))).map (shiftC (leastOf (sortC (l.map (turnD 1)))).1 (leastOf (sortC (l.map (turnD 1)))).2) := by
  have hX0 : l.map (turnD 1) ≠ [] := by simpa using h0
  have hXo : ∀ c ∈ l.map (turnD 1), okC c := by
    intro c hc
    obtain ⟨d, hd, rfl⟩ := List.mem_map.1 hc
    exact turnD_ok (ho d hd)
  have hp := sortC_perm (l.map (turnD 1))
  have hS0 : sortC (l.map (turnD 1)) ≠ [] := fun e => hX0 (by rw [e] at hp; exact List.Perm.eq_nil hp.symm)
  have hSo : ∀ c ∈ sortC (l.map (turnD 1)), okC c := fun c hc => hXo c (sortC_mem.1 hc)
  have hF : formC l 1 = (sortC (l.map (turnD 1))).map (shiftC (leastOf (sortC (l.map (turnD 1)))).1 (leastOf (sortC (l.map (turnD 1)))).2) := by
    unfold formC
    rw [normalL_shift hS0 hSo]
  refine ⟨-(leastOf (sortC (l.map (turnD 1)))).1, -(leastOf (sortC (l.map (turnD 1)))).2, ?_, hF⟩
  rw [hF]
  refine (hp.map _).trans ?_
  rw [List.map_map]
  refine List.Perm.of_eq (List.map_congr_left fun c hc => ?_)
  have hc' := ho c hc
  unfold okC ok1 at hc'
  refine cell_ext ?_ ?_
  · show (turnD 1 c).f0 - _ = _ - 1 * c.f1
    have : (turnD 1 c).f0 = -c.f1 := by show wrap64 (-c.f1) = _; exact w64 (by omega) (by omega)
    omega
  · show (turnD 1 c).f1 - _ = _ + 1 * c.f0
    have : (turnD 1 c).f1 = c.f0 := rfl
    omega
end Go.Proofs.Ytfdfdifjkaaeoaa.L
end
section
namespace Go.Proofs.Ytfdfdifjkaaeoaa.L
open Go.RowKit Go.Proofs.YtfdfdifjkaaeoaaW.PrintWords Go.Proofs.YtfdfdifjkaaeoaaW.PrintLast Go.Proofs.YtfdfdifjkaaeoaaW.PrintMore Go.Proofs.Ytfdfdifjkaaeoaa.F
set_option linter.unusedVariables false
def aroundC (c : Cell) : List Cell := [⟨c.f0, wrap64 (c.f1 - 1)⟩, ⟨wrap64 (c.f0 - 1), c.f1⟩, ⟨wrap64 (c.f0 + 1), c.f1⟩, ⟨c.f0, wrap64 (c.f1 + 1)⟩]
theorem specAround_eq (c : Cell) : spec_l02Around.f c.f0 c.f1 = some (aroundC c) := rfl
theorem implAround_eq (c : Cell) : impl_around.f c.f0 c.f1 = some (aroundC c) := rfl
end Go.Proofs.Ytfdfdifjkaaeoaa.L
end
section
namespace Go.Proofs.Ytfdfdifjkaaeoaa.L
open Go.RowKit Go.Proofs.YtfdfdifjkaaeoaaW.PrintWords Go.Proofs.YtfdfdifjkaaeoaaW.PrintLast Go.Proofs.YtfdfdifjkaaeoaaW.PrintMore Go.Proofs.Ytfdfdifjkaaeoaa.F
set_option linter.unusedVariables false
set_option linter.unusedSimpArgs false
def pot (d : Int × Int) (c : Cell) : Int := d.1 * c.f0 + d.2 * c.f1
theorem pot_step {d : Int × Int} (hd : dirX d) (c : Cell) : pot d ⟨c.f0 + d.1, c.f1 + d.2⟩ = pot d c + 1 := by
  rcases hd with rfl | rfl <;> (simp only [pot]; omega)
theorem pot_le {a b : Int} {n : Nat} (h : 101 - a ≤ ((n + 1 : Nat) : Int)) (e : b = a + 1) : 101 - b ≤ (n : Int) := by omega
theorem nat_le {m n : Nat} (h : m + (n + 1) ≤ 1000) : m + 1 + n ≤ 1000 := by omega
theorem nat_as (m n : Nat) : m + 1 + n = m + (n + 1) := by omega
theorem pot_ok {d : Int × Int} (hd : dirX d) {c : Cell} (h : okC c) : -100 ≤ pot d c ∧ pot d c ≤ 100 := by
  unfold okC ok1 at h
  rcases hd with rfl | rfl <;> (simp only [pot]; omega)
theorem dir_w {d : Int × Int} (hd : dirX d) {c : Cell} (h : okC c) : wrap64 (c.f0 + d.1) = c.f0 + d.1 ∧ wrap64 (c.f1 + d.2) = c.f1 + d.2 := by
  unfold okC ok1 at h
  rcases hd with rfl | rfl <;> exact ⟨w64 (by simp only; omega) (by simp only; omega), w64 (by simp only; omega) (by simp only; omega)⟩
section
variable (l : List Cell) (hs : small l) (hok : ∀ c ∈ l, okC c)
include hs hok
theorem implLine_l2 {r : Int × Int} (best : Int) (x14 : List Cell) (x15 x16 : Int) (x22 : List Cell) (x23 x24 A0 A1 : Int) (d : Int × Int) (hd : dirX d) (hst : rd_T59 x22 x24 = ⟨d.1, d.2⟩) : ∀ (n : Nat) (c : Cell) (m : Nat), 101 - pot d c ≤ (n : Int) → m + n ≤ 1000 →
    Ev (fun k => impl_LongestLine.l1 k l (mx best ((m + runF l d n c : Nat) : Int)) x14 x15 x16 x22 x23 (wrap64 (x24 + 1)) A0 A1) r → Ev (fun k => impl_LongestLine.l2 k l best (m : Int) x14 x15 x16 x22 x23 x24 A0 A1 c.f0 c.f1) r
  | 0, c, m, h1, h2, hc => by
    refine Ev.succ ?_
    simp only [runF, Nat.add_zero] at hc
    simp only [impl_LongestLine.l2]
    refine Ev.bind (implContains_ev l c hs) (Ev.neg ?_ hc)
    have : ¬ idxC l c ≥ 0 := fun h => by have := pot_ok hd (hok c ((idxC_mem l c).1 h)); omega
    simpa using this
  | n + 1, c, m, h1, h2, hc => by
    refine Ev.succ ?_
    simp only [impl_LongestLine.l2]
    unfold runF at hc
    refine Ev.bind (implContains_ev l c hs) ?_
    by_cases h : idxC l c ≥ 0
    · rw [if_pos h] at hc
      obtain ⟨w1, w2⟩ := dir_w hd (hok c ((idxC_mem l c).1 h))
      have w3 : wrap64 ((m : Int) + 1) = ((m + 1 : Nat) : Int) := by rw [w64 (by omega) (by omega)]; omega
      refine Ev.pos (by simpa using h) ?_
      rw [hst]
      simp only [w1, w2, w3]
      refine implLine_l2 best x14 x15 x16 x22 x23 x24 A0 A1 d hd hst n ⟨c.f0 + d.1, c.f1 + d.2⟩ (m + 1) (pot_le h1 (pot_step hd c)) (nat_le h2) ?_
      rw [nat_as]
      exact hc
    · rw [if_neg h, Nat.add_zero] at hc
      exact Ev.neg (by simpa using h) hc
theorem specLine_l2 {r : Int × Int} (best : Int) (x5 : Int) (x6 : List Cell) (x7 : Int) (h7 : 0 ≤ x7) (h6 : x7 < (x6.length : Int)) (d : Int × Int) (hd : dirX d) (hst : rd_T59 x6 x7 = ⟨d.1, d.2⟩) : ∀ (n : Nat) (c : Cell) (m : Nat), 101 - pot d c ≤ (n : Int) → m + n ≤ 1000 →
    Ev (fun k => spec_LongestLine.l1 k l (mx best ((m + runF l d n c : Nat) : Int)) x5 x6 (wrap64 (x7 + 1))) r → Ev (fun k => spec_LongestLine.l2 k l best x5 x6 x7 (m : Int) c.f0 c.f1) r
  | 0, c, m, h1, h2, hc => by
    refine Ev.succ ?_
    simp only [runF, Nat.add_zero] at hc
    simp only [spec_LongestLine.l2]
    refine Ev.bind (specIndex_ev l c hs) (Ev.neg ?_ hc)
    exact fun h => by have := pot_ok hd (hok c ((idxC_mem l c).1 h)); omega
  | n + 1, c, m, h1, h2, hc => by
    refine Ev.succ ?_
    simp only [spec_LongestLine.l2]
    unfold runF at hc
    refine Ev.bind (specIndex_ev l c hs) ?_
    by_cases h : idxC l c ≥ 0
    · rw [if_pos h] at hc
      obtain ⟨w1, w2⟩ := dir_w hd (hok c ((idxC_mem l c).1 h))
      have w3 : wrap64 ((m : Int) + 1) = ((m + 1 : Nat) : Int) := by rw [w64 (by omega) (by omega)]; omega
      refine Ev.pos h (Ev.pos h7 (Ev.pos h6 ?_))
      rw [hst]
      simp only [w1, w2, w3]
      refine specLine_l2 best x5 x6 x7 h7 h6 d hd hst n ⟨c.f0 + d.1, c.f1 + d.2⟩ (m + 1) (pot_le h1 (pot_step hd c)) (nat_le h2) ?_
      rw [nat_as]
      exact hc
    · rw [if_neg h, Nat.add_zero] at hc
      exact Ev.neg h hc
end
theorem w01 : wrap64 ((0 : Int) + 1) = 1 := by rw [w64 (by omega) (by omega)]; rfl
theorem w11 : wrap64 ((1 : Int) + 1) = 2 := by rw [w64 (by omega) (by omega)]; rfl
def lineR (l : List Cell) : Int × Int := if shapeB l = true then (lineF l l 0, 0) else (0, 1)
theorem implLine_ev (l : List Cell) (hs : small l) : Ev (fun k => impl_LongestLine.f k l) (lineR l) := by
  unfold impl_LongestLine.f lineR
  refine Ev.bind (implIsShape_ev l hs) (Ev.if_ (fun h => ?_) (fun _ => Ev.now _))
  have hok := (shapeB_iff.1 h).1
  refine loop_list l (fun k i (s : Int) => impl_LongestLine.l0 k l s l (l.length : Int) i) (fun _ suf s => (lineF l suf s, 0)) (fun _ _ => True) ?_ ?_ 0 trivial
  · intro s _
    simp only [impl_LongestLine.l0, len_lt, if_false]
    exact Ev.now _
  · intro pre c suf s hx _ ih
    have ho := hok c (by rw [hx]; simp)
    have p0 := pot_ok (.inl rfl : dirX (1, 0)) ho
    have p1 := pot_ok (.inr rfl : dirX (0, 1)) ho
    simp only [impl_LongestLine.l0, pre_lt hx, pre_0, if_true, at_pre hx]
    refine Ev.bind0 rfl (Ev.succ ?_)
    simp only [impl_LongestLine.l1]
    refine Ev.pos (by simp) (Ev.pos (by simp) (Ev.pos (by simp) ?_))
    refine implLine_l2 l hs hok s l _ _ _ _ 0 _ _ (1, 0) (.inl rfl) rfl 300 c 0 (by omega) (by omega) ?_
    rw [w01, Nat.zero_add]
    refine Ev.succ ?_
    simp only [impl_LongestLine.l1]
    refine Ev.pos (by simp) (Ev.pos (by simp) (Ev.pos (by simp) ?_))
    refine implLine_l2 l hs hok _ l _ _ _ _ 1 _ _ (0, 1) (.inr rfl) rfl 300 c 0 (by omega) (by omega) ?_
    rw [w11, Nat.zero_add]
    refine Ev.succ ?_
    simp only [impl_LongestLine.l1]
    refine Ev.neg (by simp) ?_
    rw [pre_w hx hs]
    exact ih _ trivial
theorem specLine_ev (l : List Cell) (hs : small l) : Ev (fun k => spec_LongestLine.f k l) (lineR l) := by
  unfold spec_LongestLine.f lineR
  refine Ev.bind (specIsShape_ev l hs) (Ev.if_ (fun h => ?_) (fun _ => Ev.now _))
  have hok := (shapeB_iff.1 h).1
  refine loop_list l (fun k i (s : Int) => spec_LongestLine.l0 k l s i) (fun _ suf s => (lineF l suf s, 0)) (fun _ _ => True) ?_ ?_ 0 trivial
  · intro s _
    simp only [spec_LongestLine.l0, len_lt, if_false]
    exact Ev.now _
  · intro pre c suf s hx _ ih
    have ho := hok c (by rw [hx]; simp)
    have p0 := pot_ok (.inl rfl : dirX (1, 0)) ho
    have p1 := pot_ok (.inr rfl : dirX (0, 1)) ho
    simp only [spec_LongestLine.l0, pre_lt hx, if_true]
    refine Ev.succ ?_
    simp only [spec_LongestLine.l1, pre_lt hx, pre_0, if_true, at_pre hx]
    refine Ev.pos (by omega) ?_
    refine specLine_l2 l hs hok s _ _ 0 (by omega) (by simp) (1, 0) (.inl rfl) rfl 300 c 0 (by omega) (by omega) ?_
    rw [w01, Nat.zero_add]
    refine Ev.succ ?_
    simp only [spec_LongestLine.l1, pre_lt hx, pre_0, if_true, at_pre hx]
    refine Ev.pos (by omega) ?_
    refine specLine_l2 l hs hok _ _ _ 1 (by omega) (by simp) (0, 1) (.inr rfl) rfl 300 c 0 (by omega) (by omega) ?_
    rw [w11, Nat.zero_add]
    refine Ev.succ ?_
    simp only [spec_LongestLine.l1]
    refine Ev.neg (by omega) ?_
    rw [pre_w hx hs]
    exact ih _ trivial
theorem hasN_le (l : List Cell) (c : Cell) : hasN l c ≤ 1 := by unfold hasN; split <;> omega
theorem touch_l1 (l : List Cell) (hs : small l) {r : Int} (x8 : List Cell) (x9 x10 : Int) (y : List Cell) (hy : small y) : ∀ (suf pre : List Cell) (s : Nat), y = pre ++ suf → s + suf.length ≤ 1000000 →
    Ev (fun k => impl_touches.l0 k l ((s + sumN suf (hasN l) : Nat) : Int) x8 x9 (wrap64 (x10 + 1))) r → Ev (fun k => impl_touches.l1 k l (s : Int) x8 x9 x10 y (y.length : Int) (pre.length : Int)) r
  | [], pre, s, hx, h1, hc => by
    refine Ev.succ ?_
    have hp := congrArg List.length hx
    simp only [List.length_append, List.length_nil] at hp
    simp only [impl_touches.l1]
    exact Ev.neg (by omega) hc
  | d :: suf, pre, s, hx, h1, hc => by
    refine Ev.succ ?_
    rw [List.length_cons] at h1
    have ih (t : Nat) (ht : t + suf.length ≤ 1000000) := touch_l1 l hs x8 x9 x10 y hy (r := r) suf (pre ++ [d]) t (by rw [hx]; simp) ht
    simp only [List.length_append, List.length_singleton, Int.natCast_add, Int.natCast_one] at ih
    rw [sumN] at hc
    simp only [impl_touches.l1, pre_lt hx, pre_0, if_true, at_pre hx, pre_w hx hy]
    refine Ev.bind (implContains_ev l d hs) ?_
    by_cases h : idxC l d ≥ 0
    · have hd1 : hasN l d = 1 := by unfold hasN; rw [if_pos h]
      rw [hd1] at hc
      have w3 : wrap64 ((s : Int) + 1) = ((s + 1 : Nat) : Int) := by rw [w64 (by omega) (by omega)]; omega
      refine Ev.pos (by simpa using h) ?_
      rw [w3]
      have := ih (s + 1) (by omega)
      simp only [Int.natCast_add, Int.natCast_one] at this hc ⊢
      refine this ?_
      rw [show (s : Int) + 1 + (sumN suf (hasN l) : Int) = (s : Int) + (1 + (sumN suf (hasN l) : Int)) by omega]
      exact hc
    · have hd0 : hasN l d = 0 := by unfold hasN; rw [if_neg h]
      rw [hd0, Nat.zero_add] at hc
      exact Ev.neg (by simpa using h) (ih s (by omega) hc)
theorem touches_ev (l : List Cell) (hs : small l) (hok : ∀ c ∈ l, okC c) (hl : l.length ≤ 40) : Ev (fun k => impl_touches.f k l) (touchN l : Int) := by
  unfold impl_touches.f
  have := loop_list l (fun k i (s : Int) => impl_touches.l0 k l s l (l.length : Int) i) (fun _ suf s => s + (sumN suf (fun a => hasN l ⟨a.f0 + 1, a.f1 + 0⟩ + hasN l ⟨a.f0 + 0, a.f1 + 1⟩) : Nat)) (fun pre s => ∃ n : Nat, s = (n : Int) ∧ n ≤ 2 * pre.length) ?_ ?_ 0 ⟨0, rfl, by simp⟩
  · refine Ev.of_eq this ?_
    rw [Int.zero_add, sumN_add]
    rfl
  · intro s _
    simp only [impl_touches.l0, len_lt, if_false]
    exact Ev.of_eq (Ev.now _) (by simp [sumN])
  · rintro pre c suf s hx ⟨n, rfl, hn⟩ ih
    have ho := hok c (by rw [hx]; simp)
    unfold okC ok1 at ho
    have hp := pre_len hx
    have e : impl_around.f c.f0 c.f1 = some (aroundC c) := implAround_eq c
    have e1 : wrap64 (c.f0 + 1) = c.f0 + 1 := w64 (by omega) (by omega)
    have e2 : wrap64 (c.f1 + 1) = c.f1 + 1 := w64 (by omega) (by omega)
    simp only [impl_touches.l0, pre_lt hx, pre_0, if_true, at_pre hx]
    refine Ev.bind0 e (Ev.pos (by simp [aroundC]) ?_)
    have hd : (aroundC c).drop (2 : Int).toNat = [⟨c.f0 + 1, c.f1⟩, ⟨c.f0, c.f1 + 1⟩] := by
      unfold aroundC
      rw [e1, e2]
      rfl
    rw [hd]
    refine Ev.bind0 rfl ?_
    refine touch_l1 l hs l _ _ [⟨c.f0 + 1, c.f1⟩, ⟨c.f0, c.f1 + 1⟩] (by unfold small; simp) [⟨c.f0 + 1, c.f1⟩, ⟨c.f0, c.f1 + 1⟩] [] n rfl (by simp; omega) ?_
    rw [pre_w hx hs]
    have h1 := hasN_le l ⟨c.f0 + 1, c.f1⟩
    have h2 := hasN_le l ⟨c.f0, c.f1 + 1⟩
    refine Ev.of_eq (ih _ ⟨_, rfl, ?_⟩) ?_
    · simp only [sumN, List.length_append, List.length_singleton]; omega
    · simp only [sumN, Int.natCast_add, Int.add_zero]; omega
def edgeR (l : List Cell) : Int × Int := if shapeB l = true then (wrap64 (wrap64 (4 * (l.length : Int)) - wrap64 (2 * (touchN l : Int))), 0) else (0, 1)
theorem edge_ev (l : List Cell) (hs : small l) : Ev (fun k => impl_EdgeCount.f k l) (edgeR l) := by
  unfold impl_EdgeCount.f edgeR
  refine Ev.bind (implIsShape_ev l hs) (Ev.if_ (fun h => ?_) (fun _ => Ev.now _))
  obtain ⟨h1, _, _, h4⟩ := shapeB_iff.1 h
  exact Ev.bind (touches_ev l hs h1 h4) (Ev.now _)
end Go.Proofs.Ytfdfdifjkaaeoaa.L
end
section
namespace Go.Proofs.Ytfdfdifjkaaeoaa.L
open Go.RowKit Go.Proofs.YtfdfdifjkaaeoaaW.PrintWords Go.Proofs.YtfdfdifjkaaeoaaW.PrintLast Go.Proofs.YtfdfdifjkaaeoaaW.PrintMore Go.Proofs.Ytfdfdifjkaaeoaa.F
set_option linter.unusedVariables false
set_option linter.unusedSimpArgs false
def weighF : List Cell → Int → Int → Int × Int × Int
  | [], x, y => (x, y, 0)
  | c :: r, x, y => weighF r (wrap64 (x + c.f0)) (wrap64 (y + c.f1))
def weighR (l : List Cell) : Int × Int × Int := if shapeB l = true then weighF l 0 0 else (0, 0, 1)
theorem implWeigh_ev (l : List Cell) (hs : small l) : Ev (fun k => impl_WeightOf.f k l) (weighR l) := by
  unfold impl_WeightOf.f weighR
  refine Ev.bind (implIsShape_ev l hs) (Ev.if_ (fun _ => ?_) (fun _ => Ev.now _))
  refine loop_list l (fun k i (s : Int × Int) => impl_WeightOf.l0 k s.1 s.2 l (l.length : Int) i) (fun _ suf s => weighF suf s.1 s.2) (fun _ _ => True) ?_ ?_ (0, 0) trivial
  · intro s _
    simp only [impl_WeightOf.l0, len_lt, if_false]
    exact Ev.now _
  · intro pre c suf s hx _ ih
    simp only [impl_WeightOf.l0, pre_lt hx, pre_0, if_true, at_pre hx, pre_w hx hs]
    exact ih (wrap64 (s.1 + c.f0), wrap64 (s.2 + c.f1)) trivial
theorem specWeigh_ev (l : List Cell) (hs : small l) : Ev (fun k => spec_WeightOf.f k l) (weighR l) := by
  unfold spec_WeightOf.f weighR
  refine Ev.bind (specIsShape_ev l hs) (Ev.if_ (fun _ => ?_) (fun _ => Ev.now _))
  refine loop_list l (fun k i (s : Int × Int) => spec_WeightOf.l0 k l s.1 s.2 i) (fun _ suf s => weighF suf s.1 s.2) (fun _ _ => True) ?_ ?_ (0, 0) trivial
  · intro s _
    simp only [spec_WeightOf.l0, len_lt, if_false]
    exact Ev.now _
  · intro pre c suf s hx _ ih
    simp only [spec_WeightOf.l0, pre_lt hx, pre_0, if_true, at_pre hx, pre_w hx hs]
    exact ih (wrap64 (s.1 + c.f0), wrap64 (s.2 + c.f1)) trivial
structure Src (cs : List Int) (a s : Int) : Prop where
  at0 : 0 ≤ a
  at1 : a ≤ (cs.length : Int)
  sd0 : 0 ≤ s
  sd1 : s < 2147483647
  len : cs.length ≤ 1000000000000000000
  byte : ∀ x ∈ cs, 0 ≤ x ∧ x ≤ 255
theorem rd_byte {cs : List Int} {a s : Int} (h : Src cs a s) (i : Int) (h0 : 0 ≤ i) (h1 : i < (cs.length : Int)) : 0 ≤ rd cs i ∧ rd cs i ≤ 255 := by
  unfold rd
  obtain ⟨n, rfl⟩ : ∃ n : Nat, i = (n : Int) := ⟨i.toNat, by omega⟩
  have hn : n < cs.length := by omega
  have e : cs.getD (n : Int).toNat 0 = cs[n] := by simp [List.getD, hn]
  rw [e]
  exact h.byte _ (List.getElem_mem hn)
theorem next_ex {cs : List Int} {a s : Int} (h : Src cs a s) (n : Int) (hn : n ≤ 1000000000000) : ∃ v a' s', spec_l01Next.f cs a s n = some (v, a', s') ∧ Src cs a' s' ∧ 0 ≤ v ∧ (1 ≤ n → v < n) := by
  have ⟨h0, h1, h2, h3, h4, h5⟩ := h
  unfold spec_l01Next.f
  by_cases hn1 : n ≤ 1
  · rw [if_pos hn1]
    exact ⟨_, _, _, rfl, h, by omega, by omega⟩
  · rw [if_neg hn1]
    have ew : wrap64 ((wrap64 (s * 48271)) + 29) = s * 48271 + 29 := by rw [w64 (n := s * 48271) (by omega) (by omega), w64 (by omega) (by omega)]
    have em : Int.tmod (s * 48271 + 29) 2147483647 = (s * 48271 + 29) % 2147483647 := Int.tmod_eq_emod_of_nonneg (by omega)
    have hs0 : 0 ≤ (s * 48271 + 29) % 2147483647 := Int.emod_nonneg _ (by omega)
    have hs1 : (s * 48271 + 29) % 2147483647 < 2147483647 := Int.emod_lt_of_pos _ (by omega)
    rw [ew, em]
    generalize (s * 48271 + 29) % 2147483647 = s' at hs0 hs1 ⊢
    have et : Int.tdiv s' 31 = s' / 31 := Int.tdiv_eq_ediv_of_nonneg hs0
    rw [et, w64 (n := s' / 31) (by omega) (by omega)]
    have tm (x : Int) (hx : 0 ≤ x) : 0 ≤ Int.tmod x n ∧ Int.tmod x n < n := by
      rw [Int.tmod_eq_emod_of_nonneg hx]
      exact ⟨Int.emod_nonneg _ (by omega), Int.emod_lt_of_pos _ (by omega)⟩
    by_cases ha : a < (cs.length : Int)
    · have ea : wrap64 (a + 1) = a + 1 := w64 (by omega) (by omega)
      have hr := rd_byte h a h0 ha
      have e1 : wrap64 (rd cs a) = rd cs a := w64 (by omega) (by omega)
      have e2 : wrap64 (a + 1 - 1) = a := by rw [w64 (by omega) (by omega)]; omega
      have e3 : wrap64 (s' / 31 + rd cs a) = s' / 31 + rd cs a := w64 (by omega) (by omega)
      have hS : Src cs (a + 1) s' := ⟨by omega, by omega, hs0, hs1, h4, h5⟩
      rw [if_pos ha, if_pos h0, ea, e1, e2, e1, e3, if_pos h0, if_pos ha, if_neg (by omega : ¬ n = 0)]
      repeat' split
      all_goals first
        | exact ⟨_, _, _, rfl, hS, (tm _ (by omega)).1, fun _ => (tm _ (by omega)).2⟩
        | omega
    · have hS : Src cs a s' := ⟨by omega, by omega, hs0, hs1, h4, h5⟩
      rw [if_neg ha, if_neg (by omega : ¬ n = 0)]
      have := tm (s' / 31) (by omega)
      exact ⟨_, _, _, rfl, hS, this.1, fun _ => this.2⟩
def Ex {α : Type} (g : Nat → Option α) (P : α → Prop) : Prop := ∃ r, Ev g r ∧ P r
theorem Ex.now {α : Type} {P : α → Prop} {r : α} (h : P r) : Ex (fun _ => some r) P := ⟨r, Ev.now _, h⟩
theorem Ex.mono {α : Type} {g : Nat → Option α} {P Q : α → Prop} (h : Ex g P) (hi : ∀ r, P r → Q r) : Ex g Q := by
  obtain ⟨r, h1, h2⟩ := h
  exact ⟨r, h1, hi r h2⟩
theorem Ex.bind {α β : Type} {g : Nat → Option α} {f : Nat → α → Option β} {P : α → Prop} {Q : β → Prop} (h : Ex g P) (k : ∀ a, P a → Ex (fun n => f n a) Q) : Ex (fun n => (g n).bind (f n)) Q := by
  obtain ⟨a, h1, h2⟩ := h
  obtain ⟨b, h3, h4⟩ := k a h2
  exact ⟨b, Ev.bind h1 h3, h4⟩
theorem Ex.bindE {α β : Type} {g : Nat → Option α} {f : Nat → α → Option β} {a : α} {Q : β → Prop} (h : Ev g a) (k : Ex (fun n => f n a) Q) : Ex (fun n => (g n).bind (f n)) Q := by
  obtain ⟨b, h3, h4⟩ := k
  exact ⟨b, Ev.bind h h3, h4⟩
theorem Ex.bind0 {α β : Type} {o : Option α} {f : Nat → α → Option β} {a : α} {Q : β → Prop} (h : o = some a) (k : Ex (fun n => f n a) Q) : Ex (fun n => o.bind (f n)) Q := by
  subst h
  exact k
theorem Ex.pos {α : Type} {c : Prop} [Decidable c] {f g : Nat → Option α} {P : α → Prop} (h : c) (e : Ex f P) : Ex (fun k => if c then f k else g k) P := by
  obtain ⟨r, h1, h2⟩ := e
  exact ⟨r, Ev.pos h h1, h2⟩
theorem Ex.neg {α : Type} {c : Prop} [Decidable c] {f g : Nat → Option α} {P : α → Prop} (h : ¬ c) (e : Ex g P) : Ex (fun k => if c then f k else g k) P := by
  obtain ⟨r, h1, h2⟩ := e
  exact ⟨r, Ev.neg h h1, h2⟩
theorem Ex.if_ {α : Type} {c : Prop} [Decidable c] {f g : Nat → Option α} {P : α → Prop} (h : c → Ex f P) (h' : ¬ c → Ex g P) : Ex (fun k => if c then f k else g k) P := by
  by_cases hc : c
  · exact Ex.pos hc (h hc)
  · exact Ex.neg hc (h' hc)
theorem Ex.succ {α : Type} {g : Nat → Option α} {P : α → Prop} (h : Ex (fun k => g (k + 1)) P) : Ex g P := by
  obtain ⟨r, h1, h2⟩ := h
  exact ⟨r, Ev.succ h1, h2⟩
theorem Ex.next {β : Type} {cs : List Int} {a s : Int} (h : Src cs a s) (n : Int) (hn : n ≤ 1000000000000) {f : Nat → Int × Int × Int → Option β} {Q : β → Prop}
    (k : ∀ v a' s', Src cs a' s' → 0 ≤ v → (1 ≤ n → v < n) → Ex (fun q => f q (v, a', s')) Q) : Ex (fun q => (spec_l01Next.f cs a s n).bind (f q)) Q := by
  obtain ⟨v, a', s', e, h1, h2, h3⟩ := next_ex h n hn
  exact Ex.bind0 e (k v a' s' h1 h2 h3)
theorem from_l (cs : List Int) (hl : cs.length ≤ 1000000000000000000) (hb : ∀ x ∈ cs, 0 ≤ x ∧ x ≤ 255) : ∀ (q i : Nat) (s : Int), i + q = min cs.length 64 → 0 ≤ s → s < 2147483647 →
    Ex (fun k => spec_l01From.l0 k cs (i : Int) cs 0 s) fun r => r.1 = cs ∧ r.2.1 = 0 ∧ Src cs 0 r.2.2
  | 0, i, s, hi, h0, h1 => by
    refine Ex.succ ?_
    simp only [spec_l01From.l0]
    have hS : Src cs 0 s := ⟨by omega, by omega, h0, h1, hl, hb⟩
    refine Ex.if_ (fun _ => Ex.neg (by omega) (Ex.now ⟨rfl, rfl, hS⟩)) (fun _ => Ex.now ⟨rfl, rfl, hS⟩)
  | q + 1, i, s, hi, h0, h1 => by
    refine Ex.succ ?_
    simp only [spec_l01From.l0]
    have hS : Src cs 0 s := ⟨by omega, by omega, h0, h1, hl, hb⟩
    have hr := rd_byte hS (i : Int) (by omega) (by omega)
    have ei : wrap64 ((i : Int) + 1) = ((i + 1 : Nat) : Int) := by rw [w64 (by omega) (by omega)]; omega
    have es : Int.tmod (wrap64 ((wrap64 (s * 47)) + (wrap64 (rd cs (i : Int))))) 2147483647 = (s * 47 + rd cs (i : Int)) % 2147483647 := by
      rw [w64 (n := s * 47) (by omega) (by omega), w64 (n := rd cs (i : Int)) (by omega) (by omega), w64 (by omega) (by omega), Int.tmod_eq_emod_of_nonneg (by omega)]
    rw [ei, es]
    exact Ex.pos (by omega) (Ex.pos (by omega) (Ex.pos (by omega) (from_l cs hl hb q (i + 1) _ (by omega) (Int.emod_nonneg _ (by omega)) (Int.emod_lt_of_pos _ (by omega)))))
theorem from_ex (cs : List Int) (hl : cs.length ≤ 1000000000000000000) (hb : ∀ x ∈ cs, 0 ≤ x ∧ x ≤ 255) : Ex (fun k => spec_l01From.f k cs) fun r => r.1 = cs ∧ r.2.1 = 0 ∧ Src cs 0 r.2.2 := by
  unfold spec_l01From.f
  exact from_l cs hl hb (min cs.length 64) 0 61003 (by omega) (by omega) (by omega)
theorem insP_mem {c d : Cell} {s : List Cell} : c ∈ insC d s ↔ c = d ∨ c ∈ s := by
  rw [(insC_perm d s).mem_iff, List.mem_cons]
theorem nbs_l1 (s : List Cell) (hs : s.length ≤ 64) (i : Int) (arr : List Cell) (ha : arr.length = 4) {Q : List Cell → Prop} : ∀ (suf pre acc : List Cell), arr = pre ++ suf → acc.length + suf.length ≤ 1000 →
    (∀ acc' : List Cell, acc'.length ≤ acc.length + suf.length → (∀ d ∈ acc', d ∈ acc ∨ d ∈ suf) → (∀ d ∈ acc, d ∈ acc') → (∀ d ∈ suf, d ∉ s → d ∈ acc') → Ex (fun k => spec_l02Neighbours.l0 k s acc' (wrap64 (i + 1))) Q) →
    Ex (fun k => spec_l02Neighbours.l1 k s acc i arr (pre.length : Int)) Q
  | [], pre, acc, hx, hl, hc => by
    refine Ex.succ ?_
    rw [List.append_nil] at hx
    subst hx
    simp only [spec_l02Neighbours.l1]
    exact Ex.neg (by omega) (hc acc (by simp) (fun d h => .inl h) (fun d h => h) (fun d h => by simp at h))
  | d :: suf, pre, acc, hx, hl, hc => by
    refine Ex.succ ?_
    have hsm : small arr := by unfold small; omega
    have hp := pre_len hx
    simp only [List.length_cons] at hl hc
    have h4 : ((pre.length : Int) < 4) := by omega
    simp only [spec_l02Neighbours.l1, pre_lt hx, pre_0, if_true, at_pre hx, pre_w hx hsm]
    refine Ex.pos h4 (Ex.bindE (specIndex_ev s d (by unfold small; omega)) ?_)
    have next (acc2 : List Cell) (h1 : acc2.length ≤ acc.length + 1) (h2 : ∀ x ∈ acc2, x ∈ acc ∨ x = d) (h3 : ∀ x ∈ acc, x ∈ acc2) (h5 : d ∉ s → d ∈ acc2) : Ex (fun k => spec_l02Neighbours.l1 k s acc2 i arr ((pre.length : Int) + 1)) Q := by
      have := nbs_l1 s hs i arr ha suf (pre ++ [d]) acc2 (by rw [hx]; simp) (by omega) (fun acc' g1 g2 g3 g4 => hc acc' (by omega) (fun x hx' => by
        rcases g2 x hx' with g | g
        · rcases h2 x g with g | rfl
          · exact .inl g
          · exact .inr List.mem_cons_self
        · exact .inr (List.mem_cons_of_mem _ g)) (fun x hx' => g3 x (h3 x hx')) (fun x hx' hn => by
        rcases List.mem_cons.1 hx' with rfl | hx'
        · exact g3 _ (h5 hn)
        · exact g4 x hx' hn))
      simpa using this
    by_cases hm : d ∈ s
    · have h := (idxC_mem s d).2 hm
      exact Ex.neg (by omega) (next acc (by omega) (fun x h => .inl h) (fun x h => h) (fun h => absurd hm h))
    · have h : ¬ idxC s d ≥ 0 := fun h => hm ((idxC_mem s d).1 h)
      refine Ex.pos (by omega) (Ex.bindE (specIndex_ev acc d (by unfold small; omega)) ?_)
      by_cases hm2 : d ∈ acc
      · have h := (idxC_mem acc d).2 hm2
        exact Ex.neg (by omega) (next acc (by omega) (fun x h => .inl h) (fun x h => h) (fun _ => hm2))
      · have h : ¬ idxC acc d ≥ 0 := fun h => hm2 ((idxC_mem acc d).1 h)
        refine Ex.pos (by omega) (Ex.bindE (specInsert_ev acc d (by omega)) (next (insC d acc) ?_ (fun x h => ?_) (fun x h => insP_mem.2 (.inr h)) (fun _ => insP_mem.2 (.inl rfl))))
        · rw [(insC_perm d acc).length_eq, List.length_cons]; omega
        · rcases insP_mem.1 h with h | h
          · exact .inr h
          · exact .inl h
theorem nbs_l0 (s : List Cell) (hs : s.length ≤ 64) : ∀ (suf pre acc : List Cell), s = pre ++ suf → acc.length ≤ 4 * pre.length → (∀ d ∈ acc, ∃ c ∈ s, d ∈ aroundC c) → (∀ c ∈ pre, ∀ d ∈ aroundC c, d ∉ s → d ∈ acc) →
    Ex (fun k => spec_l02Neighbours.l0 k s acc (pre.length : Int)) fun r => r.length ≤ 4 * s.length ∧ (∀ d ∈ r, ∃ c ∈ s, d ∈ aroundC c) ∧ ∀ c ∈ s, ∀ d ∈ aroundC c, d ∉ s → d ∈ r
  | [], pre, acc, hx, h1, h2, h3 => by
    refine Ex.succ ?_
    rw [List.append_nil] at hx
    subst hx
    simp only [spec_l02Neighbours.l0]
    exact Ex.neg (by omega) (Ex.now ⟨h1, h2, h3⟩)
  | c :: suf, pre, acc, hx, h1, h2, h3 => by
    refine Ex.succ ?_
    have hsm : small s := by unfold small; omega
    have hp := pre_len hx
    have h4 : (aroundC c).length = 4 := rfl
    simp only [spec_l02Neighbours.l0, pre_lt hx, pre_0, if_true, at_pre hx]
    refine Ex.bind0 (specAround_eq c) ?_
    refine nbs_l1 s hs (pre.length : Int) (aroundC c) h4 (aroundC c) [] acc rfl (by omega) (fun acc' g1 g2 g3 g4 => ?_)
    rw [pre_w hx hsm]
    have := nbs_l0 s hs suf (pre ++ [c]) acc' (by rw [hx]; simp) (by simp; omega) (fun d hd => by
      rcases g2 d hd with g | g
      · exact h2 d g
      · exact ⟨c, by rw [hx]; simp, g⟩) (fun e he d hd hn => by
      rcases List.mem_append.1 he with he | he
      · exact g3 d (h3 e he d hd hn)
      · simp at he
        subst he
        exact g4 d hd hn)
    simpa using this
theorem nbs_ex (s : List Cell) (hs : s.length ≤ 64) : Ex (fun k => spec_l02Neighbours.f k s) fun r => r.length ≤ 4 * s.length ∧ (∀ d ∈ r, ∃ c ∈ s, d ∈ aroundC c) ∧ ∀ c ∈ s, ∀ d ∈ aroundC c, d ∉ s → d ∈ r := by
  unfold spec_l02Neighbours.f
  exact nbs_l0 s hs s [] [] rfl (by simp) (by simp) (by simp)
def inBox (m : Int) (s : List Cell) : Prop := ∀ c ∈ s, -m ≤ c.f0 ∧ c.f0 ≤ m ∧ -m ≤ c.f1 ∧ c.f1 ≤ m
theorem nbs_pos {s r : List Cell} (h0 : 0 < s.length) (hb : inBox 1000 s) (h : ∀ c ∈ s, ∀ d ∈ aroundC c, d ∉ s → d ∈ r) : 0 < r.length := by
  have hne : s ≠ [] := by intro e; rw [e] at h0; simp at h0
  obtain ⟨_, ⟨c, hc, ec⟩⟩ := least_mem hne
  have hbc := hb c hc
  refine List.length_pos_of_mem (a := ⟨c.f0, wrap64 (c.f1 - 1)⟩) (h c hc _ (by simp [aroundC]) fun hm => ?_)
  have := (least_le hm).2
  simp only at this
  rw [w64 (by omega) (by omega)] at this
  omega
theorem around_box {m : Int} {c d : Cell} (hm : 0 ≤ m ∧ m ≤ 1000) (hc : -m ≤ c.f0 ∧ c.f0 ≤ m ∧ -m ≤ c.f1 ∧ c.f1 ≤ m) (hd : d ∈ aroundC c) : -(m + 1) ≤ d.f0 ∧ d.f0 ≤ m + 1 ∧ -(m + 1) ≤ d.f1 ∧ d.f1 ≤ m + 1 := by
  simp only [aroundC, List.mem_cons, List.not_mem_nil, or_false] at hd
  have w (n : Int) (h0 : -3000 ≤ n) (h1 : n ≤ 3000) : wrap64 n = n := w64 (by omega) (by omega)
  rw [w _ (by omega) (by omega), w _ (by omega) (by omega), w _ (by omega) (by omega), w _ (by omega) (by omega)] at hd
  rcases hd with rfl | rfl | rfl | rfl <;> (simp only; omega)
theorem poly_l (cs : List Int) : ∀ (q n : Nat) (s : List Cell) (a sd : Int), q + n ≤ 40 → s.length = n → 1 ≤ n → inBox (n : Int) s → Src cs a sd →
    Ex (fun k => spec_l02DrawPoly.l0 k s (q : Int) cs a sd) fun r => 1 ≤ r.1.length ∧ r.1.length ≤ 40 ∧ Src cs r.2.1 r.2.2
  | 0, n, s, a, sd, hq, hl, hn, hb, hS => by
    refine Ex.succ ?_
    simp only [spec_l02DrawPoly.l0]
    refine Ex.neg (by omega) (Ex.bindE (specNormal_ev s (by omega) (by omega)) (Ex.now ?_))
    have := normalL_len s
    exact ⟨by simp only; omega, by simp only; omega, hS⟩
  | q + 1, n, s, a, sd, hq, hl, hn, hb, hS => by
    refine Ex.succ ?_
    simp only [spec_l02DrawPoly.l0]
    refine Ex.pos (by omega) (Ex.bind (nbs_ex s (by omega)) fun r ⟨h1, h2, h3⟩ => ?_)
    have hr : 0 < r.length := nbs_pos (by omega) (fun c hc => by have := hb c hc; omega) h3
    refine Ex.next hS (r.length : Int) (by omega) fun v a' s' hS' hv0 hv1 => ?_
    have hv2 := hv1 (by omega)
    obtain ⟨j, rfl⟩ : ∃ j : Nat, v = (j : Int) := ⟨v.toNat, by omega⟩
    have hj : j < r.length := by omega
    have er : rd_T59 r (j : Int) = r[j] := by
      have : r = r.take j ++ r[j] :: r.drop (j + 1) := by rw [List.getElem_cons_drop, List.take_append_drop]
      have e2 := at_pre this
      rw [List.length_take, Nat.min_eq_left (by omega)] at e2
      exact e2
    have hd : r[j] ∈ r := List.getElem_mem hj
    obtain ⟨c, hc, hdc⟩ := h2 _ hd
    have hbd := around_box (m := (n : Int)) (by omega) (hb c hc) hdc
    simp only [er]
    refine Ex.pos (by omega) (Ex.pos (by omega) (Ex.bindE (specInsert_ev s r[j] (by omega)) ?_))
    have ew : wrap64 (((q + 1 : Nat) : Int) - 1) = (q : Int) := by rw [w64 (by omega) (by omega)]; omega
    rw [ew]
    refine poly_l cs q (n + 1) (insC r[j] s) a' s' (by omega) (by rw [(insC_perm _ s).length_eq, List.length_cons]; omega) (by omega) (fun x hx => ?_) hS'
    rcases insP_mem.1 hx with rfl | hx
    · omega
    · have := hb x hx; omega
theorem poly_ex {cs : List Int} {a s : Int} (h : Src cs a s) (n : Int) (h0 : 1 ≤ n) (h1 : n ≤ 39) : Ex (fun k => spec_l02DrawPoly.f k cs a s n) fun r => 1 ≤ r.1.length ∧ r.1.length ≤ 40 ∧ Src cs r.2.1 r.2.2 := by
  unfold spec_l02DrawPoly.f
  refine Ex.next h n (by omega) fun v a' s' hS hv0 hv1 => ?_
  have := hv1 h0
  obtain ⟨q, rfl⟩ : ∃ q : Nat, v = (q : Int) := ⟨v.toNat, by omega⟩
  exact poly_l cs q 1 [⟨0, 0⟩] a' s' (by omega) rfl (by omega) (fun c hc => by simp at hc; subst hc; simp) hS
theorem draw_l (cs : List Int) : ∀ (q i : Nat) (l : List Cell) (a s : Int), i + q = 42 → l.length = i → Src cs a s → Ex (fun k => spec_l02Draw.l0 k l (i : Int) cs a s) fun r => r.1.length ≤ 100 ∧ Src cs r.2.1 r.2.2
  | q, i, l, a, s, hi, hl, hS => by
    refine Ex.succ ?_
    simp only [spec_l02Draw.l0]
    refine Ex.next hS 2 (by omega) fun v a' s' hS' hv0 hv1 => ?_
    have hv := hv1 (by omega)
    have ew : wrap64 (40 + v) = 40 + v := w64 (by omega) (by omega)
    have ei : wrap64 ((i : Int) + 1) = ((i + 1 : Nat) : Int) := by rw [w64 (by omega) (by omega)]; omega
    simp only [ew, ei]
    match q, hi with
    | 0, hi => exact Ex.neg (by omega) (Ex.now ⟨by simp only; omega, hS'⟩)
    | q + 1, hi =>
      exact Ex.if_ (fun _ => Ex.pos (by omega) (draw_l cs q (i + 1) _ a' s' (by omega) (by simp [hl]) hS')) (fun _ => Ex.now ⟨by simp only; omega, hS'⟩)
theorem insAll_len (l : List Cell) : (insAll [] l).length = l.length := by
  have := (insAll_spec l [] List.Pairwise.nil).1.length_eq
  simpa using this
theorem draw_ex {cs : List Int} {a s : Int} (h : Src cs a s) : Ex (fun k => spec_l02Draw.f k cs a s) fun r => r.1.length ≤ 100 ∧ Src cs r.2.1 r.2.2 := by
  unfold spec_l02Draw.f
  refine Ex.bind (poly_ex h 8 (by omega) (by omega)) fun p ⟨p0, p1, p2⟩ => ?_
  refine Ex.next p2 9 (by omega) fun v1 a1 s1 h1 _ _ => ?_
  refine Ex.next h1 9 (by omega) fun v2 a2 s2 h2 _ _ => ?_
  refine Ex.bindE (specMove_ev p.1 _ _ (by omega)) ?_
  have hml := moveL_len p.1 (wrap64 (v1 - 4)) (wrap64 (v2 - 4))
  generalize moveL p.1 (wrap64 (v1 - 4)) (wrap64 (v2 - 4)) = t at hml ⊢
  refine Ex.next h2 (t.length : Int) (by omega) fun v3 a3 s3 h3 g0 g1 => ?_
  have g2 := g1 (by omega)
  refine Ex.next h3 24 (by omega) fun v4 a4 s4 h4 _ _ => ?_
  simp only
  have ew : wrap64 ((t.length : Int) - 1) = (t.length : Int) - 1 := w64 (by omega) (by omega)
  refine Ex.if_ (fun _ => ?_) (fun _ => ?_)
  · refine Ex.bind0 rfl (Ex.next h4 3 (by omega) fun v5 a5 s5 h5 q0 q1 => ?_)
    have q2 := q1 (by omega)
    have e3 : (([(-100), 100, 101] : List Int).length : Int) = 3 := rfl
    refine Ex.pos q0 (Ex.pos (by rw [e3]; exact q2) (Ex.pos g0 (Ex.pos g2 (Ex.bindE (specSortI_ev _ (by rw [List.length_set]; omega)) (Ex.now ?_)))))
    exact ⟨by simp only; rw [insAll_len, List.length_set]; omega, h5⟩
  refine Ex.if_ (fun _ => ?_) (fun _ => ?_)
  · exact Ex.pos g0 (Ex.pos g2 (Ex.pos (by omega) (Ex.now ⟨by simp; omega, h4⟩)))
  refine Ex.if_ (fun _ => Ex.now ⟨by simp, h4⟩) (fun _ => ?_)
  refine Ex.if_ (fun _ => draw_l cs 42 0 [] a4 s4 (by omega) rfl h4) (fun _ => ?_)
  rw [ew]
  refine Ex.if_ (fun _ => ?_) (fun _ => ?_)
  · exact Ex.pos (by omega) (Ex.pos (by omega) (Ex.pos (by omega) (Ex.pos (by omega) (Ex.now ⟨by simp; omega, h4⟩))))
  refine Ex.if_ (fun _ => ?_) (fun _ => Ex.now ⟨by simp only; omega, h4⟩)
  exact Ex.pos (by omega) (Ex.pos (by omega) (Ex.pos (by omega) (Ex.pos (by omega) (Ex.now ⟨by simp; omega, h4⟩))))
theorem d06_l1 (cs : List Int) (W H y : Int) (hW : 0 ≤ W ∧ W ≤ 10) (hH : 0 ≤ H ∧ H ≤ 10) {Q : List Cell × Int × Int → Prop} : ∀ (q : Nat) (x : Int) (l : List Cell) (a s : Int), x + (q : Int) = W → 0 ≤ x → l.length + q ≤ 1000 → Src cs a s →
    (∀ (l' : List Cell) (a' s' : Int), l'.length ≤ l.length + q → Src cs a' s' → Ex (fun k => spec_l06Draw.l0 k W H l' (wrap64 (y + 1)) cs a' s') Q) → Ex (fun k => spec_l06Draw.l1 k W H l y x cs a s) Q
  | 0, x, l, a, s, hx, h0, hl, hS, hc => by
    refine Ex.succ ?_
    simp only [spec_l06Draw.l1]
    exact Ex.neg (by omega) (hc l a s (by omega) hS)
  | q + 1, x, l, a, s, hx, h0, hl, hS, hc => by
    refine Ex.succ ?_
    have ew : wrap64 (x + 1) = x + 1 := w64 (by omega) (by omega)
    have nx (l2 : List Cell) (h2 : l2.length ≤ l.length + 1) (a' s' : Int) (hS' : Src cs a' s') : Ex (fun k => spec_l06Draw.l1 k W H l2 y (x + 1) cs a' s') Q :=
      d06_l1 cs W H y hW hH q (x + 1) l2 a' s' (by omega) (by omega) (by omega) hS' (fun l' a2 s2 h4 h5 => hc l' a2 s2 (by omega) h5)
    have hj (b : Bool) : Ex (fun k => spec_l06Draw.j2 k W H l y x b cs a s) Q := by
      refine Ex.succ ?_
      simp only [spec_l06Draw.j2, ew]
      refine Ex.if_ (fun _ => ?_) (fun _ => ?_)
      · refine Ex.next hS 12 (by omega) fun v a' s' hS' _ _ => ?_
        exact Ex.if_ (fun _ => Ex.pos (by omega) (nx _ (by simp) a' s' hS')) (fun _ => nx l (by omega) a' s' hS')
      · refine Ex.next hS 3 (by omega) fun v a' s' hS' _ _ => ?_
        exact Ex.if_ (fun _ => Ex.pos (by omega) (nx _ (by simp) a' s' hS')) (fun _ => nx l (by omega) a' s' hS')
    simp only [spec_l06Draw.l1]
    exact Ex.pos (by omega) (Ex.if_ (fun _ => hj true) (fun _ => Ex.if_ (fun _ => hj true) (fun _ => Ex.if_ (fun _ => hj true) (fun _ => hj _))))
theorem d06_l0 (cs : List Int) (W H : Int) (hW : 0 ≤ W ∧ W ≤ 10) (hH : 0 ≤ H ∧ H ≤ 10) : ∀ (q : Nat) (y : Int) (l : List Cell) (a s : Int), y + (q : Int) = H → 0 ≤ y → (l.length : Int) ≤ 10 * y → Src cs a s →
    Ex (fun k => spec_l06Draw.l0 k W H l y cs a s) fun r => r.1.length ≤ 100 ∧ Src cs r.2.1 r.2.2
  | 0, y, l, a, s, hy, h0, hl, hS => by
    refine Ex.succ ?_
    simp only [spec_l06Draw.l0]
    exact Ex.neg (by omega) (Ex.now ⟨by simp only; omega, hS⟩)
  | q + 1, y, l, a, s, hy, h0, hl, hS => by
    refine Ex.succ ?_
    simp only [spec_l06Draw.l0]
    refine Ex.pos (by omega) (d06_l1 cs W H y hW hH W.toNat 0 l a s (by omega) (by omega) (by omega) hS fun l' a' s' h1 h2 => ?_)
    rw [w64 (n := y + 1) (by omega) (by omega)]
    exact d06_l0 cs W H hW hH q (y + 1) l' a' s' (by omega) (by omega) (by omega) h2
theorem draw06_ex {cs : List Int} {a s : Int} (h : Src cs a s) : Ex (fun k => spec_l06Draw.f k cs a s) fun r => r.1.length ≤ 100 ∧ Src cs r.2.1 r.2.2 := by
  unfold spec_l06Draw.f
  refine Ex.next h 3 (by omega) fun v a1 s1 h1 _ _ => ?_
  refine Ex.if_ (fun _ => Ex.bind (draw_ex h1) fun r hr => Ex.now hr) (fun _ => ?_)
  refine Ex.next h1 4 (by omega) fun w a2 s2 h2 w0 w1 => Ex.next h2 3 (by omega) fun u a3 s3 h3 u0 u1 => ?_
  have := w1 (by omega)
  have := u1 (by omega)
  show Ex (fun k => spec_l06Draw.l0 k (wrap64 (3 + w)) (wrap64 (3 + u)) [] 0 cs a3 s3) _
  rw [w64 (n := 3 + w) (by omega) (by omega), w64 (n := 3 + u) (by omega) (by omega)]
  exact d06_l0 cs (3 + w) (3 + u) (by omega) (by omega) (3 + u).toNat 0 [] a3 s3 (by omega) (by omega) (by simp) h3
theorem convDraw_ex (cs : List Int) (hl : cs.length ≤ 1000000000000000000) (hb : ∀ x ∈ cs, 0 ≤ x ∧ x ≤ 255) : Ex (fun k => spec_DrawConvexityOf.f k cs) fun r => r.length ≤ 100 := by
  unfold spec_DrawConvexityOf.f
  refine Ex.bind (from_ex cs hl hb) fun ⟨c1, a1, s1⟩ ⟨e1, e2, h1⟩ => ?_
  simp only at e1 e2 h1
  subst e1 e2
  exact Ex.bind (draw06_ex h1) fun r hr => Ex.now hr.1
end Go.Proofs.Ytfdfdifjkaaeoaa.L
end
section
namespace Go.Proofs.Ytfdfdifjkaaeoaa.L
open Go.RowKit Go.Proofs.YtfdfdifjkaaeoaaW.PrintWords Go.Proofs.YtfdfdifjkaaeoaaW.PrintLast Go.Proofs.YtfdfdifjkaaeoaaW.PrintMore Go.Proofs.Ytfdfdifjkaaeoaa.F
set_option linter.unusedVariables false
set_option linter.unusedSimpArgs false
theorem sort_ltC {l : List Cell} (h : l.Nodup) : (sortC l).Pairwise ltC := by
  have h1 := sortC_sorted l
  have h2 : (sortC l).Nodup := (sortC_perm l).nodup_iff.2 h
  have := h1.and h2
  refine this.imp fun {a b} hab => ?_
  obtain ⟨h3, h4⟩ := hab
  obtain ⟨a0, a1⟩ := a
  obtain ⟨b0, b1⟩ := b
  unfold ltC at *
  simp only [ne_eq, S59.mk.injEq] at *
  omega
theorem lt_nodup {l : List Cell} (h : l.Pairwise ltC) : l.Nodup := h.imp fun {a b} hab e => by subst e; unfold ltC at hab; omega
theorem turn_shape {l : List Cell} (h : shapeB l = true) (h2 : shapeB (normalL l) = true) : shapeB (formC l 1) = true := by
  obtain ⟨ho, hp, h3, h4⟩ := shapeB_iff.1 h
  have h0 := shape_ne h
  obtain ⟨go, _⟩ := shapeB_iff.1 h2
  rw [normalL_shift h0 ho] at go
  obtain ⟨u, v, hperm, hF⟩ := form1 h0 ho
  have hX0 : l.map (turnD 1) ≠ [] := by simpa using h0
  have hS0 : sortC (l.map (turnD 1)) ≠ [] := fun e => hX0 (by have hp := sortC_perm (l.map (turnD 1)); rw [e] at hp; exact List.Perm.eq_nil hp.symm)
  have hX (x : Cell) (hx : x ∈ sortC (l.map (turnD 1))) : ∃ c ∈ l, x.f0 = -c.f1 ∧ x.f1 = c.f0 := by
    obtain ⟨c, hc, rfl⟩ := List.mem_map.1 (sortC_mem.1 hx)
    have hc' := ho c hc
    unfold okC ok1 at hc'
    exact ⟨c, hc, by show wrap64 (-c.f1) = _; exact w64 (by omega) (by omega), rfl⟩
  have hle : ∀ c ∈ l, 0 ≤ c.f0 - (leastOf l).1 ∧ c.f0 - (leastOf l).1 ≤ 100 ∧ 0 ≤ c.f1 - (leastOf l).2 ∧ c.f1 - (leastOf l).2 ≤ 100 := fun c hc => by
    have h5 := go _ (List.mem_map.2 ⟨c, hc, rfl⟩)
    have h6 := least_le hc
    unfold okC ok1 shiftC at h5
    simp only at h5
    omega
  refine shapeB_iff.2 ⟨?_, ?_, ?_, ?_⟩
  · intro c hc
    rw [hF] at hc
    obtain ⟨x, hx, rfl⟩ := List.mem_map.1 hc
    obtain ⟨⟨p, hp1, ep⟩, ⟨q, hq1, eq_⟩⟩ := least_mem hS0
    have b := least_le hx
    obtain ⟨cx, hcx, e1, e2⟩ := hX x hx
    obtain ⟨cp, hcp, e3, e4⟩ := hX p hp1
    obtain ⟨cq, hcq, e5, e6⟩ := hX q hq1
    have g1 := hle cx hcx
    have g2 := hle cp hcp
    have g3 := hle cq hcq
    unfold okC ok1 shiftC
    simp only
    omega
  · rw [hF]
    have hn : (l.map (turnD 1)).Nodup := List.pairwise_map.2 (hp.imp_of_mem fun {a b} ha hb hab e => by
      have := turnD_inj (ho a ha) (ho b hb) e
      subst this
      unfold ltC at hab
      omega)
    refine List.pairwise_map.2 ((sort_ltC hn).imp fun {a b} hab => ?_)
    unfold ltC shiftC at *
    simp only
    omega
  · rw [formC_len]; exact h3
  · rw [formC_len]; exact h4
def turnR (l : List Cell) : List Cell × Int := if shapeB l = true then (if shapeB (normalL l) = true then (formC l 1, 0) else ([], 3)) else ([], 1)
theorem shapeCode_ev (l : List Cell) (hs : l.length ≤ 1048576) : Ev (fun k => impl_shapeCode.f k l) (if shapeB l = true then (if shapeB (normalL l) = true then 0 else 3) else 1) := by
  have h1 : small l := by unfold small; omega
  unfold impl_shapeCode.f
  refine Ev.bind (implIsShape_ev l h1) (Ev.if_ (fun h => ?_) (fun _ => Ev.now _))
  have h0 : 0 < l.length := List.length_pos_iff.2 (shape_ne h)
  refine Ev.bind (implNormal_ev l hs h0) (Ev.bind (implIsShape_ev _ (by unfold small; rw [normalL_len]; omega)) (Ev.if_ (fun _ => Ev.now _) (fun _ => Ev.now _)))
theorem turn_ev (l : List Cell) (hs : l.length ≤ 1048576) : Ev (fun k => impl_TurnShape.f k l 1) (turnR l) := by
  have h1 : small l := by unfold small; omega
  unfold impl_TurnShape.f turnR
  refine Ev.bind (implIsShape_ev l h1) (Ev.if_ (fun h => ?_) (fun _ => Ev.now _))
  have h0 : 0 < l.length := List.length_pos_iff.2 (shape_ne h)
  have ht : impl_isTurn.f 1 = some true := rfl
  refine Ev.bind0 ht (Ev.pos rfl (Ev.bind (shapeCode_ev l hs) ?_))
  rw [if_pos h]
  by_cases h2 : shapeB (normalL l) = true
  · rw [if_pos h2, if_pos h2]
    exact Ev.pos rfl (Ev.bind (implForm8_ev l 1 (by omega) hs h0) (Ev.now _))
  · rw [if_neg h2, if_neg h2]
    exact Ev.neg (by omega) (Ev.now _)
theorem turn_all {l : List Cell} (h : shapeB l = true) (h2 : shapeB (normalL l) = true) :
    rowsB (formC l 1) = colsB l ∧ colsB (formC l 1) = rowsB l ∧ lineF (formC l 1) (formC l 1) 0 = lineF l l 0 ∧ touchN (formC l 1) = touchN l := by
  obtain ⟨ho, hp, h3, h4⟩ := shapeB_iff.1 h
  have h0 := shape_ne h
  obtain ⟨u, v, hperm, _⟩ := form1 h0 ho
  generalize formC l 1 = T at hperm
  have hm : ∀ c, quad 1 u v c ∈ T ↔ c ∈ l := by
    intro c
    rw [hperm.mem_iff, List.mem_map]
    constructor
    · rintro ⟨a, ha, e⟩
      have e0 : u - 1 * a.f1 = u - 1 * c.f1 := congrArg S59.f0 e
      have e1 : v + 1 * a.f0 = v + 1 * c.f0 := congrArg S59.f1 e
      rw [← cell_ext (a := a) (b := c) (by omega) (by omega)]
      exact ha
    · exact fun hc => ⟨c, hc, rfl⟩
  have hm' : ∀ c, quad (-1) (-v) u c ∈ l ↔ c ∈ T := by
    intro c
    rw [← hm]
    have : quad 1 u v (quad (-1) (-v) u c) = c := cell_ext (by simp only [quad]; omega) (by simp only [quad]; omega)
    rw [this]
  refine ⟨?_, ?_, ?_, quad_touch (lt_nodup hp) hperm hm⟩
  · rw [Bool.eq_iff_iff]
    exact ⟨quad_cols (.inl rfl) hm, quad_rows (.inr rfl) hm'⟩
  · rw [Bool.eq_iff_iff]
    exact ⟨quad_rows (.inl rfl) hm, quad_cols (.inr rfl) hm'⟩
  · exact Int.le_antisymm (quad_line (.inr rfl) fun c hc => (hm' c).2 hc) (quad_line (.inl rfl) fun c hc => (hm c).2 hc)
end Go.Proofs.Ytfdfdifjkaaeoaa.L
namespace Go.Proofs.Ytfdfdifjkaaeoaa.Pure
open Go.RowKit Go.Proofs.YtfdfdifjkaaeoaaW.PrintWords Go.Proofs.Ytfdfdifjkaaeoaa.F Go.Proofs.Ytfdfdifjkaaeoaa.L
set_option linter.unusedVariables false
theorem FnConvex (l0 : List Int) (hv0 : l0.length ≤ 9223372036854775807 ∧ ∀ x ∈ l0, (Lit.int .u8 x).wf = true) : ∃ k, laws_FnConvex.f k l0 = some true := by
  refine Ev.rounds ?_
  obtain ⟨hm, hv⟩ := hv0
  have hb : ∀ x ∈ l0, 0 ≤ x ∧ x ≤ 255 := fun x hx => by
    have := hv x hx
    have m0 : IntKind.u8.min = 0 := by decide
    have m1 : IntKind.u8.max = 255 := by decide
    simp [Lit.wf, m0, m1] at this
    omega
  unfold laws_FnConvex.f
  refine Ev.bind0 rfl ?_
  by_cases hbig : (l0.length : Int) > 4096
  · exact Ev.pos (by simpa using hbig) (Ev.now _)
  refine Ev.neg (by simpa using hbig) ?_
  obtain ⟨l, e1, hl⟩ := convDraw_ex l0 (by omega) hb
  have hs : small l := by unfold small; omega
  have hl' : l.length ≤ 1048576 := by omega
  refine Ev.bind e1 (Ev.bind (implConv_ev l hs) (Ev.bind (specConv_ev l hs) (Ev.bind (implLine_ev l hs) (Ev.bind (specLine_ev l hs) (Ev.bind (implWeigh_ev l hs) (Ev.bind (specWeigh_ev l hs) (Ev.pos rfl (Ev.neg (by simp) (Ev.neg (by simp) (Ev.pos rfl (Ev.pos rfl (Ev.pos rfl (Ev.pos rfl ?_)))))))))))))
  refine Ev.step (fun k => laws_FnConvex.j0.eq_2 _ _ _ _ _ _ _) (Ev.neg (by simp) ?_)
  by_cases h : shapeB l = true
  · have hc : convR l = (rowsB l, colsB l, 0) := by unfold convR; rw [if_pos h]
    have hL : lineR l = (lineF l l 0, 0) := by unfold lineR; rw [if_pos h]
    rw [hc, hL]
    refine Ev.pos rfl (Ev.bind (turn_ev l hl') ?_)
    unfold turnR
    rw [if_pos h]
    by_cases h2 : shapeB (normalL l) = true
    · rw [if_pos h2]
      have hT := turn_shape h h2
      obtain ⟨t1, t2, t3, t4⟩ := turn_all h h2
      have tl : (formC l 1).length = l.length := formC_len l 1
      have hsT : small (formC l 1) := by unfold small; rw [tl]; omega
      have hcT : convR (formC l 1) = (colsB l, rowsB l, 0) := by unfold convR; rw [if_pos hT, t1, t2]
      have hLT : lineR (formC l 1) = (lineF l l 0, 0) := by unfold lineR; rw [if_pos hT, t3]
      have hE : edgeR (formC l 1) = edgeR l := by unfold edgeR; rw [if_pos hT, if_pos h, t4, tl]
      have hE0 : (edgeR l).2 = 0 := by unfold edgeR; rw [if_pos h]
      refine Ev.pos rfl (Ev.bind (implConv_ev _ hsT) (Ev.bind (implLine_ev _ hsT) (Ev.bind (edge_ev _ hsT) (Ev.bind (edge_ev l hs) ?_))))
      rw [hcT, hLT, hE]
      exact Ev.pos rfl (Ev.pos rfl (Ev.pos hE0 (Ev.pos hE0 (Ev.pos (by simp) (Ev.pos (by simp) (Ev.pos rfl (Ev.of_eq (Ev.now _) (by simp))))))))
    · rw [if_neg h2]
      exact Ev.neg (by simp) (Ev.of_eq (Ev.now _) (by simp))
  · have hc : convR l = (false, false, 1) := by unfold convR; rw [if_neg h]
    rw [hc]
    exact Ev.neg (by simp) (Ev.now _)
end Go.Proofs.Ytfdfdifjkaaeoaa.Pure
end
