/- The row of FnEdges, with what it needs: text 8 of 9. -/
import Derived.Test.YtpoiiaephcddoaaL6
set_option maxHeartbeats 8000000
set_option maxRecDepth 100000
section
namespace Go.Proofs.Ytpoiiaephcddoaa.L
open Go.RowKit Go.Proofs.YtpoiiaephcddoaaW.PrintWords Go.Proofs.YtpoiiaephcddoaaW.PrintLast Go.Proofs.YtpoiiaephcddoaaW.PrintMore Go.Proofs.Ytpoiiaephcddoaa.F
set_option linter.unusedVariables false
set_option linter.unusedSimpArgs false
theorem l02Cell_eq (x y : Int) : spec_l02Cell.f x y = some (decide (ok1 x ∧ ok1 y)) := by
  unfold spec_l02Cell.f
  rw [in_eq, in_eq]
  simp only [Option.bind_some]
  by_cases h : -100 ≤ x ∧ x ≤ 100
  · have h' : ok1 x := h
    simp only [h, and_self, decide_true, if_true, true_and, h', ok1]
  · have h' : ¬ ok1 x := h
    simp [h, h']
def small {α : Type} (l : List α) : Prop := l.length ≤ 4611686018427387904
theorem pre_lt {α : Type} {xs pre suf : List α} {c : α} (h : xs = pre ++ c :: suf) : ((pre.length : Int) < (xs.length : Int)) = True := by
  subst h; simp; omega
theorem pre_w {α : Type} {xs pre suf : List α} {c : α} (h : xs = pre ++ c :: suf) (hs : small xs) : wrap64 ((pre.length : Int) + 1) = (pre.length : Int) + 1 := by
  subst h
  unfold small at hs
  rw [List.length_append, List.length_cons] at hs
  exact w64 (by omega) (by omega)
theorem pre_0 {α : Type} (pre : List α) : (0 ≤ (pre.length : Int)) = True := by simp
theorem len_lt {α : Type} (xs : List α) : ((xs.length : Int) < (xs.length : Int)) = False := by simp
theorem at_pre {xs pre suf : List Cell} {c : Cell} (h : xs = pre ++ c :: suf) : rd_T35 xs (pre.length : Int) = c := by
  subst h; exact getD_at pre suf c _
theorem pre_len {α : Type} {xs pre suf : List α} {c : α} (h : xs = pre ++ c :: suf) : pre.length < xs.length := by
  subst h; simp
def cmpI (a b : Int) : Int := if a < b then -1 else if a > b then 1 else 0
theorem compare_eq (a b : Int) : cmp_Compare_int64.f a b = some (cmpI a b) := by
  unfold cmp_Compare_int64.f cmp_isNaN_int64.f cmpI
  simp only [bne_self_eq_false, Option.bind_some, Bool.false_eq_true, if_false]
  split
  · rfl
  · split <;> rfl
theorem l02Less_eq (a b c d : Int) : spec_l02Less.f a b c d = some (decide (b < d ∨ b = d ∧ a < c)) := by
  unfold spec_l02Less.f
  by_cases h : b < d
  · simp [h]
  · by_cases h' : b = d <;> simp [h, h']
    
def cmpC (a b : Cell) : Int := if cmpI a.f1 b.f1 = 0 then cmpI a.f0 b.f0 else cmpI a.f1 b.f1
theorem compareCells_eq (a b : Cell) : impl_compareCells.f a.f0 a.f1 b.f0 b.f1 = some (cmpC a b) := by
  unfold impl_compareCells.f cmpC
  simp only [compare_eq, Option.bind_some]
  split <;> rfl
theorem cmpC_lt {a b : Cell} : cmpC a b < 0 ↔ ltC a b := by
  unfold cmpC cmpI ltC
  repeat' split
  all_goals constructor <;> intro h <;> omega
theorem cmpC_ge {a b : Cell} : cmpC a b ≥ 0 ↔ ¬ ltC a b := by
  rw [← cmpC_lt]; omega
def goodFrom : Option Cell → List Cell → Bool
  | _, [] => true
  | p, c :: r => decide (okC c) && (match p with | none => true | some q => decide (ltC q c)) && goodFrom (some c) r
def shapeB (l : List Cell) : Bool := goodFrom none l && decide (1 ≤ (l.length : Int) ∧ (l.length : Int) ≤ 40)
theorem specIsShape_ev (l : List Cell) (hs : small l) : Ev (fun k => spec_IsShape.f k l) (shapeB l) := by
  unfold spec_IsShape.f
  refine loop_list l (fun k i (_ : Unit) => spec_IsShape.l0 k l i) (fun pre suf _ => goodFrom pre.getLast? suf && decide (1 ≤ (l.length : Int) ∧ (l.length : Int) ≤ 40)) (fun _ _ => True) ?_ ?_ () trivial
  · intro _ _
    simp only [spec_IsShape.l0, len_lt, if_false, in_eq, Option.bind_some]
    refine Ev.of_eq (Ev.now _) ?_
    simp [goodFrom]
  · intro pre c suf _ hx _ ih
    simp only [spec_IsShape.l0, pre_lt hx, pre_0, if_true, at_pre hx, l02Cell_eq, Option.bind_some, pre_w hx hs]
    by_cases hc : okC c
    · have hc' : ok1 c.f0 ∧ ok1 c.f1 := hc
      simp only [hc', and_self, decide_true, if_true]
      rcases List.eq_nil_or_concat pre with rfl | ⟨L, b, rfl⟩
      · refine Ev.neg (by simp) (Ev.of_eq (ih () trivial) ?_)
        simp [goodFrom, hc]
      · rw [List.concat_eq_append] at hx ih ⊢
        have hx2 : l = L ++ b :: (c :: suf) := by rw [hx]; simp
        have e1 : wrap64 (((L ++ [b]).length : Int) - 1) = (L.length : Int) := by
          unfold small at hs
          rw [hx2] at hs
          simp only [List.length_append, List.length_cons, List.length_nil] at hs ⊢
          rw [w64 (by omega) (by omega)]; omega
        refine Ev.pos (by simp <;> omega) ?_
        simp only [e1, pre_0, if_true, pre_lt hx2, at_pre hx2, l02Less_eq, Option.bind_some]
        by_cases hl : ltC b c
        · have hl' : b.f1 < c.f1 ∨ b.f1 = c.f1 ∧ b.f0 < c.f0 := hl
          refine Ev.pos (by simpa using hl') (Ev.of_eq (ih () trivial) ?_)
          simp [goodFrom, hc, hl]
        · have hl' : ¬ (b.f1 < c.f1 ∨ b.f1 = c.f1 ∧ b.f0 < c.f0) := hl
          refine Ev.neg (by simpa using hl') (Ev.of_eq (Ev.now _) ?_)
          simp [goodFrom, hc, hl]
    · have hc' : ¬ (ok1 c.f0 ∧ ok1 c.f1) := hc
      simp only [hc', decide_false, Bool.false_eq_true, if_false]
      refine Ev.of_eq (Ev.now _) ?_
      simp [goodFrom, hc]
theorem implIsShape_ev (l : List Cell) (hs : small l) : Ev (fun k => impl_IsShape.f k l) (shapeB l) := by
  unfold impl_IsShape.f
  refine loop_list l (fun k i (_ : Unit) => impl_IsShape.l0 k l l (l.length : Int) i) (fun pre suf _ => goodFrom pre.getLast? suf && decide (1 ≤ (l.length : Int) ∧ (l.length : Int) ≤ 40)) (fun _ _ => True) ?_ ?_ () trivial
  · intro _ _
    simp only [impl_IsShape.l0, len_lt, if_false]
    refine Ev.of_eq (Ev.if_ (fun _ => Ev.now _) (fun _ => Ev.now _)) ?_
    by_cases h : (l.length : Int) ≥ 1
    · rw [if_pos h]; simp [goodFrom, show 1 ≤ (l.length : Int) from h]
    · rw [if_neg h]; simp [goodFrom, show ¬ 1 ≤ (l.length : Int) from h]
  · intro pre c suf _ hx _ ih
    simp only [impl_IsShape.l0, pre_lt hx, pre_0, if_true, at_pre hx, isCoordinate_eq, Option.bind_some, pre_w hx hs]
    by_cases hc : okC c
    · have hc' : ok1 c.f0 ∧ ok1 c.f1 := hc
      simp only [hc'.1, hc'.2, decide_true, if_true]
      rcases List.eq_nil_or_concat pre with rfl | ⟨L, b, rfl⟩
      · refine Ev.neg (by simp) (Ev.of_eq (ih () trivial) ?_)
        simp [goodFrom, hc]
      · rw [List.concat_eq_append] at hx ih ⊢
        have hx2 : l = L ++ b :: (c :: suf) := by rw [hx]; simp
        have e1 : wrap64 (((L ++ [b]).length : Int) - 1) = (L.length : Int) := by
          unfold small at hs
          rw [hx2] at hs
          simp only [List.length_append, List.length_cons, List.length_nil] at hs ⊢
          rw [w64 (by omega) (by omega)]; omega
        refine Ev.pos (by simp <;> omega) ?_
        simp only [e1, pre_0, if_true, pre_lt hx2, at_pre hx2, compareCells_eq, Option.bind_some]
        by_cases hl : ltC b c
        · refine Ev.neg (fun h => cmpC_ge.1 h hl) (Ev.of_eq (ih () trivial) ?_)
          simp [goodFrom, hc, hl]
        · refine Ev.pos (cmpC_ge.2 hl) (Ev.of_eq (Ev.now _) ?_)
          simp [goodFrom, hc, hl]
    · by_cases h0 : ok1 c.f0
      · have h1 : ¬ ok1 c.f1 := fun h => hc ⟨h0, h⟩
        simp only [h0, h1, decide_true, if_true, decide_false, Bool.false_eq_true, if_false]
        refine Ev.of_eq (Ev.now _) ?_
        simp [goodFrom, hc]
      · simp only [h0, decide_false, Bool.false_eq_true, if_false]
        refine Ev.of_eq (Ev.now _) ?_
        simp [goodFrom, hc]
theorem goodFrom_ok : ∀ (l : List Cell) (p : Option Cell), goodFrom p l = true → ∀ c ∈ l, okC c
  | [], _, _, c, h => by simp at h
  | a :: r, p, hg, c, h => by
    simp only [goodFrom, Bool.and_eq_true, decide_eq_true_eq] at hg
    rcases List.mem_cons.1 h with rfl | h
    · exact hg.1.1
    · exact goodFrom_ok r _ hg.2 c h
theorem ltC_trans {a b c : Cell} (h : ltC a b) (h' : ltC b c) : ltC a c := by unfold ltC at *; omega
theorem goodFrom_lt : ∀ (l : List Cell) (p : Option Cell), goodFrom p l = true → (∀ q, p = some q → ∀ c ∈ l, ltC q c) ∧ l.Pairwise ltC
  | [], _, _ => ⟨fun _ _ c h => by simp at h, List.Pairwise.nil⟩
  | a :: r, p, hg => by
    simp only [goodFrom, Bool.and_eq_true, decide_eq_true_eq] at hg
    obtain ⟨h1, h2⟩ := goodFrom_lt r (some a) hg.2
    have h3 := h1 a rfl
    refine ⟨fun q hq c hc => ?_, List.pairwise_cons.2 ⟨h3, h2⟩⟩
    subst hq
    have h4 : ltC q a := by simpa using hg.1.2
    rcases List.mem_cons.1 hc with rfl | hc
    · exact h4
    · exact ltC_trans h4 (h3 c hc)
theorem goodFrom_of : ∀ (l : List Cell) (p : Option Cell), (∀ c ∈ l, okC c) → (∀ q, p = some q → ∀ c ∈ l, ltC q c) → l.Pairwise ltC → goodFrom p l = true
  | [], _, _, _, _ => rfl
  | a :: r, p, h0, h1, h2 => by
    obtain ⟨h3, h4⟩ := List.pairwise_cons.1 h2
    simp only [goodFrom, Bool.and_eq_true, decide_eq_true_eq]
    refine ⟨⟨h0 a List.mem_cons_self, ?_⟩, goodFrom_of r (some a) (fun c hc => h0 c (List.mem_cons_of_mem _ hc)) (fun q hq c hc => by injection hq with hq; subst hq; exact h3 c hc) h4⟩
    cases p with
    | none => rfl
    | some q => simpa using h1 q rfl a List.mem_cons_self
theorem shapeB_iff {l : List Cell} : shapeB l = true ↔ (∀ c ∈ l, okC c) ∧ l.Pairwise ltC ∧ 1 ≤ l.length ∧ l.length ≤ 40 := by
  unfold shapeB
  rw [Bool.and_eq_true, decide_eq_true_eq]
  constructor
  · rintro ⟨h, h'⟩
    exact ⟨goodFrom_ok l _ h, (goodFrom_lt l _ h).2, by omega, by omega⟩
  · rintro ⟨h1, h2, h3, h4⟩
    exact ⟨goodFrom_of l none h1 (fun _ h => by cases h) h2, by omega, by omega⟩
def minX : Int → List Cell → Int := fun z l => l.foldl (fun m c => mn m c.f0) z
def minY : Int → List Cell → Int := fun z l => l.foldl (fun m c => mn m c.f1) z
def leastOf (l : List Cell) : Int × Int := match l with | [] => (0, 0) | c :: r => (minX c.f0 r, minY c.f1 r)
theorem loop_tail {α σ ρ : Type} (c : α) (r : List α) (l : Nat → Int → σ → Option ρ) (g : List α → List α → σ → ρ) (Inv : List α → σ → Prop)
    (hn : ∀ s, Inv (c :: r) s → Ev (fun k => l (k + 1) ((c :: r).length : Int) s) (g (c :: r) [] s))
    (hs : ∀ (pre : List α) (d : α) (suf : List α) (s : σ), c :: r = pre ++ d :: suf → pre ≠ [] → Inv pre s → (∀ s', Inv (pre ++ [d]) s' → Ev (fun k => l k ((pre.length : Int) + 1) s') (g (pre ++ [d]) suf s')) → Ev (fun k => l (k + 1) (pre.length : Int) s) (g pre (d :: suf) s)) :
    ∀ s, Inv [c] s → Ev (fun k => l k 1 s) (g [c] r s) := by
  have key : ∀ (suf pre : List α), c :: r = pre ++ suf → pre ≠ [] → ∀ s, Inv pre s → Ev (fun k => l k (pre.length : Int) s) (g pre suf s) := by
    intro suf
    induction suf with
    | nil =>
      intro pre hx _ s hi
      rw [List.append_nil] at hx
      subst hx
      exact Ev.succ (hn s hi)
    | cons d suf ih =>
      intro pre hx hp s hi
      refine Ev.succ (hs pre d suf s hx hp hi fun s' hi' => ?_)
      have := ih (pre ++ [d]) (by rw [hx]; simp) (by simp) s' hi'
      rw [List.length_append] at this
      exact this
  intro s hi
  exact key r [c] rfl (by simp) s hi
theorem specLeast_ev (l : List Cell) (hs : small l) (h0 : 0 < l.length) : Ev (fun k => spec_l02Least.f k l) (leastOf l) := by
  unfold spec_l02Least.f
  obtain ⟨c, r, rfl⟩ : ∃ c r, l = c :: r := by cases l with | nil => simp at h0 | cons c r => exact ⟨c, r, rfl⟩
  refine Ev.pos (by simp <;> omega) ?_
  have h1 : rd_T35 (c :: r) 0 = c := rfl
  rw [h1]
  refine loop_tail c r (fun k i (s : Int × Int) => spec_l02Least.l0 k (c :: r) s.1 s.2 i) (fun _ suf s => (minX s.1 suf, minY s.2 suf)) (fun _ _ => True) ?_ ?_ (c.f0, c.f1) trivial
  · rintro s _
    simp only [spec_l02Least.l0, len_lt, if_false]
    exact Ev.now _
  · rintro pre d suf s hx _ _ ih
    simp only [spec_l02Least.l0, pre_lt hx, pre_0, if_true, at_pre hx, pre_w hx hs]
    exact ih (mn s.1 d.f0, mn s.2 d.f1) trivial
theorem minX_le : ∀ (l : List Cell) (z : Int), minX z l ≤ z ∧ (∀ c ∈ l, minX z l ≤ c.f0) ∧ (minX z l = z ∨ ∃ c ∈ l, minX z l = c.f0)
  | [], z => ⟨Int.le_refl _, fun c h => by simp at h, .inl rfl⟩
  | a :: r, z => by
    obtain ⟨h1, h2, h3⟩ := minX_le r (mn z a.f0)
    have h4 : mn z a.f0 ≤ z ∧ mn z a.f0 ≤ a.f0 ∧ (mn z a.f0 = z ∨ mn z a.f0 = a.f0) := by unfold mn; split <;> omega
    have e : minX z (a :: r) = minX (mn z a.f0) r := rfl
    rw [e]
    refine ⟨by omega, fun c hc => ?_, ?_⟩
    · rcases List.mem_cons.1 hc with rfl | hc
      · omega
      · exact h2 c hc
    · rcases h3 with h3 | ⟨c, hc, h3⟩
      · rcases h4.2.2 with h5 | h5
        · exact .inl (h3.trans h5)
        · exact .inr ⟨a, List.mem_cons_self, h3.trans h5⟩
      · exact .inr ⟨c, List.mem_cons_of_mem _ hc, h3⟩
theorem minY_le : ∀ (l : List Cell) (z : Int), minY z l ≤ z ∧ (∀ c ∈ l, minY z l ≤ c.f1) ∧ (minY z l = z ∨ ∃ c ∈ l, minY z l = c.f1)
  | [], z => ⟨Int.le_refl _, fun c h => by simp at h, .inl rfl⟩
  | a :: r, z => by
    obtain ⟨h1, h2, h3⟩ := minY_le r (mn z a.f1)
    have h4 : mn z a.f1 ≤ z ∧ mn z a.f1 ≤ a.f1 ∧ (mn z a.f1 = z ∨ mn z a.f1 = a.f1) := by unfold mn; split <;> omega
    have e : minY z (a :: r) = minY (mn z a.f1) r := rfl
    rw [e]
    refine ⟨by omega, fun c hc => ?_, ?_⟩
    · rcases List.mem_cons.1 hc with rfl | hc
      · omega
      · exact h2 c hc
    · rcases h3 with h3 | ⟨c, hc, h3⟩
      · rcases h4.2.2 with h5 | h5
        · exact .inl (h3.trans h5)
        · exact .inr ⟨a, List.mem_cons_self, h3.trans h5⟩
      · exact .inr ⟨c, List.mem_cons_of_mem _ hc, h3⟩
theorem least_le {l : List Cell} {c : Cell} (h : c ∈ l) : (leastOf l).1 ≤ c.f0 ∧ (leastOf l).2 ≤ c.f1 := by
  cases l with
  | nil => simp at h
  | cons a r =>
    have hx := minX_le r a.f0
    have hy := minY_le r a.f1
    show minX a.f0 r ≤ c.f0 ∧ minY a.f1 r ≤ c.f1
    rcases List.mem_cons.1 h with rfl | h
    · exact ⟨hx.1, hy.1⟩
    · exact ⟨hx.2.1 c h, hy.2.1 c h⟩
theorem least_mem {l : List Cell} (h : l ≠ []) : (∃ c ∈ l, (leastOf l).1 = c.f0) ∧ (∃ c ∈ l, (leastOf l).2 = c.f1) := by
  cases l with
  | nil => exact absurd rfl h
  | cons a r =>
    refine ⟨?_, ?_⟩
    · rcases (minX_le r a.f0).2.2 with e | ⟨c, hc, e⟩
      · exact ⟨a, List.mem_cons_self, e⟩
      · exact ⟨c, List.mem_cons_of_mem _ hc, e⟩
    · rcases (minY_le r a.f1).2.2 with e | ⟨c, hc, e⟩
      · exact ⟨a, List.mem_cons_self, e⟩
      · exact ⟨c, List.mem_cons_of_mem _ hc, e⟩
theorem shape_ne {l : List Cell} (h : shapeB l = true) : l ≠ [] := by
  have := (shapeB_iff.1 h).2.2.1
  intro e
  rw [e] at this
  simp at this
def sameC (a b : Cell) : Bool := decide (a.f0 = b.f0) && decide (a.f1 = b.f1)
theorem sameC_iff {a b : Cell} : sameC a b = true ↔ a = b := by
  obtain ⟨a0, a1⟩ := a
  obtain ⟨b0, b1⟩ := b
  simp [sameC]
def idxF : List Cell → Cell → Int → Int
  | [], _, _ => -1
  | a :: r, c, i => if sameC a c = true then i else idxF r c (i + 1)
def idxC (l : List Cell) (c : Cell) : Int := idxF l c 0
theorem specIndex_ev (l : List Cell) (c : Cell) (hs : small l) : Ev (fun k => spec_l02Index.f k l c.f0 c.f1) (idxC l c) := by
  unfold spec_l02Index.f
  refine loop_list l (fun k i (_ : Unit) => spec_l02Index.l0 k l i c.f0 c.f1) (fun pre suf _ => idxF suf c (pre.length : Int)) (fun _ _ => True) ?_ ?_ () trivial
  · intro _ _
    simp only [spec_l02Index.l0, len_lt, if_false]
    exact Ev.now _
  · intro pre d suf _ hx _ ih
    simp only [spec_l02Index.l0, pre_lt hx, pre_0, if_true, at_pre hx, pre_w hx hs, idxF]
    have e : (d.f0 == c.f0 && d.f1 == c.f1) = sameC d c := by simp [sameC, BEq.beq]
    rw [e]
    refine Ev.if_ (fun _ => Ev.now _) (fun _ => Ev.of_eq (ih () trivial) ?_)
    simp
theorem idxF_spec : ∀ (l : List Cell) (c : Cell) (i : Int), 0 ≤ i → (idxF l c i = -1 ∧ c ∉ l) ∨ (∃ j : Nat, j < l.length ∧ idxF l c i = i + (j : Int) ∧ l[j]? = some c ∧ ∀ q : Nat, q < j → l[q]? ≠ some c)
  | [], c, i, _ => .inl ⟨rfl, by simp⟩
  | a :: r, c, i, hi => by
    unfold idxF
    by_cases h : sameC a c = true
    · rw [if_pos h]
      exact .inr ⟨0, by simp, by simp, by simp [sameC_iff.1 h], fun q hq => by omega⟩
    · rw [if_neg h]
      have hne : a ≠ c := fun e => h (sameC_iff.2 e)
      rcases idxF_spec r c (i + 1) (by omega) with ⟨h1, h2⟩ | ⟨j, h1, h2, h3, h4⟩
      · exact .inl ⟨h1, by simp only [List.mem_cons, not_or]; exact ⟨fun e => hne e.symm, h2⟩⟩
      · refine .inr ⟨j + 1, by simpa using h1, by rw [h2]; simp; omega, by simpa using h3, fun q hq => ?_⟩
        cases q with
        | zero => simpa using hne
        | succ q => simpa using h4 q (by omega)
theorem idxC_spec (l : List Cell) (c : Cell) : (idxC l c = -1 ∧ c ∉ l) ∨ (∃ j : Nat, j < l.length ∧ idxC l c = (j : Int) ∧ l[j]? = some c ∧ ∀ q : Nat, q < j → l[q]? ≠ some c) := by
  rcases idxF_spec l c 0 (Int.le_refl _) with h | ⟨j, h1, h2, h3⟩
  · exact .inl h
  · exact .inr ⟨j, h1, by unfold idxC; rw [h2]; omega, h3⟩
theorem idxC_mem (l : List Cell) (c : Cell) : idxC l c ≥ 0 ↔ c ∈ l := by
  rcases idxC_spec l c with ⟨h1, h2⟩ | ⟨j, h1, h2, h3, _⟩
  · rw [h1]; constructor
    · intro h; omega
    · intro h; exact absurd h h2
  · rw [h2]; constructor
    · intro _; exact List.mem_of_getElem? h3
    · intro _; omega
theorem implIndex_ev (l : List Cell) (c : Cell) (hs : small l) : Ev (fun k => impl_Cell_32.f k l c.f0 c.f1) (idxC l c) := by
  unfold impl_Cell_32.f
  refine loop_list l (fun k i (_ : Unit) => impl_Cell_32.l0 k l (l.length : Int) i c.f0 c.f1) (fun pre suf _ => idxF suf c (pre.length : Int)) (fun _ _ => True) ?_ ?_ () trivial
  · intro _ _
    simp only [impl_Cell_32.l0, len_lt, if_false]
    exact Ev.now _
  · intro pre d suf _ hx _ ih
    simp only [impl_Cell_32.l0, pre_lt hx, pre_0, if_true, at_pre hx, pre_w hx hs, idxF]
    have e : (c.f0 == d.f0 && c.f1 == d.f1) = sameC d c := by
      rw [Bool.eq_iff_iff]
      simp only [sameC, Bool.and_eq_true, beq_iff_eq, decide_eq_true_eq]
      constructor <;> (rintro ⟨h, h'⟩; exact ⟨h.symm, h'.symm⟩)
    rw [e]
    refine Ev.if_ (fun _ => Ev.now _) (fun _ => Ev.of_eq (ih () trivial) ?_)
    simp
theorem implContains_ev (l : List Cell) (c : Cell) (hs : small l) : Ev (fun k => impl_Cell_20.f k l c.f0 c.f1) (decide (idxC l c ≥ 0)) := by
  unfold impl_Cell_20.f
  exact Ev.bind (implIndex_ev l c hs) (Ev.now _)
def hasB (l : List Cell) (q : Cell) : Bool := decide (idxC l q ≥ 0)
def termS (l : List Cell) (p : Cell) : Nat := termB ((nearL p).map (hasB l))
def cornR (l : List Cell) : Int × Int := if shapeB l = true then ((sumP (termS l) (ptsL l) : Int), 0) else (0, 1)
theorem addP_idx (l : List Cell) (p : Cell) : addP l p = if idxC l p < 0 then l ++ [p] else l := by
  unfold addP
  by_cases h : p ∈ l
  · rw [if_pos ((any_same l p).2 h), if_neg (by have := (idxC_mem l p).2 h; omega)]
  · rw [if_neg (fun h' => h ((any_same l p).1 h')), if_pos (by
      rcases idxC_spec l p with ⟨e, _⟩ | ⟨j, _, _, h3, _⟩
      · omega
      · exact absurd (List.mem_of_getElem? h3) h)]
theorem Ev_all {α β : Type} {g : α → Nat → Option β} {r : α → β} : ∀ (xs : List α), (∀ x ∈ xs, Ev (g x) (r x)) → ∃ K, ∀ k, K ≤ k → ∀ x ∈ xs, g x k = some (r x)
  | [], _ => ⟨0, fun _ _ x hx => by cases hx⟩
  | a :: xs, h => by
    obtain ⟨K1, h1⟩ := h a List.mem_cons_self
    obtain ⟨K2, h2⟩ := Ev_all xs fun x hx => h x (List.mem_cons_of_mem _ hx)
    refine ⟨max K1 K2, fun k hk x hx => ?_⟩
    rcases List.mem_cons.1 hx with rfl | hx
    · exact h1 k (by omega)
    · exact h2 k (by omega) x hx
theorem sumP_congr {f g : Cell → Nat} : ∀ (l : List Cell), (∀ p ∈ l, f p = g p) → sumP f l = sumP g l
  | [], _ => rfl
  | a :: r, h => by rw [sumP, sumP, h a List.mem_cons_self, sumP_congr r fun p hp => h p (List.mem_cons_of_mem _ hp)]
theorem wf64C {x : Int} (h : -9223372036854775808 ≤ x) (h' : x ≤ 9223372036854775807) : (Lit.int .i64 x).wf = true := by
  simp only [Lit.wf, IntKind.min, IntKind.max, IntKind.signed, IntKind.bits, Bool.and_eq_true, decide_eq_true_eq, if_true]
  omega
theorem implCorner9_ev (l : List Cell) (hs : small l) : Ev (fun k => impl_CornerCount.f k l) (cornR l) := by
  unfold impl_CornerCount.f cornR
  refine Ev.bind (implIsShape_ev l hs) (Ev.if_ (fun h => ?_) (fun _ => Ev.now _))
  obtain ⟨ho, _, _, hl⟩ := shapeB_iff.1 h
  obtain ⟨K, hK⟩ := Ev_all (g := fun (q : Cell) k => impl_Cell_20.f k l q.f0 q.f1) (r := hasB l) ((ptsL l).map nearL).flatten (fun q _ => implContains_ev l q hs)
  refine ⟨K, fun k hk => ?_⟩
  have hall : ∀ p ∈ ptsL l, ∀ q ∈ nearL p, impl_Cell_20.f k l q.f0 q.f1 = some (hasB l q) := fun p hp q hq => hK k hk q (List.mem_flatten.2 ⟨nearL p, List.mem_map.2 ⟨p, hp, rfl⟩, hq⟩)
  have hw : l.all wf9 = true := List.all_eq_true.2 fun c hc => by
    have := ho c hc
    unfold okC ok1 at this
    unfold wf9
    rw [wf64C (by omega) (by omega), wf64C (by omega) (by omega)]
    rfl
  refine (if_pos (⟨⟨by omega, hw⟩, List.all_eq_true.2 fun p hp => List.all_eq_true.2 fun q hq => by rw [hall p hp q hq]; rfl⟩ : _ ∧ _)).trans ?_
  rw [sumP_congr (g := termS l) (ptsL l) fun p hp => by
    unfold termP termS
    congr 1
    refine List.map_congr_left fun q hq => ?_
    unfold isIn
    rw [hall p hp q hq]
    cases hasB l q <;> rfl]
theorem corner_l1 (l : List Cell) (n i : Int) (y : List Cell) (hy : y.length = 4) {r : Int × Int} : ∀ (suf pre : List Cell) (pts : List Cell), y = pre ++ suf → pts.length + suf.length ≤ 1000000 →
    Ev (fun k => spec_CornerCount.l0 k l n (suf.foldl addP pts) (wrap64 (i + 1))) r → Ev (fun k => spec_CornerCount.l1 k l n pts i y (pre.length : Int)) r
  | [], pre, pts, hx, h1, hc => by
    refine Ev.succ ?_
    have hp := congrArg List.length hx
    simp only [List.length_append, List.length_nil] at hp
    simp only [spec_CornerCount.l1]
    exact Ev.neg (by omega) hc
  | d :: suf, pre, pts, hx, h1, hc => by
    refine Ev.succ ?_
    rw [List.length_cons] at h1
    have hp := pre_len hx
    have ih (q : List Cell) (hq : q.length + suf.length ≤ 1000000) := corner_l1 l n i y hy (r := r) suf (pre ++ [d]) q (by rw [hx]; simp) hq
    simp only [List.length_append, List.length_singleton, Int.natCast_add, Int.natCast_one] at ih
    simp only [spec_CornerCount.l1, pre_lt hx, pre_0, if_true, at_pre hx, pre_w hx (show small y by unfold small; omega)]
    refine Ev.pos (by omega) (Ev.bind (specIndex_ev pts d (by unfold small; omega)) ?_)
    rw [List.foldl_cons, addP_idx] at hc
    by_cases h : idxC pts d < 0
    · rw [if_pos h] at hc
      exact Ev.pos h (Ev.pos (by omega) (ih _ (by rw [List.length_append, List.length_singleton]; omega) hc))
    · rw [if_neg h] at hc
      exact Ev.neg h (ih _ (by omega) hc)
theorem rawL_cons (c : Cell) (l : List Cell) : rawL (c :: l) = cornL c ++ rawL l := rfl
theorem corner_l3 (l pts : List Cell) (hs : small l) (n i : Int) (hn : 0 ≤ n ∧ n ≤ 100000000) (y : List Cell) (hy : y.length = 4) {r : Int × Int} (hc : Ev (fun k => spec_CornerCount.l2 k l (n + (termB (y.map (hasB l)) : Nat)) pts (wrap64 (i + 1))) r) : ∀ (suf pre : List Cell), y = pre ++ suf →
    Ev (fun k => spec_CornerCount.l3 k l n pts i y (pre.map (hasB l)) (cntB (pre.map (hasB l)) : Int) (pre.length : Int)) r
  | [], pre, hx => by
    refine Ev.succ ?_
    rw [List.append_nil] at hx
    subst hx
    have hm : (y.map (hasB l)).length = 4 := by rw [List.length_map, hy]
    have hb := termB_le (y.map (hasB l))
    generalize y.map (hasB l) = bs at hc hm hb ⊢
    simp only [spec_CornerCount.l3]
    refine Ev.neg (by omega) ?_
    have key : ∀ z : Bool, z = decide (cntB bs = 1 ∨ cntB bs = 3) → Ev (fun k => spec_CornerCount.j4 k l n pts i bs (cntB bs : Int) z) r := by
      intro z hz
      refine Ev.succ ?_
      simp only [spec_CornerCount.j4]
      unfold termB at hc
      by_cases h1 : cntB bs = 1 ∨ cntB bs = 3
      · rw [if_pos h1, if_neg (fun h => by omega)] at hc
        rw [decide_eq_true h1] at hz
        refine Ev.pos hz ?_
        rw [w64 (by omega) (by omega)]
        exact hc
      · rw [if_neg h1] at hc
        rw [decide_eq_false h1] at hz
        refine Ev.neg (by rw [hz]; simp) ?_
        by_cases h2 : cntB bs = 2
        · refine Ev.pos (by omega) (Ev.pos (by omega) (Ev.pos (by omega) ?_))
          have e0 : rdOf false bs 0 = bs.getD 0 false := rfl
          have e2 : rdOf false bs 2 = bs.getD 2 false := rfl
          rw [e0, e2]
          by_cases h3 : (bs.getD 0 false == bs.getD 2 false) = true
          · rw [if_pos ⟨h2, h3⟩] at hc
            refine Ev.pos h3 ?_
            rw [w64 (by omega) (by omega)]
            exact hc
          · rw [if_neg (fun h => h3 h.2)] at hc
            refine Ev.neg h3 ?_
            simpa using hc
        · rw [if_neg (fun h => h2 h.1)] at hc
          refine Ev.neg (by omega) ?_
          simpa using hc
    by_cases h1 : (cntB bs : Int) = 1
    · exact Ev.pos h1 (key true (by rw [decide_eq_true]; omega))
    · refine Ev.neg h1 (key _ ?_)
      have e : ((cntB bs : Int) == 3) = decide (cntB bs = 3) := by
        by_cases h3 : cntB bs = 3
        · rw [decide_eq_true h3, h3]; rfl
        · rw [decide_eq_false h3, beq_eq_false_iff_ne]; omega
      rw [e]
      congr 1
      refine propext ⟨fun h => .inr h, fun h => h.elim (fun h' => absurd (by omega) h1) id⟩
  | d :: suf, pre, hx => by
    refine Ev.succ ?_
    have hp := pre_len hx
    have ih := corner_l3 l pts hs n i hn y hy hc suf (pre ++ [d]) (by rw [hx]; simp)
    rw [List.map_append, List.map_singleton, cntB_snoc] at ih
    simp only [List.length_append, List.length_singleton, Int.natCast_add, Int.natCast_one] at ih
    simp only [spec_CornerCount.l3, pre_lt hx, pre_0, if_true, at_pre hx, pre_w hx (show small y by unfold small; omega)]
    refine Ev.pos (by omega) (Ev.bind (specIndex_ev l d hs) (Ev.pos (by rw [List.length_map]; omega) (Ev.bind0 rfl ?_)))
    have hcl := cntB_le (pre.map (hasB l))
    rw [List.length_map] at hcl
    have e : decide (idxC l d ≥ 0) = hasB l d := rfl
    rw [e]
    by_cases h : idxC l d ≥ 0
    · refine Ev.pos h ?_
      rw [w64 (by omega) (by omega)]
      rw [if_pos (show hasB l d = true from decide_eq_true h)] at ih
      exact ih
    · refine Ev.neg h ?_
      rw [if_neg (show ¬ hasB l d = true by unfold hasB; simpa using h)] at ih
      simpa using ih
theorem corner_l2 (l : List Cell) (hs : small l) (pts : List Cell) (hp : pts.length ≤ 1000000) : ∀ (suf pre : List Cell) (n : Nat), pts = pre ++ suf → n ≤ 2 * pre.length →
    Ev (fun k => spec_CornerCount.l2 k l (n : Int) pts (pre.length : Int)) (((n + sumP (termS l) suf : Nat) : Int), 0)
  | [], pre, n, hx, hn => by
    refine Ev.succ ?_
    have h9 := congrArg List.length hx
    simp only [List.length_append, List.length_nil] at h9
    simp only [spec_CornerCount.l2]
    exact Ev.neg (by omega) (Ev.now _)
  | d :: suf, pre, n, hx, hn => by
    refine Ev.succ ?_
    have hl := pre_len hx
    simp only [spec_CornerCount.l2, pre_lt hx, pre_0, if_true, at_pre hx]
    have hb := termB_le ((nearL d).map (hasB l))
    have ih := corner_l2 l hs pts hp suf (pre ++ [d]) (n + termS l d) (by rw [hx]; simp) (by unfold termS; rw [List.length_append, List.length_singleton]; omega)
    simp only [List.length_append, List.length_singleton, Int.natCast_add, Int.natCast_one] at ih
    refine corner_l3 l pts hs (n : Int) _ (by omega) (nearL d) rfl ?_ (nearL d) [] rfl
    rw [pre_w hx (by unfold small; omega)]
    refine Ev.of_eq ih ?_
    rw [sumP]
    congr 1
    omega
theorem specCorner_ev (l : List Cell) (hs : small l) : Ev (fun k => spec_CornerCount.f k l) (cornR l) := by
  unfold spec_CornerCount.f cornR
  refine Ev.bind (specIsShape_ev l hs) (Ev.if_ (fun h => ?_) (fun _ => Ev.now _))
  have hl := (shapeB_iff.1 h).2.2.2
  have key : ∀ (suf pre : List Cell) (pts : List Cell), l = pre ++ suf → pts.length ≤ 4 * pre.length → Ev (fun k => spec_CornerCount.l2 k l 0 ((rawL suf).foldl addP pts) 0) (((sumP (termS l) (ptsL l) : Nat) : Int), 0) →
      Ev (fun k => spec_CornerCount.l0 k l 0 pts (pre.length : Int)) (((sumP (termS l) (ptsL l) : Nat) : Int), 0) := by
    intro suf
    induction suf with
    | nil =>
      intro pre pts hx h1 hc
      refine Ev.succ ?_
      have h9 := congrArg List.length hx
      simp only [List.length_append, List.length_nil] at h9
      simp only [spec_CornerCount.l0]
      exact Ev.neg (by omega) hc
    | cons d suf ih =>
      intro pre pts hx h1 hc
      refine Ev.succ ?_
      have hp := pre_len hx
      simp only [spec_CornerCount.l0, pre_lt hx, pre_0, if_true, at_pre hx]
      refine corner_l1 l 0 _ (cornL d) rfl (cornL d) [] pts rfl (by show pts.length + 4 ≤ _; omega) ?_
      have := ih (pre ++ [d]) ((cornL d).foldl addP pts) (by rw [hx]; simp) (by have h2 := foldP_len (cornL d) pts; have h3 : (cornL d).length = 4 := rfl; rw [List.length_append, List.length_singleton]; omega) (by rw [rawL_cons, List.foldl_append] at hc; exact hc)
      simp only [List.length_append, List.length_singleton, Int.natCast_add, Int.natCast_one] at this
      rw [pre_w hx hs]
      exact this
  refine key l [] [] rfl (Nat.zero_le _) ?_
  have h2 := corner_l2 l hs (ptsL l) (by have := ptsL_len l; omega) (ptsL l) [] 0 rfl (Nat.zero_le _)
  rw [Nat.zero_add] at h2
  exact h2
end Go.Proofs.Ytpoiiaephcddoaa.L
end
section
namespace Go.Proofs.Ytpoiiaephcddoaa.L
open Go.RowKit Go.Proofs.YtpoiiaephcddoaaW.PrintWords Go.Proofs.YtpoiiaephcddoaaW.PrintLast Go.Proofs.YtpoiiaephcddoaaW.PrintMore Go.Proofs.Ytpoiiaephcddoaa.F
set_option linter.unusedVariables false
def aroundC (c : Cell) : List Cell := [⟨c.f0, wrap64 (c.f1 - 1)⟩, ⟨wrap64 (c.f0 - 1), c.f1⟩, ⟨wrap64 (c.f0 + 1), c.f1⟩, ⟨c.f0, wrap64 (c.f1 + 1)⟩]
theorem specAround_eq (c : Cell) : spec_l02Around.f c.f0 c.f1 = some (aroundC c) := rfl
theorem implAround_eq (c : Cell) : impl_around.f c.f0 c.f1 = some (aroundC c) := rfl
end Go.Proofs.Ytpoiiaephcddoaa.L
end
section
namespace Go.Proofs.Ytpoiiaephcddoaa.L
open Go.RowKit Go.Proofs.YtpoiiaephcddoaaW.PrintWords Go.Proofs.YtpoiiaephcddoaaW.PrintLast Go.Proofs.YtpoiiaephcddoaaW.PrintMore Go.Proofs.Ytpoiiaephcddoaa.F
set_option linter.unusedVariables false
set_option linter.unusedSimpArgs false
instance decE (a b : Cell) : Decidable (a = b) := decidable_of_iff (a.f0 = b.f0 ∧ a.f1 = b.f1) ⟨fun h => by obtain ⟨x, y⟩ := a; obtain ⟨z, w⟩ := b; simp only at h; rw [h.1, h.2], fun h => by subst h; exact ⟨rfl, rfl⟩⟩
def sumN {α : Type} : List α → (α → Nat) → Nat
  | [], _ => 0
  | a :: r, f => f a + sumN r f
theorem sumN_congr {α : Type} {f g : α → Nat} : ∀ (l : List α), (∀ a ∈ l, f a = g a) → sumN l f = sumN l g
  | [], _ => rfl
  | a :: r, h => by rw [sumN, sumN, h a List.mem_cons_self, sumN_congr r fun x hx => h x (List.mem_cons_of_mem _ hx)]
theorem sumN_add {α : Type} (f g : α → Nat) : ∀ l : List α, sumN l (fun a => f a + g a) = sumN l f + sumN l g
  | [] => rfl
  | a :: r => by rw [sumN, sumN, sumN, sumN_add f g r]; omega
theorem sumN_zero {α : Type} : ∀ l : List α, sumN l (fun _ => 0) = 0
  | [] => rfl
  | a :: r => by rw [sumN, sumN_zero r]
theorem sumN_swap {α β : Type} (f : α → β → Nat) (m : List β) : ∀ l : List α, sumN l (fun a => sumN m fun b => f a b) = sumN m fun b => sumN l fun a => f a b
  | [] => by
    have : (fun b => sumN ([] : List α) fun a => f a b) = fun _ => 0 := rfl
    rw [this, sumN_zero]; rfl
  | a :: r => by
    rw [sumN, sumN_swap f m r, ← sumN_add]
    rfl
theorem sumN_perm {α : Type} (f : α → Nat) {l m : List α} (h : l.Perm m) : sumN l f = sumN m f := by
  induction h with
  | nil => rfl
  | cons a _ ih => rw [sumN, sumN, ih]
  | swap a b l => simp only [sumN]; omega
  | trans _ _ h1 h2 => rw [h1, h2]
def hasN (l : List Cell) (c : Cell) : Nat := if idxC l c ≥ 0 then 1 else 0
theorem hasN_eq {l m : List Cell} {c d : Cell} (h : c ∈ l ↔ d ∈ m) : hasN l c = hasN m d := by
  unfold hasN
  rw [← idxC_mem, ← idxC_mem] at h
  by_cases g : idxC l c ≥ 0
  · rw [if_pos g, if_pos (h.1 g)]
  · rw [if_neg g, if_neg fun k => g (h.2 k)]
theorem hasN_sum (c : Cell) : ∀ l : List Cell, l.Nodup → hasN l c = sumN l fun b => if b = c then 1 else 0
  | [], _ => by unfold hasN; rw [if_neg]; · rfl
                rw [idxC_mem]; simp
  | a :: r, h => by
    obtain ⟨h1, h2⟩ := List.nodup_cons.1 h
    rw [sumN, ← hasN_sum c r h2]
    unfold hasN
    simp only [idxC_mem, List.mem_cons]
    by_cases e : a = c
    · subst e
      simp [h1]
    · have e' : ¬ c = a := fun k => e k.symm
      simp [e, e']
def cntN (l : List Cell) (x y : Int) : Nat := sumN l fun a => hasN l ⟨a.f0 + x, a.f1 + y⟩
theorem cntN_neg {l : List Cell} (h : l.Nodup) (x y : Int) : cntN l (-x) (-y) = cntN l x y := by
  unfold cntN
  rw [sumN_congr l (g := fun a => sumN l fun b => if b = ⟨a.f0 + -x, a.f1 + -y⟩ then 1 else 0) fun a _ => hasN_sum _ l h]
  rw [sumN_swap (fun a b => if b = (⟨a.f0 + -x, a.f1 + -y⟩ : Cell) then 1 else 0) l l]
  refine sumN_congr l fun b _ => ?_
  rw [hasN_sum _ l h]
  refine sumN_congr l fun a _ => ?_
  have : (b = (⟨a.f0 + -x, a.f1 + -y⟩ : Cell)) ↔ (a = (⟨b.f0 + x, b.f1 + y⟩ : Cell)) := by
    obtain ⟨a0, a1⟩ := a
    obtain ⟨b0, b1⟩ := b
    simp only [S35.mk.injEq]
    omega
  by_cases g : b = (⟨a.f0 + -x, a.f1 + -y⟩ : Cell)
  · rw [if_pos g, if_pos (this.1 g)]
  · rw [if_neg g, if_neg fun k => g (this.2 k)]
def touchN (l : List Cell) : Nat := cntN l 1 0 + cntN l 0 1
theorem hasN_le (l : List Cell) (c : Cell) : hasN l c ≤ 1 := by unfold hasN; split <;> omega
theorem sumN_le {α : Type} (f : α → Nat) (h : ∀ a, f a ≤ 1) : ∀ l : List α, sumN l f ≤ l.length
  | [] => Nat.le_refl _
  | a :: r => by have := sumN_le f h r; have := h a; rw [sumN, List.length_cons]; omega
theorem touch_l1 (l : List Cell) (hs : small l) {r : Int} (x8 : List Cell) (x9 x10 : Int) (y : List Cell) (hy : small y) : ∀ (suf pre : List Cell) (s : Nat), y = pre ++ suf → s + suf.length ≤ 1000000 →
    Ev (fun k => impl_touches.l0 k l ((s + sumN suf (hasN l) : Nat) : Int) x8 x9 (wrap64 (x10 + 1))) r → Ev (fun k => impl_touches.l1 k l (s : Int) x8 x9 x10 y (y.length : Int) (pre.length : Int)) r
  | [], pre, s, hx, h1, hc => by
    refine Ev.succ ?_
    have hp := congrArg List.length hx
    simp only [List.length_append, List.length_nil] at hp
    simp only [impl_touches.l1]
    exact Ev.neg (by omega) hc
  | d :: suf, pre, s, hx, h1, hc => by
    refine Ev.succ ?_
    rw [List.length_cons] at h1
    have ih (t : Nat) (ht : t + suf.length ≤ 1000000) := touch_l1 l hs x8 x9 x10 y hy (r := r) suf (pre ++ [d]) t (by rw [hx]; simp) ht
    simp only [List.length_append, List.length_singleton, Int.natCast_add, Int.natCast_one] at ih
    rw [sumN] at hc
    simp only [impl_touches.l1, pre_lt hx, pre_0, if_true, at_pre hx, pre_w hx hy]
    refine Ev.bind (implContains_ev l d hs) ?_
    by_cases h : idxC l d ≥ 0
    · have hd1 : hasN l d = 1 := by unfold hasN; rw [if_pos h]
      rw [hd1] at hc
      have w3 : wrap64 ((s : Int) + 1) = ((s + 1 : Nat) : Int) := by rw [w64 (by omega) (by omega)]; omega
      refine Ev.pos (by simpa using h) ?_
      rw [w3]
      have := ih (s + 1) (by omega)
      simp only [Int.natCast_add, Int.natCast_one] at this hc ⊢
      refine this ?_
      rw [show (s : Int) + 1 + (sumN suf (hasN l) : Int) = (s : Int) + (1 + (sumN suf (hasN l) : Int)) by omega]
      exact hc
    · have hd0 : hasN l d = 0 := by unfold hasN; rw [if_neg h]
      rw [hd0, Nat.zero_add] at hc
      exact Ev.neg (by simpa using h) (ih s (by omega) hc)
theorem touches_ev (l : List Cell) (hs : small l) (hok : ∀ c ∈ l, okC c) (hl : l.length ≤ 40) : Ev (fun k => impl_touches.f k l) (touchN l : Int) := by
  unfold impl_touches.f
  have := loop_list l (fun k i (s : Int) => impl_touches.l0 k l s l (l.length : Int) i) (fun _ suf s => s + (sumN suf (fun a => hasN l ⟨a.f0 + 1, a.f1 + 0⟩ + hasN l ⟨a.f0 + 0, a.f1 + 1⟩) : Nat)) (fun pre s => ∃ n : Nat, s = (n : Int) ∧ n ≤ 2 * pre.length) ?_ ?_ 0 ⟨0, rfl, by simp⟩
  · refine Ev.of_eq this ?_
    rw [Int.zero_add, sumN_add]
    rfl
  · intro s _
    simp only [impl_touches.l0, len_lt, if_false]
    exact Ev.of_eq (Ev.now _) (by simp [sumN])
  · rintro pre c suf s hx ⟨n, rfl, hn⟩ ih
    have ho := hok c (by rw [hx]; simp)
    unfold okC ok1 at ho
    have hp := pre_len hx
    have e : impl_around.f c.f0 c.f1 = some (aroundC c) := implAround_eq c
    have e1 : wrap64 (c.f0 + 1) = c.f0 + 1 := w64 (by omega) (by omega)
    have e2 : wrap64 (c.f1 + 1) = c.f1 + 1 := w64 (by omega) (by omega)
    simp only [impl_touches.l0, pre_lt hx, pre_0, if_true, at_pre hx]
    refine Ev.bind0 e (Ev.pos (by simp [aroundC]) ?_)
    have hd : (aroundC c).drop (2 : Int).toNat = [⟨c.f0 + 1, c.f1⟩, ⟨c.f0, c.f1 + 1⟩] := by
      unfold aroundC
      rw [e1, e2]
      rfl
    rw [hd]
    refine Ev.bind0 rfl ?_
    refine touch_l1 l hs l _ _ [⟨c.f0 + 1, c.f1⟩, ⟨c.f0, c.f1 + 1⟩] (by unfold small; simp) [⟨c.f0 + 1, c.f1⟩, ⟨c.f0, c.f1 + 1⟩] [] n rfl (by simp; omega) ?_
    rw [pre_w hx hs]
    have h1 := hasN_le l ⟨c.f0 + 1, c.f1⟩
    have h2 := hasN_le l ⟨c.f0, c.f1 + 1⟩
    refine Ev.of_eq (ih _ ⟨_, rfl, ?_⟩) ?_
    · simp only [sumN, List.length_append, List.length_singleton]; omega
    · simp only [sumN, Int.natCast_add, Int.add_zero]; omega
def edgeR (l : List Cell) : Int × Int := if shapeB l = true then (wrap64 (wrap64 (4 * (l.length : Int)) - wrap64 (2 * (touchN l : Int))), 0) else (0, 1)
theorem edge_ev (l : List Cell) (hs : small l) : Ev (fun k => impl_EdgeCount.f k l) (edgeR l) := by
  unfold impl_EdgeCount.f edgeR
  refine Ev.bind (implIsShape_ev l hs) (Ev.if_ (fun h => ?_) (fun _ => Ev.now _))
  obtain ⟨h1, _, _, h4⟩ := shapeB_iff.1 h
  exact Ev.bind (touches_ev l hs h1 h4) (Ev.now _)
theorem sumP_N (f : Cell → Nat) : ∀ l : List Cell, sumP f l = sumN l f
  | [] => rfl
  | a :: r => by rw [sumP, sumN, sumP_N f r]
theorem ltE_nodup {l : List Cell} (h : l.Pairwise ltC) : l.Nodup := h.imp fun {a b} hab e => by subst e; unfold ltC at hab; omega
theorem sumN_mod {f g : Cell → Nat} : ∀ l : List Cell, (∀ p, f p % 2 = g p % 2) → sumN l f % 2 = sumN l g % 2
  | [], _ => rfl
  | a :: r, h => by
    have h1 := sumN_mod r h
    have h2 := h a
    rw [sumN, sumN]
    omega
theorem termB_mod (bs : List Bool) (h : bs.length = 4) : termB bs % 2 = cntB bs % 2 := by
  have := cntB_le bs
  unfold termB
  by_cases h1 : cntB bs = 1 ∨ cntB bs = 3
  · rw [if_pos h1, if_neg (fun h2 => by omega)]
    omega
  · rw [if_neg h1]
    split <;> omega
theorem cnt_sum (l : List Cell) : ∀ qs : List Cell, cntB (qs.map (hasB l)) = sumN qs (hasN l)
  | [] => rfl
  | a :: r => by
    rw [List.map_cons, cntB, sumN, cnt_sum l r]
    unfold hasB hasN
    by_cases h : idxC l a ≥ 0
    · rw [if_pos (decide_eq_true h), if_pos h]
    · rw [if_neg (by simpa using h), if_neg h]
theorem sumN_ones {α : Type} : ∀ l : List α, sumN l (fun _ => 4) = 4 * l.length
  | [] => rfl
  | a :: r => by rw [sumN, sumN_ones r, List.length_cons]; omega
def okW (p : Cell) : Prop := -1000 ≤ p.f0 ∧ p.f0 ≤ 1000 ∧ -1000 ≤ p.f1 ∧ p.f1 ≤ 1000
theorem nearL_w {p : Cell} (h : okW p) : nearL p = [⟨p.f0 - 1, p.f1 - 1⟩, ⟨p.f0, p.f1 - 1⟩, ⟨p.f0, p.f1⟩, ⟨p.f0 - 1, p.f1⟩] := by
  unfold okW at h
  unfold nearL
  rw [w64 (n := p.f0 - 1) (by omega) (by omega), w64 (n := p.f1 - 1) (by omega) (by omega)]
theorem cornL_w {c : Cell} (h : okC c) : cornL c = [c, ⟨c.f0 + 1, c.f1⟩, ⟨c.f0, c.f1 + 1⟩, ⟨c.f0 + 1, c.f1 + 1⟩] := by
  unfold okC ok1 at h
  unfold cornL
  rw [w64 (n := c.f0 + 1) (by omega) (by omega), w64 (n := c.f1 + 1) (by omega) (by omega)]
theorem one_iff {a b c d : Cell} (h : a = b ↔ c = d) : (if a = b then 1 else 0 : Nat) = if c = d then 1 else 0 := by
  by_cases g : a = b
  · rw [if_pos g, if_pos (h.1 g)]
  · rw [if_neg g, if_neg fun k => g (h.2 k)]
theorem near_corn {c p : Cell} (hc : okC c) (hp : okW p) : sumN (nearL p) (fun q => if c = q then 1 else 0) = sumN (cornL c) (fun e => if p = e then 1 else 0) := by
  rw [nearL_w hp, cornL_w hc]
  obtain ⟨c0, c1⟩ := c
  obtain ⟨p0, p1⟩ := p
  simp only [sumN]
  have h0 : (if (⟨c0, c1⟩ : Cell) = ⟨p0 - 1, p1 - 1⟩ then 1 else 0 : Nat) = if (⟨p0, p1⟩ : Cell) = ⟨c0 + 1, c1 + 1⟩ then 1 else 0 := one_iff (by simp only [S35.mk.injEq]; omega)
  have h1 : (if (⟨c0, c1⟩ : Cell) = ⟨p0, p1 - 1⟩ then 1 else 0 : Nat) = if (⟨p0, p1⟩ : Cell) = ⟨c0, c1 + 1⟩ then 1 else 0 := one_iff (by simp only [S35.mk.injEq]; omega)
  have h2 : (if (⟨c0, c1⟩ : Cell) = ⟨p0, p1⟩ then 1 else 0 : Nat) = if (⟨p0, p1⟩ : Cell) = ⟨c0, c1⟩ then 1 else 0 := one_iff (by simp only [S35.mk.injEq]; omega)
  have h3 : (if (⟨c0, c1⟩ : Cell) = ⟨p0 - 1, p1⟩ then 1 else 0 : Nat) = if (⟨p0, p1⟩ : Cell) = ⟨c0 + 1, c1⟩ then 1 else 0 := one_iff (by simp only [S35.mk.injEq]; omega)
  rw [h0, h1, h2, h3]
  omega
theorem pts_okW {l : List Cell} (ho : ∀ c ∈ l, okC c) {p : Cell} (hp : p ∈ ptsL l) : okW p := by
  rw [ptsL_mem] at hp
  unfold rawL at hp
  obtain ⟨x, hx, hp⟩ := List.mem_flatten.1 hp
  obtain ⟨c, hc, rfl⟩ := List.mem_map.1 hx
  have h := ho c hc
  rw [cornL_w h] at hp
  unfold okC ok1 at h
  unfold okW
  simp only [List.mem_cons, List.not_mem_nil, or_false] at hp
  rcases hp with rfl | rfl | rfl | rfl <;> (try simp only) <;> omega
theorem corn_mem {l : List Cell} {c e : Cell} (hc : c ∈ l) (he : e ∈ cornL c) : e ∈ ptsL l := (ptsL_mem l e).2 (List.mem_flatten.2 ⟨cornL c, List.mem_map.2 ⟨c, hc, rfl⟩, he⟩)
theorem cnt_total {l : List Cell} (ho : ∀ c ∈ l, okC c) (hn : l.Nodup) : sumN (ptsL l) (fun p => sumN (nearL p) (hasN l)) = 4 * l.length := by
  have e1 : ∀ p ∈ ptsL l, sumN (nearL p) (hasN l) = sumN l fun c => sumN (cornL c) fun e => if p = e then 1 else 0 := fun p hp => by
    rw [sumN_congr (nearL p) (g := fun q => sumN l fun b => if b = q then 1 else 0) fun q _ => hasN_sum q l hn, sumN_swap (fun q b => if b = q then 1 else 0) l (nearL p)]
    exact sumN_congr l fun c hc => near_corn (ho c hc) (pts_okW ho hp)
  rw [sumN_congr _ e1, sumN_swap (fun p c => sumN (cornL c) fun e => if p = e then 1 else 0) l (ptsL l)]
  rw [sumN_congr l (g := fun _ => 4) fun c hc => ?_, sumN_ones]
  rw [sumN_swap (fun p e => if p = e then 1 else 0) (cornL c) (ptsL l), sumN_congr (cornL c) (g := fun _ => 1) fun e he => ?_]
  · rfl
  · rw [← hasN_sum e (ptsL l) (ptsL_nodup l)]
    unfold hasN
    rw [if_pos ((idxC_mem _ _).2 (corn_mem hc he))]
theorem corn_even {l : List Cell} (h : shapeB l = true) : sumP (termS l) (ptsL l) % 2 = 0 := by
  obtain ⟨ho, hp, _, _⟩ := shapeB_iff.1 h
  rw [sumP_N, sumN_mod (g := fun p => sumN (nearL p) (hasN l)) (ptsL l) (fun p => ?_), cnt_total ho (ltE_nodup hp)]
  · omega
  · unfold termS
    rw [termB_mod _ rfl, cnt_sum]
theorem sum_ge {f : Cell → Nat} : ∀ (qs pts : List Cell), qs.Nodup → (∀ q ∈ qs, q ∈ pts ∧ 1 ≤ f q) → qs.length ≤ sumN pts f
  | [], _, _, _ => Nat.zero_le _
  | q :: qs, pts, hn, h => by
    obtain ⟨r, hr⟩ := perm_drop (h q List.mem_cons_self).1
    have hn' := List.nodup_cons.1 hn
    have ih := sum_ge (f := f) qs r hn'.2 fun x hx => by
      have h1 := h x (List.mem_cons_of_mem _ hx)
      refine ⟨?_, h1.2⟩
      rcases List.mem_cons.1 (hr.mem_iff.1 h1.1) with rfl | h2
      · exact absurd hx hn'.1
      · exact h2
    have h1 := (h q List.mem_cons_self).2
    rw [sumN_perm f hr, sumN, List.length_cons]
    omega
theorem ex_max (f : Cell → Int) : ∀ l : List Cell, l ≠ [] → ∃ c ∈ l, ∀ d ∈ l, f d ≤ f c
  | [], h => absurd rfl h
  | [a], _ => ⟨a, List.mem_cons_self, fun d hd => by rw [List.mem_singleton] at hd; rw [hd]; exact Int.le_refl _⟩
  | a :: b :: r, _ => by
    obtain ⟨c, hc, h⟩ := ex_max f (b :: r) (by simp)
    by_cases g : f a ≤ f c
    · exact ⟨c, List.mem_cons_of_mem _ hc, fun d hd => (List.mem_cons.1 hd).elim (fun e => e ▸ g) (h d)⟩
    · exact ⟨a, List.mem_cons_self, fun d hd => (List.mem_cons.1 hd).elim (fun e => by rw [e]; exact Int.le_refl _) (fun h' => by have := h d h'; omega)⟩
theorem hasB_no {l : List Cell} {q : Cell} (h : q ∉ l) : hasB l q = false := by
  unfold hasB
  exact decide_eq_false fun g => h ((idxC_mem l q).1 g)
theorem hasB_yes {l : List Cell} {q : Cell} (h : q ∈ l) : hasB l q = true := by
  unfold hasB
  exact decide_eq_true ((idxC_mem l q).2 h)
theorem term_ne {l : List Cell} {p : Cell} (hp : okW p) (h : (⟨p.f0 - 1, p.f1 - 1⟩ : Cell) ∈ l ∧ (⟨p.f0, p.f1 - 1⟩ : Cell) ∉ l ∧ (⟨p.f0, p.f1⟩ : Cell) ∉ l ∧ (⟨p.f0 - 1, p.f1⟩ : Cell) ∉ l ∨ (⟨p.f0 - 1, p.f1 - 1⟩ : Cell) ∉ l ∧ (⟨p.f0, p.f1 - 1⟩ : Cell) ∈ l ∧ (⟨p.f0, p.f1⟩ : Cell) ∉ l ∧ (⟨p.f0 - 1, p.f1⟩ : Cell) ∉ l ∨
    (⟨p.f0 - 1, p.f1 - 1⟩ : Cell) ∉ l ∧ (⟨p.f0, p.f1 - 1⟩ : Cell) ∉ l ∧ (⟨p.f0, p.f1⟩ : Cell) ∈ l ∧ (⟨p.f0 - 1, p.f1⟩ : Cell) ∉ l ∨ (⟨p.f0 - 1, p.f1 - 1⟩ : Cell) ∉ l ∧ (⟨p.f0, p.f1 - 1⟩ : Cell) ∉ l ∧ (⟨p.f0, p.f1⟩ : Cell) ∉ l ∧ (⟨p.f0 - 1, p.f1⟩ : Cell) ∈ l) : 1 ≤ termS l p := by
  unfold termS
  rw [nearL_w hp]
  simp only [List.map_cons, List.map_nil]
  rcases h with ⟨h0, h1, h2, h3⟩ | ⟨h0, h1, h2, h3⟩ | ⟨h0, h1, h2, h3⟩ | ⟨h0, h1, h2, h3⟩
  · rw [hasB_yes h0, hasB_no h1, hasB_no h2, hasB_no h3]; decide
  · rw [hasB_no h0, hasB_yes h1, hasB_no h2, hasB_no h3]; decide
  · rw [hasB_no h0, hasB_no h1, hasB_yes h2, hasB_no h3]; decide
  · rw [hasB_no h0, hasB_no h1, hasB_no h2, hasB_yes h3]; decide
theorem corn_four {l : List Cell} (h : shapeB l = true) : 4 ≤ sumP (termS l) (ptsL l) := by
  have h0 := shape_ne h
  obtain ⟨ho, _, _, _⟩ := shapeB_iff.1 h
  obtain ⟨a, ha, ma⟩ := ex_max (fun c => -1000 * c.f1 - c.f0) l h0
  obtain ⟨b, hb, mb⟩ := ex_max (fun c => -1000 * c.f1 + c.f0) l h0
  obtain ⟨c, hc, mc⟩ := ex_max (fun c => 1000 * c.f1 - c.f0) l h0
  obtain ⟨d, hd, md⟩ := ex_max (fun c => 1000 * c.f1 + c.f0) l h0
  have oa := ho a ha
  have ob := ho b hb
  have oc := ho c hc
  have od := ho d hd
  have ab := ma b hb
  have ac := ma c hc
  have ba := mb a ha
  have bd := mb d hd
  have ca := mc a ha
  have cd := mc d hd
  have dc := md c hc
  have db := md b hb
  unfold okC ok1 at oa ob oc od
  have na : ∀ x y : Int, -1000 * y - x > -1000 * a.f1 - a.f0 → (⟨x, y⟩ : Cell) ∉ l := fun x y g hm => by have := ma _ hm; simp only at this; omega
  have nb : ∀ x y : Int, -1000 * y + x > -1000 * b.f1 + b.f0 → (⟨x, y⟩ : Cell) ∉ l := fun x y g hm => by have := mb _ hm; simp only at this; omega
  have nc : ∀ x y : Int, 1000 * y - x > 1000 * c.f1 - c.f0 → (⟨x, y⟩ : Cell) ∉ l := fun x y g hm => by have := mc _ hm; simp only at this; omega
  have nd : ∀ x y : Int, 1000 * y + x > 1000 * d.f1 + d.f0 → (⟨x, y⟩ : Cell) ∉ l := fun x y g hm => by have := md _ hm; simp only at this; omega
  have ea : ∀ x y : Int, x = a.f0 → y = a.f1 → (⟨x, y⟩ : Cell) ∈ l := fun x y e e' => by rw [e, e']; exact ha
  have eb : ∀ x y : Int, x = b.f0 → y = b.f1 → (⟨x, y⟩ : Cell) ∈ l := fun x y e e' => by rw [e, e']; exact hb
  have ec : ∀ x y : Int, x = c.f0 → y = c.f1 → (⟨x, y⟩ : Cell) ∈ l := fun x y e e' => by rw [e, e']; exact hc
  have ed : ∀ x y : Int, x = d.f0 → y = d.f1 → (⟨x, y⟩ : Cell) ∈ l := fun x y e e' => by rw [e, e']; exact hd
  rw [sumP_N]
  refine sum_ge [a, ⟨b.f0 + 1, b.f1⟩, ⟨c.f0, c.f1 + 1⟩, ⟨d.f0 + 1, d.f1 + 1⟩] (ptsL l) ?_ ?_
  · obtain ⟨a0, a1⟩ := a
    simp only [List.nodup_cons, List.mem_cons, List.not_mem_nil, or_false, not_or, S35.mk.injEq, not_false_eq_true, List.nodup_nil, and_true]
    simp only at oa ab ac ba ca
    omega
  · intro q hq
    simp only [List.mem_cons, List.not_mem_nil, or_false] at hq
    rcases hq with rfl | rfl | rfl | rfl
    · refine ⟨corn_mem ha (by rw [cornL_w (ho _ ha)]; simp), term_ne (by unfold okW; omega) (.inr (.inr (.inl ⟨na _ _ (by omega), na _ _ (by omega), ha, na _ _ (by omega)⟩)))⟩
    · refine ⟨corn_mem hb (by rw [cornL_w (ho _ hb)]; simp), term_ne (by unfold okW; simp only; omega) (.inr (.inr (.inr ⟨nb _ _ (by simp only; omega), nb _ _ (by simp only; omega), nb _ _ (by simp only; omega), eb _ _ (by simp only; omega) rfl⟩)))⟩
    · refine ⟨corn_mem hc (by rw [cornL_w (ho _ hc)]; simp), term_ne (by unfold okW; simp only; omega) (.inr (.inl ⟨nc _ _ (by simp only; omega), ec _ _ rfl (by simp only; omega), nc _ _ (by simp only; omega), nc _ _ (by simp only; omega)⟩))⟩
    · refine ⟨corn_mem hd (by rw [cornL_w (ho _ hd)]; simp), term_ne (by unfold okW; simp only; omega) (.inl ⟨ed _ _ (by simp only; omega) (by simp only; omega), nd _ _ (by simp only; omega), nd _ _ (by simp only; omega), nd _ _ (by simp only; omega)⟩)⟩
def outN (l : List Cell) (d : Cell) : Nat := if idxC l d < 0 then 1 else 0
theorem out_has (l : List Cell) (d : Cell) : outN l d + hasN l d = 1 := by
  unfold outN hasN
  by_cases h : idxC l d < 0
  · rw [if_pos h, if_neg (by omega)]
  · rw [if_neg h, if_pos (by omega)]
def edgeN (l : List Cell) : Nat := sumN l fun c => sumN (aroundC c) (outN l)
theorem edge_sum (l : List Cell) : ∀ qs : List Cell, sumN qs (outN l) + sumN qs (hasN l) = qs.length
  | [] => rfl
  | a :: r => by
    have h1 := edge_sum l r
    have h2 := out_has l a
    rw [sumN, sumN, List.length_cons]
    omega
theorem edge_touch {l : List Cell} (h : shapeB l = true) : edgeN l + 2 * touchN l = 4 * l.length := by
  obtain ⟨ho, hp, _, _⟩ := shapeB_iff.1 h
  have hn := ltE_nodup hp
  have e1 : sumN l (fun c => sumN (aroundC c) (hasN l)) = 2 * touchN l := by
    have e2 : sumN l (fun c => sumN (aroundC c) (hasN l)) = sumN l fun c => (hasN l ⟨c.f0 + -0, c.f1 + -1⟩ + hasN l ⟨c.f0 + -1, c.f1 + -0⟩) + (hasN l ⟨c.f0 + 1, c.f1 + 0⟩ + hasN l ⟨c.f0 + 0, c.f1 + 1⟩) := sumN_congr l fun c hc => by
      have := ho c hc
      unfold okC ok1 at this
      unfold aroundC
      rw [w64 (n := c.f1 - 1) (by omega) (by omega), w64 (n := c.f0 - 1) (by omega) (by omega), w64 (n := c.f0 + 1) (by omega) (by omega), w64 (n := c.f1 + 1) (by omega) (by omega)]
      simp only [sumN, Int.neg_zero, Int.add_zero, Int.sub_eq_add_neg]
      omega
    rw [e2, sumN_add, sumN_add, sumN_add]
    have h1 := cntN_neg hn 0 1
    have h2 := cntN_neg hn 1 0
    unfold cntN at h1 h2
    unfold touchN cntN
    omega
  have e3 : sumN l (fun c => sumN (aroundC c) (outN l) + sumN (aroundC c) (hasN l)) = sumN l fun _ => 4 := sumN_congr l fun c _ => by rw [edge_sum]; rfl
  rw [sumN_add, sumN_ones, e1] at e3
  exact e3
theorem edges_l1 (l : List Cell) (hs : small l) {r : Int} (i : Int) (y : List Cell) (hy : y.length = 4) : ∀ (suf pre : List Cell) (s : Nat), y = pre ++ suf → s + suf.length ≤ 1000000 →
    Ev (fun k => spec_l06Edges.l0 k l ((s + sumN suf (outN l) : Nat) : Int) (wrap64 (i + 1))) r → Ev (fun k => spec_l06Edges.l1 k l (s : Int) i y (pre.length : Int)) r
  | [], pre, s, hx, h1, hc => by
    refine Ev.succ ?_
    have hp := congrArg List.length hx
    simp only [List.length_append, List.length_nil] at hp
    simp only [spec_l06Edges.l1]
    exact Ev.neg (by omega) hc
  | d :: suf, pre, s, hx, h1, hc => by
    refine Ev.succ ?_
    rw [List.length_cons] at h1
    have hp := pre_len hx
    have ih (t : Nat) (ht : t + suf.length ≤ 1000000) := edges_l1 l hs (r := r) i y hy suf (pre ++ [d]) t (by rw [hx]; simp) ht
    simp only [List.length_append, List.length_singleton, Int.natCast_add, Int.natCast_one] at ih
    rw [sumN] at hc
    simp only [spec_l06Edges.l1, pre_lt hx, pre_0, if_true, at_pre hx, pre_w hx (show small y by unfold small; omega)]
    refine Ev.pos (by omega) (Ev.bind (specIndex_ev l d hs) ?_)
    by_cases h : idxC l d < 0
    · have hd1 : outN l d = 1 := by unfold outN; rw [if_pos h]
      rw [hd1] at hc
      have w3 : wrap64 ((s : Int) + 1) = ((s + 1 : Nat) : Int) := by rw [w64 (by omega) (by omega)]; omega
      refine Ev.pos h ?_
      rw [w3]
      have := ih (s + 1) (by omega)
      simp only [Int.natCast_add, Int.natCast_one] at this hc ⊢
      refine this ?_
      rw [show (s : Int) + 1 + (sumN suf (outN l) : Int) = (s : Int) + (1 + (sumN suf (outN l) : Int)) by omega]
      exact hc
    · have hd0 : outN l d = 0 := by unfold outN; rw [if_neg h]
      rw [hd0, Nat.zero_add] at hc
      exact Ev.neg h (ih s (by omega) hc)
theorem outN_le (l : List Cell) (d : Cell) : outN l d ≤ 1 := by unfold outN; split <;> omega
theorem specEdges_ev (l : List Cell) (hs : small l) (hl : l.length ≤ 40) : Ev (fun k => spec_l06Edges.f k l) (edgeN l : Int) := by
  unfold spec_l06Edges.f
  have := loop_list l (fun k i (s : Int) => spec_l06Edges.l0 k l s i) (fun _ suf s => s + (sumN suf (fun c => sumN (aroundC c) (outN l)) : Nat)) (fun pre s => ∃ n : Nat, s = (n : Int) ∧ n ≤ 4 * pre.length) ?_ ?_ 0 ⟨0, rfl, by simp⟩
  · refine Ev.of_eq this ?_
    rw [Int.zero_add]
    rfl
  · intro s _
    simp only [spec_l06Edges.l0, len_lt, if_false]
    exact Ev.of_eq (Ev.now _) (by simp [sumN])
  · rintro pre c suf s hx ⟨n, rfl, hn⟩ ih
    have hp := pre_len hx
    have hb := sumN_le (outN l) (outN_le l) (aroundC c)
    have h4 : (aroundC c).length = 4 := rfl
    simp only [spec_l06Edges.l0, pre_lt hx, pre_0, if_true, at_pre hx]
    refine Ev.bind0 (specAround_eq c) (edges_l1 l hs _ (aroundC c) rfl (aroundC c) [] n rfl (by omega) ?_)
    rw [pre_w hx hs]
    refine Ev.of_eq (ih _ ⟨_, rfl, ?_⟩) ?_
    · rw [List.length_append, List.length_singleton]; omega
    · rw [sumN, Int.natCast_add, Int.natCast_add]; omega
def specER (l : List Cell) : Int × Int := if shapeB l = true then ((edgeN l : Int), 0) else (0, 1)
theorem specEdge_ev (l : List Cell) (hs : small l) : Ev (fun k => spec_EdgeCount.f k l) (specER l) := by
  unfold spec_EdgeCount.f specER
  refine Ev.bind (specIsShape_ev l hs) (Ev.if_ (fun h => ?_) (fun _ => Ev.now _))
  exact Ev.bind (specEdges_ev l hs (shapeB_iff.1 h).2.2.2) (Ev.now _)
theorem edgeR_eq (l : List Cell) : edgeR l = specER l := by
  unfold edgeR specER
  by_cases h : shapeB l = true
  · rw [if_pos h, if_pos h]
    have h1 := edge_touch h
    have h2 := (shapeB_iff.1 h).2.2.2
    rw [w64 (n := 4 * (l.length : Int)) (by omega) (by omega), w64 (n := 2 * (touchN l : Int)) (by omega) (by omega), w64 (by omega) (by omega)]
    congr 1
    omega
  · rw [if_neg h, if_neg h]
def nearB (c d : Cell) : Bool := decide (c.f0 - d.f0 = 1 ∧ c.f1 = d.f1 ∨ c.f0 - d.f0 = -1 ∧ c.f1 = d.f1 ∨ c.f0 = d.f0 ∧ c.f1 - d.f1 = 1 ∨ c.f0 = d.f0 ∧ c.f1 - d.f1 = -1)
def nearN (c d : Cell) : Nat := if nearB c d = true then 1 else 0
def pairN : List Cell → List Cell → Nat
  | _, [] => 0
  | pre, c :: suf => sumN pre (nearN c) + pairN (pre ++ [c]) suf
def absI (n : Int) : Int := if n < 0 then -n else n
theorem abs_eq {n : Int} (h : -1000 ≤ n ∧ n ≤ 1000) : spec_l01Abs.f n = some (absI n) := by
  unfold spec_l01Abs.f absI
  rw [w64 (by omega) (by omega)]
  unfold mx
  congr 1
  split <;> split <;> omega
theorem abs_w {x y : Int} (h : -1000 ≤ x ∧ x ≤ 1000) (h' : -1000 ≤ y ∧ y ≤ 1000) : wrap64 (absI x + absI y) = absI x + absI y := by
  unfold absI
  exact w64 (by split <;> split <;> omega) (by split <;> split <;> omega)
theorem near_iff (c d : Cell) : absI (c.f0 - d.f0) + absI (c.f1 - d.f1) = 1 ↔ nearB c d = true := by
  unfold absI nearB
  rw [decide_eq_true_iff]
  constructor
  · split <;> split <;> omega
  · split <;> split <;> omega
theorem touchS_l1 (l : List Cell) (hs : small l) (ho : ∀ c ∈ l, okC c) {r : Int × Int} (pre0 : List Cell) (c : Cell) (suf0 : List Cell) (hl : l = pre0 ++ c :: suf0) : ∀ (b a : List Cell) (s : Nat), pre0 = a ++ b → s + b.length ≤ 1000000 →
    Ev (fun k => spec_TouchCount.l0 k l ((s + sumN b (nearN c) : Nat) : Int) (wrap64 ((pre0.length : Int) + 1))) r → Ev (fun k => spec_TouchCount.l1 k l (s : Int) (pre0.length : Int) (a.length : Int)) r
  | [], a, s, hx, h1, hc => by
    refine Ev.succ ?_
    have hp := congrArg List.length hx
    simp only [List.length_append, List.length_nil] at hp
    simp only [spec_TouchCount.l1]
    exact Ev.neg (by omega) hc
  | d :: b, a, s, hx, h1, hc => by
    refine Ev.succ ?_
    rw [List.length_cons] at h1
    have ih (t : Nat) (ht : t + b.length ≤ 1000000) := touchS_l1 l hs ho (r := r) pre0 c suf0 hl b (a ++ [d]) t (by rw [hx]; simp) ht
    simp only [List.length_append, List.length_singleton, Int.natCast_add, Int.natCast_one] at ih
    have hx2 : l = a ++ d :: (b ++ c :: suf0) := by rw [hl, hx]; simp
    have hlen := congrArg List.length hx
    simp only [List.length_append, List.length_cons] at hlen
    have hc1 := ho c (by rw [hl]; simp)
    have hd1 := ho d (by rw [hx2]; simp)
    unfold okC ok1 at hc1 hd1
    rw [sumN] at hc
    have hlt : ((a.length : Int) < (pre0.length : Int)) = True := by simp; omega
    simp only [spec_TouchCount.l1, hlt, pre_lt hl, pre_lt hx2, pre_0, if_true, at_pre hl, at_pre hx2, pre_w hx2 hs]
    rw [w64 (n := c.f0 - d.f0) (by omega) (by omega), w64 (n := c.f1 - d.f1) (by omega) (by omega)]
    refine Ev.bind0 (abs_eq (by omega)) (Ev.bind0 (abs_eq (by omega)) ?_)
    rw [abs_w (by omega) (by omega)]
    have hiff := near_iff c d
    by_cases h : nearB c d = true
    · have hd1 : nearN c d = 1 := by unfold nearN; rw [if_pos h]
      rw [hd1] at hc
      have w3 : wrap64 ((s : Int) + 1) = ((s + 1 : Nat) : Int) := by rw [w64 (by omega) (by omega)]; omega
      refine Ev.pos (hiff.2 h) ?_
      rw [w3]
      have := ih (s + 1) (by omega)
      simp only [Int.natCast_add, Int.natCast_one] at this hc ⊢
      refine this ?_
      rw [show (s : Int) + 1 + (sumN b (nearN c) : Int) = (s : Int) + (1 + (sumN b (nearN c) : Int)) by omega]
      exact hc
    · have hd0 : nearN c d = 0 := by unfold nearN; rw [if_neg h]
      rw [hd0, Nat.zero_add] at hc
      exact Ev.neg (fun h' => h (hiff.1 h')) (ih s (by omega) hc)
theorem nearN_le (c d : Cell) : nearN c d ≤ 1 := by unfold nearN; split <;> omega
theorem touchS_l0 (l : List Cell) (hs : small l) (ho : ∀ c ∈ l, okC c) (hl : l.length ≤ 40) : ∀ (suf pre : List Cell) (s : Nat), l = pre ++ suf → s ≤ 40 * pre.length → Ev (fun k => spec_TouchCount.l0 k l (s : Int) (pre.length : Int)) (((s + pairN pre suf : Nat) : Int), 0)
  | [], pre, s, hx, h1 => by
    refine Ev.succ ?_
    have h9 := congrArg List.length hx
    simp only [List.length_append, List.length_nil] at h9
    simp only [spec_TouchCount.l0]
    exact Ev.neg (by omega) (Ev.now _)
  | c :: suf, pre, s, hx, h1 => by
    refine Ev.succ ?_
    have hp := pre_len hx
    have hb := sumN_le (nearN c) (nearN_le c) pre
    simp only [spec_TouchCount.l0, pre_lt hx, if_true]
    refine touchS_l1 l hs ho pre c suf hx pre [] s rfl (by omega) ?_
    rw [pre_w hx hs]
    have ih := touchS_l0 l hs ho hl suf (pre ++ [c]) (s + sumN pre (nearN c)) (by rw [hx]; simp) (by rw [List.length_append, List.length_singleton]; omega)
    simp only [List.length_append, List.length_singleton, Int.natCast_add, Int.natCast_one] at ih ⊢
    refine Ev.of_eq ih ?_
    rw [pairN]
    congr 1
    omega
theorem pair_touch {l : List Cell} (hp : l.Pairwise ltC) : ∀ (suf pre : List Cell), l = pre ++ suf → pairN pre suf = sumN suf fun c => hasN l ⟨c.f0 + -1, c.f1 + -0⟩ + hasN l ⟨c.f0 + -0, c.f1 + -1⟩
  | [], pre, hx => rfl
  | c :: suf, pre, hx => by
    rw [pairN, sumN, pair_touch hp suf (pre ++ [c]) (by rw [hx]; simp)]
    congr 1
    have hp' := hp
    rw [hx, List.pairwise_append] at hp'
    obtain ⟨h1, h2, h3⟩ := hp'
    have h4 := (List.pairwise_cons.1 h2).1
    have hlt : ∀ d ∈ pre, ltC d c := fun d hd => h3 d hd c List.mem_cons_self
    have hn := ltE_nodup h1
    have key : ∀ e : Cell, ltC e c → hasN l e = hasN pre e := fun e he => hasN_eq (by
      rw [hx, List.mem_append]
      constructor
      · rintro (h | h)
        · exact h
        · rcases List.mem_cons.1 h with rfl | h
          · unfold ltC at he; omega
          · have := h4 e h
            unfold ltC at this he
            omega
      · exact .inl)
    rw [key _ (by unfold ltC; simp only; omega), key _ (by unfold ltC; simp only; omega), hasN_sum _ pre hn, hasN_sum _ pre hn, ← sumN_add]
    refine sumN_congr pre fun d hd => ?_
    have hd1 := hlt d hd
    obtain ⟨d0, d1⟩ := d
    obtain ⟨c0, c1⟩ := c
    unfold ltC at hd1
    unfold nearN nearB
    simp only [S35.mk.injEq, decide_eq_true_eq] at hd1 ⊢
    by_cases a1 : d0 = c0 + -1 ∧ d1 = c1 + -0
    · rw [if_pos (by omega), if_pos a1, if_neg (by omega)]
    · by_cases a2 : d0 = c0 + -0 ∧ d1 = c1 + -1
      · rw [if_pos (by omega), if_neg a1, if_pos a2]
      · rw [if_neg (by omega), if_neg a1, if_neg a2]
def touchR (l : List Cell) : Int × Int := if shapeB l = true then ((touchN l : Int), 0) else (0, 1)
theorem specTouch_ev (l : List Cell) (hs : small l) : Ev (fun k => spec_TouchCount.f k l) (touchR l) := by
  unfold spec_TouchCount.f touchR
  refine Ev.bind (specIsShape_ev l hs) (Ev.if_ (fun h => ?_) (fun _ => Ev.now _))
  obtain ⟨ho, hp, _, hl⟩ := shapeB_iff.1 h
  have hn := ltE_nodup hp
  refine Ev.of_eq (touchS_l0 l hs ho hl l [] 0 rfl (Nat.zero_le _)) ?_
  rw [Nat.zero_add, pair_touch hp l [] rfl, sumN_add]
  have h1 := cntN_neg hn 1 0
  have h2 := cntN_neg hn 0 1
  unfold cntN at h1 h2
  unfold touchN cntN
  rw [h1, h2]
theorem implTouch_ev (l : List Cell) (hs : small l) : Ev (fun k => impl_TouchCount.f k l) (touchR l) := by
  unfold impl_TouchCount.f touchR
  refine Ev.bind (implIsShape_ev l hs) (Ev.if_ (fun h => ?_) (fun _ => Ev.now _))
  obtain ⟨ho, _, _, hl⟩ := shapeB_iff.1 h
  exact Ev.bind (touches_ev l hs ho hl) (Ev.now _)
structure Src (cs : List Int) (a s : Int) : Prop where
  at0 : 0 ≤ a
  at1 : a ≤ (cs.length : Int)
  sd0 : 0 ≤ s
  sd1 : s < 2147483647
  len : cs.length ≤ 1000000000000000000
  byte : ∀ x ∈ cs, 0 ≤ x ∧ x ≤ 255
theorem rd_byte {cs : List Int} {a s : Int} (h : Src cs a s) (i : Int) (h0 : 0 ≤ i) (h1 : i < (cs.length : Int)) : 0 ≤ rd cs i ∧ rd cs i ≤ 255 := by
  unfold rd
  obtain ⟨n, rfl⟩ : ∃ n : Nat, i = (n : Int) := ⟨i.toNat, by omega⟩
  have hn : n < cs.length := by omega
  have e : cs.getD (n : Int).toNat 0 = cs[n] := by simp [List.getD, hn]
  rw [e]
  exact h.byte _ (List.getElem_mem hn)
theorem next_ex {cs : List Int} {a s : Int} (h : Src cs a s) (n : Int) (hn : n ≤ 1000000000000) : ∃ v a' s', spec_l01Next.f cs a s n = some (v, a', s') ∧ Src cs a' s' ∧ 0 ≤ v ∧ (1 ≤ n → v < n) := by
  have ⟨h0, h1, h2, h3, h4, h5⟩ := h
  unfold spec_l01Next.f
  by_cases hn1 : n ≤ 1
  · rw [if_pos hn1]
    exact ⟨_, _, _, rfl, h, by omega, by omega⟩
  · rw [if_neg hn1]
    have ew : wrap64 ((wrap64 (s * 48271)) + 29) = s * 48271 + 29 := by rw [w64 (n := s * 48271) (by omega) (by omega), w64 (by omega) (by omega)]
    have em : Int.tmod (s * 48271 + 29) 2147483647 = (s * 48271 + 29) % 2147483647 := Int.tmod_eq_emod_of_nonneg (by omega)
    have hs0 : 0 ≤ (s * 48271 + 29) % 2147483647 := Int.emod_nonneg _ (by omega)
    have hs1 : (s * 48271 + 29) % 2147483647 < 2147483647 := Int.emod_lt_of_pos _ (by omega)
    rw [ew, em]
    generalize (s * 48271 + 29) % 2147483647 = s' at hs0 hs1 ⊢
    have et : Int.tdiv s' 31 = s' / 31 := Int.tdiv_eq_ediv_of_nonneg hs0
    rw [et, w64 (n := s' / 31) (by omega) (by omega)]
    have tm (x : Int) (hx : 0 ≤ x) : 0 ≤ Int.tmod x n ∧ Int.tmod x n < n := by
      rw [Int.tmod_eq_emod_of_nonneg hx]
      exact ⟨Int.emod_nonneg _ (by omega), Int.emod_lt_of_pos _ (by omega)⟩
    by_cases ha : a < (cs.length : Int)
    · have ea : wrap64 (a + 1) = a + 1 := w64 (by omega) (by omega)
      have hr := rd_byte h a h0 ha
      have e1 : wrap64 (rd cs a) = rd cs a := w64 (by omega) (by omega)
      have e2 : wrap64 (a + 1 - 1) = a := by rw [w64 (by omega) (by omega)]; omega
      have e3 : wrap64 (s' / 31 + rd cs a) = s' / 31 + rd cs a := w64 (by omega) (by omega)
      have hS : Src cs (a + 1) s' := ⟨by omega, by omega, hs0, hs1, h4, h5⟩
      rw [if_pos ha, if_pos h0, ea, e1, e2, e1, e3, if_pos h0, if_pos ha, if_neg (by omega : ¬ n = 0)]
      repeat' split
      all_goals first
        | exact ⟨_, _, _, rfl, hS, (tm _ (by omega)).1, fun _ => (tm _ (by omega)).2⟩
        | omega
    · have hS : Src cs a s' := ⟨by omega, by omega, hs0, hs1, h4, h5⟩
      rw [if_neg ha, if_neg (by omega : ¬ n = 0)]
      have := tm (s' / 31) (by omega)
      exact ⟨_, _, _, rfl, hS, this.1, fun _ => this.2⟩
def Ex {α : Type} (g : Nat → Option α) (P : α → Prop) : Prop := ∃ r, Ev g r ∧ P r
theorem Ex.now {α : Type} {P : α → Prop} {r : α} (h : P r) : Ex (fun _ => some r) P := ⟨r, Ev.now _, h⟩
theorem Ex.mono {α : Type} {g : Nat → Option α} {P Q : α → Prop} (h : Ex g P) (hi : ∀ r, P r → Q r) : Ex g Q := by
  obtain ⟨r, h1, h2⟩ := h
  exact ⟨r, h1, hi r h2⟩
theorem Ex.bind {α β : Type} {g : Nat → Option α} {f : Nat → α → Option β} {P : α → Prop} {Q : β → Prop} (h : Ex g P) (k : ∀ a, P a → Ex (fun n => f n a) Q) : Ex (fun n => (g n).bind (f n)) Q := by
  obtain ⟨a, h1, h2⟩ := h
  obtain ⟨b, h3, h4⟩ := k a h2
  exact ⟨b, Ev.bind h1 h3, h4⟩
theorem Ex.bindE {α β : Type} {g : Nat → Option α} {f : Nat → α → Option β} {a : α} {Q : β → Prop} (h : Ev g a) (k : Ex (fun n => f n a) Q) : Ex (fun n => (g n).bind (f n)) Q := by
  obtain ⟨b, h3, h4⟩ := k
  exact ⟨b, Ev.bind h h3, h4⟩
theorem Ex.bind0 {α β : Type} {o : Option α} {f : Nat → α → Option β} {a : α} {Q : β → Prop} (h : o = some a) (k : Ex (fun n => f n a) Q) : Ex (fun n => o.bind (f n)) Q := by
  subst h
  exact k
theorem Ex.pos {α : Type} {c : Prop} [Decidable c] {f g : Nat → Option α} {P : α → Prop} (h : c) (e : Ex f P) : Ex (fun k => if c then f k else g k) P := by
  obtain ⟨r, h1, h2⟩ := e
  exact ⟨r, Ev.pos h h1, h2⟩
theorem Ex.neg {α : Type} {c : Prop} [Decidable c] {f g : Nat → Option α} {P : α → Prop} (h : ¬ c) (e : Ex g P) : Ex (fun k => if c then f k else g k) P := by
  obtain ⟨r, h1, h2⟩ := e
  exact ⟨r, Ev.neg h h1, h2⟩
theorem Ex.if_ {α : Type} {c : Prop} [Decidable c] {f g : Nat → Option α} {P : α → Prop} (h : c → Ex f P) (h' : ¬ c → Ex g P) : Ex (fun k => if c then f k else g k) P := by
  by_cases hc : c
  · exact Ex.pos hc (h hc)
  · exact Ex.neg hc (h' hc)
theorem Ex.succ {α : Type} {g : Nat → Option α} {P : α → Prop} (h : Ex (fun k => g (k + 1)) P) : Ex g P := by
  obtain ⟨r, h1, h2⟩ := h
  exact ⟨r, Ev.succ h1, h2⟩
theorem Ex.next {β : Type} {cs : List Int} {a s : Int} (h : Src cs a s) (n : Int) (hn : n ≤ 1000000000000) {f : Nat → Int × Int × Int → Option β} {Q : β → Prop}
    (k : ∀ v a' s', Src cs a' s' → 0 ≤ v → (1 ≤ n → v < n) → Ex (fun q => f q (v, a', s')) Q) : Ex (fun q => (spec_l01Next.f cs a s n).bind (f q)) Q := by
  obtain ⟨v, a', s', e, h1, h2, h3⟩ := next_ex h n hn
  exact Ex.bind0 e (k v a' s' h1 h2 h3)
theorem from_l (cs : List Int) (hl : cs.length ≤ 1000000000000000000) (hb : ∀ x ∈ cs, 0 ≤ x ∧ x ≤ 255) : ∀ (q i : Nat) (s : Int), i + q = min cs.length 64 → 0 ≤ s → s < 2147483647 →
    Ex (fun k => spec_l01From.l0 k cs (i : Int) cs 0 s) fun r => r.1 = cs ∧ r.2.1 = 0 ∧ Src cs 0 r.2.2
  | 0, i, s, hi, h0, h1 => by
    refine Ex.succ ?_
    simp only [spec_l01From.l0]
    have hS : Src cs 0 s := ⟨by omega, by omega, h0, h1, hl, hb⟩
    refine Ex.if_ (fun _ => Ex.neg (by omega) (Ex.now ⟨rfl, rfl, hS⟩)) (fun _ => Ex.now ⟨rfl, rfl, hS⟩)
  | q + 1, i, s, hi, h0, h1 => by
    refine Ex.succ ?_
    simp only [spec_l01From.l0]
    have hS : Src cs 0 s := ⟨by omega, by omega, h0, h1, hl, hb⟩
    have hr := rd_byte hS (i : Int) (by omega) (by omega)
    have ei : wrap64 ((i : Int) + 1) = ((i + 1 : Nat) : Int) := by rw [w64 (by omega) (by omega)]; omega
    have es : Int.tmod (wrap64 ((wrap64 (s * 47)) + (wrap64 (rd cs (i : Int))))) 2147483647 = (s * 47 + rd cs (i : Int)) % 2147483647 := by
      rw [w64 (n := s * 47) (by omega) (by omega), w64 (n := rd cs (i : Int)) (by omega) (by omega), w64 (by omega) (by omega), Int.tmod_eq_emod_of_nonneg (by omega)]
    rw [ei, es]
    exact Ex.pos (by omega) (Ex.pos (by omega) (Ex.pos (by omega) (from_l cs hl hb q (i + 1) _ (by omega) (Int.emod_nonneg _ (by omega)) (Int.emod_lt_of_pos _ (by omega)))))
theorem from_ex (cs : List Int) (hl : cs.length ≤ 1000000000000000000) (hb : ∀ x ∈ cs, 0 ≤ x ∧ x ≤ 255) : Ex (fun k => spec_l01From.f k cs) fun r => r.1 = cs ∧ r.2.1 = 0 ∧ Src cs 0 r.2.2 := by
  unfold spec_l01From.f
  exact from_l cs hl hb (min cs.length 64) 0 61003 (by omega) (by omega) (by omega)
def moveL (l : List Cell) (x y : Int) : List Cell := l.map fun c => ⟨wrap64 (c.f0 + x), wrap64 (c.f1 + y)⟩
theorem moveL_len (l : List Cell) (x y : Int) : (moveL l x y).length = l.length := by simp [moveL]
theorem specMove_ev (l : List Cell) (x y : Int) (hl : l.length ≤ 1048576) : Ev (fun k => spec_l02Move.f k l x y) (moveL l x y) := by
  have hs : small l := by unfold small; omega
  unfold spec_l02Move.f
  have := loop_list l (fun k i (s : List Cell) => spec_l02Move.l0 k l x y s i) (fun pre suf s => s ++ moveL suf x y) (fun pre s => s.length = pre.length) ?_ ?_ [] rfl
  · simpa using this
  · intro s _
    simp only [spec_l02Move.l0, len_lt, if_false]
    exact Ev.of_eq (Ev.now _) (by simp [moveL])
  · intro pre c suf s hx hi ih
    have hp := pre_len hx
    simp only [spec_l02Move.l0, pre_lt hx, pre_0, if_true, at_pre hx, pre_w hx hs]
    refine Ev.pos (by omega) (Ev.of_eq (ih _ (by simp [hi])) ?_)
    simp [moveL]
def normalL (l : List Cell) : List Cell := moveL l (wrap64 (-(leastOf l).1)) (wrap64 (-(leastOf l).2))
theorem normalL_len (l : List Cell) : (normalL l).length = l.length := moveL_len _ _ _
theorem specNormal_ev (l : List Cell) (hl : l.length ≤ 1048576) (h0 : 0 < l.length) : Ev (fun k => spec_l02Normal.f k l) (normalL l) := by
  unfold spec_l02Normal.f
  refine Ev.bind (specLeast_ev l (by unfold small; omega) h0) (Ev.bind (specMove_ev l _ _ hl) (Ev.now _))
def insC (c : Cell) : List Cell → List Cell
  | [] => [c]
  | a :: r => if ltC c a then c :: a :: r else a :: insC c r
theorem insC_perm (c : Cell) : ∀ l : List Cell, (insC c l).Perm (c :: l)
  | [] => List.Perm.refl _
  | a :: r => by
    unfold insC
    split
    · exact List.Perm.refl _
    · exact ((insC_perm c r).cons a).trans (List.Perm.swap c a r)
theorem insC_sorted (c : Cell) : ∀ l : List Cell, (l.Pairwise fun a b => ¬ ltC b a) → (insC c l).Pairwise fun a b => ¬ ltC b a
  | [], _ => by simp [insC]
  | a :: r, h => by
    obtain ⟨h1, h2⟩ := List.pairwise_cons.1 h
    unfold insC
    split
    · rename_i hc
      refine List.pairwise_cons.2 ⟨fun b hb => ?_, h⟩
      rcases List.mem_cons.1 hb with rfl | hb
      · unfold ltC at *; omega
      · have := h1 b hb
        unfold ltC at *; omega
    · rename_i hc
      refine List.pairwise_cons.2 ⟨fun b hb => ?_, insC_sorted c r h2⟩
      rcases List.mem_cons.1 ((insC_perm c r).mem_iff.1 hb) with rfl | hb
      · exact hc
      · exact h1 b hb
theorem specInsert_ev (l : List Cell) (c : Cell) (hl : l.length ≤ 1048576) : Ev (fun k => spec_l02Insert.f k l c.f0 c.f1) (insC c l) := by
  have hs : small l := by unfold small; omega
  unfold spec_l02Insert.f
  have := loop_list l (fun k i (s : List Cell × Bool) => spec_l02Insert.l0 k l s.1 s.2 i c.f0 c.f1) (fun pre suf s => if s.2 = true then s.1 ++ suf else s.1 ++ insC c suf) (fun pre s => s.1.length ≤ pre.length + 1 ∧ (s.2 = false → s.1.length = pre.length)) ?_ ?_ ([], false) ⟨by simp, fun _ => rfl⟩
  · simpa using this
  · rintro ⟨s, b⟩ ⟨h1, h2⟩
    simp only at h1 h2
    simp only [spec_l02Insert.l0, len_lt, if_false]
    cases b
    · refine Ev.neg (by simp) (Ev.pos (by omega) (Ev.of_eq (Ev.now _) ?_))
      simp [insC]
    · refine Ev.pos rfl (Ev.of_eq (Ev.now _) ?_)
      simp
  · rintro pre d suf ⟨s, b⟩ hx ⟨h1, h2⟩ ih
    have hp := pre_len hx
    simp only at h1 h2
    simp only [spec_l02Insert.l0, pre_lt hx, pre_0, if_true, at_pre hx, pre_w hx hs]
    cases b
    · refine Ev.neg (by simp) ?_
      simp only [l02Less_eq, Option.bind_some]
      have h2' := h2 rfl
      by_cases hd : ltC c d
      · have hd' : c.f1 < d.f1 ∨ c.f1 = d.f1 ∧ c.f0 < d.f0 := hd
        refine Ev.pos (by simpa using hd') (Ev.pos (by omega) ?_)
        refine Ev.pos (by simp; omega) (Ev.of_eq (ih ((s ++ [(⟨c.f0, c.f1⟩ : Cell)]) ++ [(⟨d.f0, d.f1⟩ : Cell)], true) ⟨by simp; omega, fun h => by cases h⟩) ?_)
        simp [insC, hd]
      · have hd' : ¬ (c.f1 < d.f1 ∨ c.f1 = d.f1 ∧ c.f0 < d.f0) := hd
        refine Ev.neg (by simpa using hd') (Ev.pos (by omega) (Ev.of_eq (ih (s ++ [(⟨d.f0, d.f1⟩ : Cell)], false) ⟨by simp; omega, fun _ => by simp; omega⟩) ?_))
        simp [insC, hd]
    · refine Ev.pos rfl (Ev.pos (by omega) (Ev.of_eq (ih (s ++ [(⟨d.f0, d.f1⟩ : Cell)], true) ⟨by simp; omega, fun h => by cases h⟩) ?_))
      simp
def insAll : List Cell → List Cell → List Cell
  | acc, [] => acc
  | acc, c :: r => insAll (insC c acc) r
theorem insAll_spec : ∀ (l acc : List Cell), (acc.Pairwise fun a b => ¬ ltC b a) → (insAll acc l).Perm (acc ++ l) ∧ (insAll acc l).Pairwise fun a b => ¬ ltC b a
  | [], acc, h => ⟨by simp [insAll], h⟩
  | c :: r, acc, h => by
    obtain ⟨h1, h2⟩ := insAll_spec r (insC c acc) (insC_sorted c acc h)
    refine ⟨h1.trans ?_, h2⟩
    refine ((insC_perm c acc).append_right r).trans ?_
    exact List.perm_middle.symm
theorem specSortI_ev (l : List Cell) (hl : l.length ≤ 1048576) : Ev (fun k => spec_l02Sort.f k l) (insAll [] l) := by
  have hs : small l := by unfold small; omega
  unfold spec_l02Sort.f
  refine loop_list l (fun k i (s : List Cell) => spec_l02Sort.l0 k l s i) (fun pre suf s => insAll s suf) (fun pre s => s.length = pre.length) ?_ ?_ [] rfl
  · intro s _
    simp only [spec_l02Sort.l0, len_lt, if_false]
    exact Ev.now _
  · intro pre c suf s hx hi ih
    have hp := pre_len hx
    simp only [spec_l02Sort.l0, pre_lt hx, pre_0, if_true, at_pre hx, pre_w hx hs]
    refine Ev.bind (specInsert_ev s c (by omega)) (ih _ ?_)
    rw [(insC_perm c s).length_eq]
    simp [hi]
theorem insP_mem {c d : Cell} {s : List Cell} : c ∈ insC d s ↔ c = d ∨ c ∈ s := by
  rw [(insC_perm d s).mem_iff, List.mem_cons]
theorem nbs_l1 (s : List Cell) (hs : s.length ≤ 64) (i : Int) (arr : List Cell) (ha : arr.length = 4) {Q : List Cell → Prop} : ∀ (suf pre acc : List Cell), arr = pre ++ suf → acc.length + suf.length ≤ 1000 →
    (∀ acc' : List Cell, acc'.length ≤ acc.length + suf.length → (∀ d ∈ acc', d ∈ acc ∨ d ∈ suf) → (∀ d ∈ acc, d ∈ acc') → (∀ d ∈ suf, d ∉ s → d ∈ acc') → Ex (fun k => spec_l02Neighbours.l0 k s acc' (wrap64 (i + 1))) Q) →
    Ex (fun k => spec_l02Neighbours.l1 k s acc i arr (pre.length : Int)) Q
  | [], pre, acc, hx, hl, hc => by
    refine Ex.succ ?_
    rw [List.append_nil] at hx
    subst hx
    simp only [spec_l02Neighbours.l1]
    exact Ex.neg (by omega) (hc acc (by simp) (fun d h => .inl h) (fun d h => h) (fun d h => by simp at h))
  | d :: suf, pre, acc, hx, hl, hc => by
    refine Ex.succ ?_
    have hsm : small arr := by unfold small; omega
    have hp := pre_len hx
    simp only [List.length_cons] at hl hc
    have h4 : ((pre.length : Int) < 4) := by omega
    simp only [spec_l02Neighbours.l1, pre_lt hx, pre_0, if_true, at_pre hx, pre_w hx hsm]
    refine Ex.pos h4 (Ex.bindE (specIndex_ev s d (by unfold small; omega)) ?_)
    have next (acc2 : List Cell) (h1 : acc2.length ≤ acc.length + 1) (h2 : ∀ x ∈ acc2, x ∈ acc ∨ x = d) (h3 : ∀ x ∈ acc, x ∈ acc2) (h5 : d ∉ s → d ∈ acc2) : Ex (fun k => spec_l02Neighbours.l1 k s acc2 i arr ((pre.length : Int) + 1)) Q := by
      have := nbs_l1 s hs i arr ha suf (pre ++ [d]) acc2 (by rw [hx]; simp) (by omega) (fun acc' g1 g2 g3 g4 => hc acc' (by omega) (fun x hx' => by
        rcases g2 x hx' with g | g
        · rcases h2 x g with g | rfl
          · exact .inl g
          · exact .inr List.mem_cons_self
        · exact .inr (List.mem_cons_of_mem _ g)) (fun x hx' => g3 x (h3 x hx')) (fun x hx' hn => by
        rcases List.mem_cons.1 hx' with rfl | hx'
        · exact g3 _ (h5 hn)
        · exact g4 x hx' hn))
      simpa using this
    by_cases hm : d ∈ s
    · have h := (idxC_mem s d).2 hm
      exact Ex.neg (by omega) (next acc (by omega) (fun x h => .inl h) (fun x h => h) (fun h => absurd hm h))
    · have h : ¬ idxC s d ≥ 0 := fun h => hm ((idxC_mem s d).1 h)
      refine Ex.pos (by omega) (Ex.bindE (specIndex_ev acc d (by unfold small; omega)) ?_)
      by_cases hm2 : d ∈ acc
      · have h := (idxC_mem acc d).2 hm2
        exact Ex.neg (by omega) (next acc (by omega) (fun x h => .inl h) (fun x h => h) (fun _ => hm2))
      · have h : ¬ idxC acc d ≥ 0 := fun h => hm2 ((idxC_mem acc d).1 h)
        refine Ex.pos (by omega) (Ex.bindE (specInsert_ev acc d (by omega)) (next (insC d acc) ?_ (fun x h => ?_) (fun x h => insP_mem.2 (.inr h)) (fun _ => insP_mem.2 (.inl rfl))))
        · rw [(insC_perm d acc).length_eq, List.length_cons]; omega
        · rcases insP_mem.1 h with h | h
          · exact .inr h
          · exact .inl h
theorem nbs_l0 (s : List Cell) (hs : s.length ≤ 64) : ∀ (suf pre acc : List Cell), s = pre ++ suf → acc.length ≤ 4 * pre.length → (∀ d ∈ acc, ∃ c ∈ s, d ∈ aroundC c) → (∀ c ∈ pre, ∀ d ∈ aroundC c, d ∉ s → d ∈ acc) →
    Ex (fun k => spec_l02Neighbours.l0 k s acc (pre.length : Int)) fun r => r.length ≤ 4 * s.length ∧ (∀ d ∈ r, ∃ c ∈ s, d ∈ aroundC c) ∧ ∀ c ∈ s, ∀ d ∈ aroundC c, d ∉ s → d ∈ r
  | [], pre, acc, hx, h1, h2, h3 => by
    refine Ex.succ ?_
    rw [List.append_nil] at hx
    subst hx
    simp only [spec_l02Neighbours.l0]
    exact Ex.neg (by omega) (Ex.now ⟨h1, h2, h3⟩)
  | c :: suf, pre, acc, hx, h1, h2, h3 => by
    refine Ex.succ ?_
    have hsm : small s := by unfold small; omega
    have hp := pre_len hx
    have h4 : (aroundC c).length = 4 := rfl
    simp only [spec_l02Neighbours.l0, pre_lt hx, pre_0, if_true, at_pre hx]
    refine Ex.bind0 (specAround_eq c) ?_
    refine nbs_l1 s hs (pre.length : Int) (aroundC c) h4 (aroundC c) [] acc rfl (by omega) (fun acc' g1 g2 g3 g4 => ?_)
    rw [pre_w hx hsm]
    have := nbs_l0 s hs suf (pre ++ [c]) acc' (by rw [hx]; simp) (by simp; omega) (fun d hd => by
      rcases g2 d hd with g | g
      · exact h2 d g
      · exact ⟨c, by rw [hx]; simp, g⟩) (fun e he d hd hn => by
      rcases List.mem_append.1 he with he | he
      · exact g3 d (h3 e he d hd hn)
      · simp at he
        subst he
        exact g4 d hd hn)
    simpa using this
theorem nbs_ex (s : List Cell) (hs : s.length ≤ 64) : Ex (fun k => spec_l02Neighbours.f k s) fun r => r.length ≤ 4 * s.length ∧ (∀ d ∈ r, ∃ c ∈ s, d ∈ aroundC c) ∧ ∀ c ∈ s, ∀ d ∈ aroundC c, d ∉ s → d ∈ r := by
  unfold spec_l02Neighbours.f
  exact nbs_l0 s hs s [] [] rfl (by simp) (by simp) (by simp)
def inBox (m : Int) (s : List Cell) : Prop := ∀ c ∈ s, -m ≤ c.f0 ∧ c.f0 ≤ m ∧ -m ≤ c.f1 ∧ c.f1 ≤ m
theorem nbs_pos {s r : List Cell} (h0 : 0 < s.length) (hb : inBox 1000 s) (h : ∀ c ∈ s, ∀ d ∈ aroundC c, d ∉ s → d ∈ r) : 0 < r.length := by
  have hne : s ≠ [] := by intro e; rw [e] at h0; simp at h0
  obtain ⟨_, ⟨c, hc, ec⟩⟩ := least_mem hne
  have hbc := hb c hc
  refine List.length_pos_of_mem (a := ⟨c.f0, wrap64 (c.f1 - 1)⟩) (h c hc _ (by simp [aroundC]) fun hm => ?_)
  have := (least_le hm).2
  simp only at this
  rw [w64 (by omega) (by omega)] at this
  omega
theorem around_box {m : Int} {c d : Cell} (hm : 0 ≤ m ∧ m ≤ 1000) (hc : -m ≤ c.f0 ∧ c.f0 ≤ m ∧ -m ≤ c.f1 ∧ c.f1 ≤ m) (hd : d ∈ aroundC c) : -(m + 1) ≤ d.f0 ∧ d.f0 ≤ m + 1 ∧ -(m + 1) ≤ d.f1 ∧ d.f1 ≤ m + 1 := by
  simp only [aroundC, List.mem_cons, List.not_mem_nil, or_false] at hd
  have w (n : Int) (h0 : -3000 ≤ n) (h1 : n ≤ 3000) : wrap64 n = n := w64 (by omega) (by omega)
  rw [w _ (by omega) (by omega), w _ (by omega) (by omega), w _ (by omega) (by omega), w _ (by omega) (by omega)] at hd
  rcases hd with rfl | rfl | rfl | rfl <;> (simp only; omega)
theorem poly_l (cs : List Int) : ∀ (q n : Nat) (s : List Cell) (a sd : Int), q + n ≤ 40 → s.length = n → 1 ≤ n → inBox (n : Int) s → Src cs a sd →
    Ex (fun k => spec_l02DrawPoly.l0 k s (q : Int) cs a sd) fun r => 1 ≤ r.1.length ∧ r.1.length ≤ 40 ∧ Src cs r.2.1 r.2.2
  | 0, n, s, a, sd, hq, hl, hn, hb, hS => by
    refine Ex.succ ?_
    simp only [spec_l02DrawPoly.l0]
    refine Ex.neg (by omega) (Ex.bindE (specNormal_ev s (by omega) (by omega)) (Ex.now ?_))
    have := normalL_len s
    exact ⟨by simp only; omega, by simp only; omega, hS⟩
  | q + 1, n, s, a, sd, hq, hl, hn, hb, hS => by
    refine Ex.succ ?_
    simp only [spec_l02DrawPoly.l0]
    refine Ex.pos (by omega) (Ex.bind (nbs_ex s (by omega)) fun r ⟨h1, h2, h3⟩ => ?_)
    have hr : 0 < r.length := nbs_pos (by omega) (fun c hc => by have := hb c hc; omega) h3
    refine Ex.next hS (r.length : Int) (by omega) fun v a' s' hS' hv0 hv1 => ?_
    have hv2 := hv1 (by omega)
    obtain ⟨j, rfl⟩ : ∃ j : Nat, v = (j : Int) := ⟨v.toNat, by omega⟩
    have hj : j < r.length := by omega
    have er : rd_T35 r (j : Int) = r[j] := by
      have : r = r.take j ++ r[j] :: r.drop (j + 1) := by rw [List.getElem_cons_drop, List.take_append_drop]
      have e2 := at_pre this
      rw [List.length_take, Nat.min_eq_left (by omega)] at e2
      exact e2
    have hd : r[j] ∈ r := List.getElem_mem hj
    obtain ⟨c, hc, hdc⟩ := h2 _ hd
    have hbd := around_box (m := (n : Int)) (by omega) (hb c hc) hdc
    simp only [er]
    refine Ex.pos (by omega) (Ex.pos (by omega) (Ex.bindE (specInsert_ev s r[j] (by omega)) ?_))
    have ew : wrap64 (((q + 1 : Nat) : Int) - 1) = (q : Int) := by rw [w64 (by omega) (by omega)]; omega
    rw [ew]
    refine poly_l cs q (n + 1) (insC r[j] s) a' s' (by omega) (by rw [(insC_perm _ s).length_eq, List.length_cons]; omega) (by omega) (fun x hx => ?_) hS'
    rcases insP_mem.1 hx with rfl | hx
    · omega
    · have := hb x hx; omega
theorem poly_ex {cs : List Int} {a s : Int} (h : Src cs a s) (n : Int) (h0 : 1 ≤ n) (h1 : n ≤ 39) : Ex (fun k => spec_l02DrawPoly.f k cs a s n) fun r => 1 ≤ r.1.length ∧ r.1.length ≤ 40 ∧ Src cs r.2.1 r.2.2 := by
  unfold spec_l02DrawPoly.f
  refine Ex.next h n (by omega) fun v a' s' hS hv0 hv1 => ?_
  have := hv1 h0
  obtain ⟨q, rfl⟩ : ∃ q : Nat, v = (q : Int) := ⟨v.toNat, by omega⟩
  exact poly_l cs q 1 [⟨0, 0⟩] a' s' (by omega) rfl (by omega) (fun c hc => by simp at hc; subst hc; simp) hS
theorem draw_l (cs : List Int) : ∀ (q i : Nat) (l : List Cell) (a s : Int), i + q = 42 → l.length = i → Src cs a s → Ex (fun k => spec_l02Draw.l0 k l (i : Int) cs a s) fun r => r.1.length ≤ 100 ∧ Src cs r.2.1 r.2.2
  | q, i, l, a, s, hi, hl, hS => by
    refine Ex.succ ?_
    simp only [spec_l02Draw.l0]
    refine Ex.next hS 2 (by omega) fun v a' s' hS' hv0 hv1 => ?_
    have hv := hv1 (by omega)
    have ew : wrap64 (40 + v) = 40 + v := w64 (by omega) (by omega)
    have ei : wrap64 ((i : Int) + 1) = ((i + 1 : Nat) : Int) := by rw [w64 (by omega) (by omega)]; omega
    simp only [ew, ei]
    match q, hi with
    | 0, hi => exact Ex.neg (by omega) (Ex.now ⟨by simp only; omega, hS'⟩)
    | q + 1, hi =>
      exact Ex.if_ (fun _ => Ex.pos (by omega) (draw_l cs q (i + 1) _ a' s' (by omega) (by simp [hl]) hS')) (fun _ => Ex.now ⟨by simp only; omega, hS'⟩)
theorem insAll_len (l : List Cell) : (insAll [] l).length = l.length := by
  have := (insAll_spec l [] List.Pairwise.nil).1.length_eq
  simpa using this
theorem draw_ex {cs : List Int} {a s : Int} (h : Src cs a s) : Ex (fun k => spec_l02Draw.f k cs a s) fun r => r.1.length ≤ 100 ∧ Src cs r.2.1 r.2.2 := by
  unfold spec_l02Draw.f
  refine Ex.bind (poly_ex h 8 (by omega) (by omega)) fun p ⟨p0, p1, p2⟩ => ?_
  refine Ex.next p2 9 (by omega) fun v1 a1 s1 h1 _ _ => ?_
  refine Ex.next h1 9 (by omega) fun v2 a2 s2 h2 _ _ => ?_
  refine Ex.bindE (specMove_ev p.1 _ _ (by omega)) ?_
  have hml := moveL_len p.1 (wrap64 (v1 - 4)) (wrap64 (v2 - 4))
  generalize moveL p.1 (wrap64 (v1 - 4)) (wrap64 (v2 - 4)) = t at hml ⊢
  refine Ex.next h2 (t.length : Int) (by omega) fun v3 a3 s3 h3 g0 g1 => ?_
  have g2 := g1 (by omega)
  refine Ex.next h3 24 (by omega) fun v4 a4 s4 h4 _ _ => ?_
  simp only
  have ew : wrap64 ((t.length : Int) - 1) = (t.length : Int) - 1 := w64 (by omega) (by omega)
  refine Ex.if_ (fun _ => ?_) (fun _ => ?_)
  · refine Ex.bind0 rfl (Ex.next h4 3 (by omega) fun v5 a5 s5 h5 q0 q1 => ?_)
    have q2 := q1 (by omega)
    have e3 : (([(-100), 100, 101] : List Int).length : Int) = 3 := rfl
    refine Ex.pos q0 (Ex.pos (by rw [e3]; exact q2) (Ex.pos g0 (Ex.pos g2 (Ex.bindE (specSortI_ev _ (by rw [List.length_set]; omega)) (Ex.now ?_)))))
    exact ⟨by simp only; rw [insAll_len, List.length_set]; omega, h5⟩
  refine Ex.if_ (fun _ => ?_) (fun _ => ?_)
  · exact Ex.pos g0 (Ex.pos g2 (Ex.pos (by omega) (Ex.now ⟨by simp; omega, h4⟩)))
  refine Ex.if_ (fun _ => Ex.now ⟨by simp, h4⟩) (fun _ => ?_)
  refine Ex.if_ (fun _ => draw_l cs 42 0 [] a4 s4 (by omega) rfl h4) (fun _ => ?_)
  rw [ew]
  refine Ex.if_ (fun _ => ?_) (fun _ => ?_)
  · exact Ex.pos (by omega) (Ex.pos (by omega) (Ex.pos (by omega) (Ex.pos (by omega) (Ex.now ⟨by simp; omega, h4⟩))))
  refine Ex.if_ (fun _ => ?_) (fun _ => Ex.now ⟨by simp only; omega, h4⟩)
  exact Ex.pos (by omega) (Ex.pos (by omega) (Ex.pos (by omega) (Ex.pos (by omega) (Ex.now ⟨by simp; omega, h4⟩))))
theorem d06_l1 (cs : List Int) (W H y : Int) (hW : 0 ≤ W ∧ W ≤ 10) (hH : 0 ≤ H ∧ H ≤ 10) {Q : List Cell × Int × Int → Prop} : ∀ (q : Nat) (x : Int) (l : List Cell) (a s : Int), x + (q : Int) = W → 0 ≤ x → l.length + q ≤ 1000 → Src cs a s →
    (∀ (l' : List Cell) (a' s' : Int), l'.length ≤ l.length + q → Src cs a' s' → Ex (fun k => spec_l06Draw.l0 k W H l' (wrap64 (y + 1)) cs a' s') Q) → Ex (fun k => spec_l06Draw.l1 k W H l y x cs a s) Q
  | 0, x, l, a, s, hx, h0, hl, hS, hc => by
    refine Ex.succ ?_
    simp only [spec_l06Draw.l1]
    exact Ex.neg (by omega) (hc l a s (by omega) hS)
  | q + 1, x, l, a, s, hx, h0, hl, hS, hc => by
    refine Ex.succ ?_
    have ew : wrap64 (x + 1) = x + 1 := w64 (by omega) (by omega)
    have nx (l2 : List Cell) (h2 : l2.length ≤ l.length + 1) (a' s' : Int) (hS' : Src cs a' s') : Ex (fun k => spec_l06Draw.l1 k W H l2 y (x + 1) cs a' s') Q :=
      d06_l1 cs W H y hW hH q (x + 1) l2 a' s' (by omega) (by omega) (by omega) hS' (fun l' a2 s2 h4 h5 => hc l' a2 s2 (by omega) h5)
    have hj (b : Bool) : Ex (fun k => spec_l06Draw.j2 k W H l y x b cs a s) Q := by
      refine Ex.succ ?_
      simp only [spec_l06Draw.j2, ew]
      refine Ex.if_ (fun _ => ?_) (fun _ => ?_)
      · refine Ex.next hS 12 (by omega) fun v a' s' hS' _ _ => ?_
        exact Ex.if_ (fun _ => Ex.pos (by omega) (nx _ (by simp) a' s' hS')) (fun _ => nx l (by omega) a' s' hS')
      · refine Ex.next hS 3 (by omega) fun v a' s' hS' _ _ => ?_
        exact Ex.if_ (fun _ => Ex.pos (by omega) (nx _ (by simp) a' s' hS')) (fun _ => nx l (by omega) a' s' hS')
    simp only [spec_l06Draw.l1]
    exact Ex.pos (by omega) (Ex.if_ (fun _ => hj true) (fun _ => Ex.if_ (fun _ => hj true) (fun _ => Ex.if_ (fun _ => hj true) (fun _ => hj _))))
theorem d06_l0 (cs : List Int) (W H : Int) (hW : 0 ≤ W ∧ W ≤ 10) (hH : 0 ≤ H ∧ H ≤ 10) : ∀ (q : Nat) (y : Int) (l : List Cell) (a s : Int), y + (q : Int) = H → 0 ≤ y → (l.length : Int) ≤ 10 * y → Src cs a s →
    Ex (fun k => spec_l06Draw.l0 k W H l y cs a s) fun r => r.1.length ≤ 100 ∧ Src cs r.2.1 r.2.2
  | 0, y, l, a, s, hy, h0, hl, hS => by
    refine Ex.succ ?_
    simp only [spec_l06Draw.l0]
    exact Ex.neg (by omega) (Ex.now ⟨by simp only; omega, hS⟩)
  | q + 1, y, l, a, s, hy, h0, hl, hS => by
    refine Ex.succ ?_
    simp only [spec_l06Draw.l0]
    refine Ex.pos (by omega) (d06_l1 cs W H y hW hH W.toNat 0 l a s (by omega) (by omega) (by omega) hS fun l' a' s' h1 h2 => ?_)
    rw [w64 (n := y + 1) (by omega) (by omega)]
    exact d06_l0 cs W H hW hH q (y + 1) l' a' s' (by omega) (by omega) (by omega) h2
theorem draw06_ex {cs : List Int} {a s : Int} (h : Src cs a s) : Ex (fun k => spec_l06Draw.f k cs a s) fun r => r.1.length ≤ 100 ∧ Src cs r.2.1 r.2.2 := by
  unfold spec_l06Draw.f
  refine Ex.next h 3 (by omega) fun v a1 s1 h1 _ _ => ?_
  refine Ex.if_ (fun _ => Ex.bind (draw_ex h1) fun r hr => Ex.now hr) (fun _ => ?_)
  refine Ex.next h1 4 (by omega) fun w a2 s2 h2 w0 w1 => Ex.next h2 3 (by omega) fun u a3 s3 h3 u0 u1 => ?_
  have := w1 (by omega)
  have := u1 (by omega)
  show Ex (fun k => spec_l06Draw.l0 k (wrap64 (3 + w)) (wrap64 (3 + u)) [] 0 cs a3 s3) _
  rw [w64 (n := 3 + w) (by omega) (by omega), w64 (n := 3 + u) (by omega) (by omega)]
  exact d06_l0 cs (3 + w) (3 + u) (by omega) (by omega) (3 + u).toNat 0 [] a3 s3 (by omega) (by omega) (by simp) h3
end Go.Proofs.Ytpoiiaephcddoaa.L
end
section
namespace Go.Proofs.Ytpoiiaephcddoaa.L
open Go.RowKit Go.Proofs.YtpoiiaephcddoaaW.PrintWords Go.Proofs.YtpoiiaephcddoaaW.PrintLast Go.Proofs.YtpoiiaephcddoaaW.PrintMore Go.Proofs.Ytpoiiaephcddoaa.F
set_option linter.unusedVariables false
theorem edgeDraw_ex (cs : List Int) (hl : cs.length ≤ 1000000000000000000) (hb : ∀ x ∈ cs, 0 ≤ x ∧ x ≤ 255) : Ex (fun k => spec_DrawEdgeCount.f k cs) fun r => r.length ≤ 100 := by
  unfold spec_DrawEdgeCount.f
  refine Ex.bind (from_ex cs hl hb) fun ⟨c1, a1, s1⟩ ⟨e1, e2, h1⟩ => ?_
  simp only at e1 e2 h1
  subst e1 e2
  exact Ex.bind (draw06_ex h1) fun r hr => Ex.now hr.1
end Go.Proofs.Ytpoiiaephcddoaa.L
namespace Go.Proofs.Ytpoiiaephcddoaa.Pure
open Go.RowKit Go.Proofs.YtpoiiaephcddoaaW.PrintWords Go.Proofs.Ytpoiiaephcddoaa.F Go.Proofs.Ytpoiiaephcddoaa.L
set_option linter.unusedVariables false
theorem FnEdges (l0 : List Int) (hv0 : l0.length ≤ 9223372036854775807 ∧ ∀ x ∈ l0, (Lit.int .u8 x).wf = true) : ∃ k, laws_FnEdges.f k l0 = some true := by
  refine Ev.rounds ?_
  obtain ⟨hm, hv⟩ := hv0
  have hb : ∀ x ∈ l0, 0 ≤ x ∧ x ≤ 255 := fun x hx => by
    have := hv x hx
    have m0 : IntKind.u8.min = 0 := by decide
    have m1 : IntKind.u8.max = 255 := by decide
    simp [Lit.wf, m0, m1] at this
    omega
  unfold laws_FnEdges.f
  refine Ev.bind0 rfl ?_
  by_cases hbig : (l0.length : Int) > 4096
  · exact Ev.pos (by simpa using hbig) (Ev.now _)
  refine Ev.neg (by simpa using hbig) ?_
  obtain ⟨l, e1, hl⟩ := edgeDraw_ex l0 (by omega) hb
  have hs : small l := by unfold small; omega
  refine Ev.bind e1 (Ev.bind (edge_ev l hs) (Ev.bind (specEdge_ev l hs) (Ev.bind (implTouch_ev l hs) (Ev.bind (specTouch_ev l hs) (Ev.bind (implCorner9_ev l hs) (Ev.bind (specCorner_ev l hs) ?_))))))
  rw [edgeR_eq]
  refine Ev.pos rfl (Ev.pos rfl (Ev.pos rfl (Ev.pos rfl (Ev.pos rfl (Ev.pos rfl ?_)))))
  by_cases h : shapeB l = true
  · have hE : specER l = ((edgeN l : Int), 0) := by unfold specER; rw [if_pos h]
    have hT : touchR l = ((touchN l : Int), 0) := by unfold touchR; rw [if_pos h]
    have hC : cornR l = ((sumP (termS l) (ptsL l) : Int), 0) := by unfold cornR; rw [if_pos h]
    rw [hE, hT, hC]
    have h1 := edge_touch h
    have h2 := (shapeB_iff.1 h).2.2.2
    have h3 := corn_even h
    have h4 := corn_four h
    generalize sumP (termS l) (ptsL l) = s at h3 h4 ⊢
    generalize edgeN l = e at h1 ⊢
    generalize touchN l = t at h1 ⊢
    refine Ev.pos rfl (Ev.pos ?_ (Ev.pos ?_ (Ev.of_eq (Ev.now _) ?_)))
    · simp only
      rw [w64 (n := 2 * (t : Int)) (by omega) (by omega), w64 (by omega) (by omega), w64 (by omega) (by omega)]
      omega
    · simp only
      rw [Int.tmod_eq_emod_of_nonneg (by omega)]
      omega
    · simp only [decide_eq_true_eq]
      omega
  · have hE : specER l = (0, 1) := by unfold specER; rw [if_neg h]
    rw [hE]
    exact Ev.neg (by simp) (Ev.now _)
end Go.Proofs.Ytpoiiaephcddoaa.Pure
end
