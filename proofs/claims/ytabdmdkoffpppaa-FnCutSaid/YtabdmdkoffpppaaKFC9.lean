/- The row of FnCut, with what it needs: text 10 of 11. -/
import Derived.Test.YtabdmdkoffpppaaKFC8
set_option maxHeartbeats 8000000
set_option maxRecDepth 100000
section
namespace Go.Proofs.Ytabdmdkoffpppaa.L
open Go.RowKit Go.Proofs.YtabdmdkoffpppaaW.PrintWords Go.Proofs.YtabdmdkoffpppaaW.PrintLast Go.Proofs.YtabdmdkoffpppaaW.PrintMore Go.Proofs.Ytabdmdkoffpppaa.F
set_option linter.unusedVariables false
set_option linter.unusedSimpArgs false
theorem l02Cell_eq (x y : Int) : spec_l02Cell.f x y = some (decide (ok1 x ∧ ok1 y)) := by
  unfold spec_l02Cell.f
  rw [in_eq, in_eq]
  simp only [Option.bind_some]
  by_cases h : -100 ≤ x ∧ x ≤ 100
  · have h' : ok1 x := h
    simp only [h, and_self, decide_true, if_true, true_and, h', ok1]
  · have h' : ¬ ok1 x := h
    simp [h, h']
def small {α : Type} (l : List α) : Prop := l.length ≤ 4611686018427387904
theorem pre_lt {α : Type} {xs pre suf : List α} {c : α} (h : xs = pre ++ c :: suf) : ((pre.length : Int) < (xs.length : Int)) = True := by
  subst h; simp; omega
theorem pre_w {α : Type} {xs pre suf : List α} {c : α} (h : xs = pre ++ c :: suf) (hs : small xs) : wrap64 ((pre.length : Int) + 1) = (pre.length : Int) + 1 := by
  subst h
  unfold small at hs
  rw [List.length_append, List.length_cons] at hs
  exact w64 (by omega) (by omega)
theorem pre_0 {α : Type} (pre : List α) : (0 ≤ (pre.length : Int)) = True := by simp
theorem len_lt {α : Type} (xs : List α) : ((xs.length : Int) < (xs.length : Int)) = False := by simp
theorem at_pre {xs pre suf : List Cell} {c : Cell} (h : xs = pre ++ c :: suf) : rd_T59 xs (pre.length : Int) = c := by
  subst h; exact getD_at pre suf c _
theorem pre_len {α : Type} {xs pre suf : List α} {c : α} (h : xs = pre ++ c :: suf) : pre.length < xs.length := by
  subst h; simp
theorem at_preI {xs pre suf : List Int} {c : Int} (h : xs = pre ++ c :: suf) : rd xs (pre.length : Int) = c := by
  subst h; exact getD_at pre suf c _
def cmpI (a b : Int) : Int := if a < b then -1 else if a > b then 1 else 0
theorem compare_eq (a b : Int) : cmp_Compare_int64.f a b = some (cmpI a b) := by
  unfold cmp_Compare_int64.f cmp_isNaN_int64.f cmpI
  simp only [bne_self_eq_false, Option.bind_some, Bool.false_eq_true, if_false]
  split
  · rfl
  · split <;> rfl
theorem l02Less_eq (a b c d : Int) : spec_l02Less.f a b c d = some (decide (b < d ∨ b = d ∧ a < c)) := by
  unfold spec_l02Less.f
  by_cases h : b < d
  · simp [h]
  · by_cases h' : b = d <;> simp [h, h']
    
def cmpC (a b : Cell) : Int := if cmpI a.f1 b.f1 = 0 then cmpI a.f0 b.f0 else cmpI a.f1 b.f1
theorem compareCells_eq (a b : Cell) : impl_compareCells.f a.f0 a.f1 b.f0 b.f1 = some (cmpC a b) := by
  unfold impl_compareCells.f cmpC
  simp only [compare_eq, Option.bind_some]
  split <;> rfl
theorem cmpC_lt {a b : Cell} : cmpC a b < 0 ↔ ltC a b := by
  unfold cmpC cmpI ltC
  repeat' split
  all_goals constructor <;> intro h <;> omega
theorem cmpC_ge {a b : Cell} : cmpC a b ≥ 0 ↔ ¬ ltC a b := by
  rw [← cmpC_lt]; omega
theorem cmpC_zero {a b : Cell} : cmpC a b = 0 ↔ a = b := by
  obtain ⟨a0, a1⟩ := a
  obtain ⟨b0, b1⟩ := b
  unfold cmpC cmpI
  simp only [S59.mk.injEq]
  repeat' split
  all_goals constructor <;> intro h <;> omega
def goodFrom : Option Cell → List Cell → Bool
  | _, [] => true
  | p, c :: r => decide (okC c) && (match p with | none => true | some q => decide (ltC q c)) && goodFrom (some c) r
def shapeB (l : List Cell) : Bool := goodFrom none l && decide (1 ≤ (l.length : Int) ∧ (l.length : Int) ≤ 40)
theorem specIsShape_ev (l : List Cell) (hs : small l) : Ev (fun k => spec_IsShape.f k l) (shapeB l) := by
  unfold spec_IsShape.f
  refine loop_list l (fun k i (_ : Unit) => spec_IsShape.l0 k l i) (fun pre suf _ => goodFrom pre.getLast? suf && decide (1 ≤ (l.length : Int) ∧ (l.length : Int) ≤ 40)) (fun _ _ => True) ?_ ?_ () trivial
  · intro _ _
    simp only [spec_IsShape.l0, len_lt, if_false, in_eq, Option.bind_some]
    refine Ev.of_eq (Ev.now _) ?_
    simp [goodFrom]
  · intro pre c suf _ hx _ ih
    simp only [spec_IsShape.l0, pre_lt hx, pre_0, if_true, at_pre hx, l02Cell_eq, Option.bind_some, pre_w hx hs]
    by_cases hc : okC c
    · have hc' : ok1 c.f0 ∧ ok1 c.f1 := hc
      simp only [hc', and_self, decide_true, if_true]
      rcases List.eq_nil_or_concat pre with rfl | ⟨L, b, rfl⟩
      · refine Ev.neg (by simp) (Ev.of_eq (ih () trivial) ?_)
        simp [goodFrom, hc]
      · rw [List.concat_eq_append] at hx ih ⊢
        have hx2 : l = L ++ b :: (c :: suf) := by rw [hx]; simp
        have e1 : wrap64 (((L ++ [b]).length : Int) - 1) = (L.length : Int) := by
          unfold small at hs
          rw [hx2] at hs
          simp only [List.length_append, List.length_cons, List.length_nil] at hs ⊢
          rw [w64 (by omega) (by omega)]; omega
        refine Ev.pos (by simp <;> omega) ?_
        simp only [e1, pre_0, if_true, pre_lt hx2, at_pre hx2, l02Less_eq, Option.bind_some]
        by_cases hl : ltC b c
        · have hl' : b.f1 < c.f1 ∨ b.f1 = c.f1 ∧ b.f0 < c.f0 := hl
          refine Ev.pos (by simpa using hl') (Ev.of_eq (ih () trivial) ?_)
          simp [goodFrom, hc, hl]
        · have hl' : ¬ (b.f1 < c.f1 ∨ b.f1 = c.f1 ∧ b.f0 < c.f0) := hl
          refine Ev.neg (by simpa using hl') (Ev.of_eq (Ev.now _) ?_)
          simp [goodFrom, hc, hl]
    · have hc' : ¬ (ok1 c.f0 ∧ ok1 c.f1) := hc
      simp only [hc', decide_false, Bool.false_eq_true, if_false]
      refine Ev.of_eq (Ev.now _) ?_
      simp [goodFrom, hc]
theorem implIsShape_ev (l : List Cell) (hs : small l) : Ev (fun k => impl_IsShape.f k l) (shapeB l) := by
  unfold impl_IsShape.f
  refine loop_list l (fun k i (_ : Unit) => impl_IsShape.l0 k l l (l.length : Int) i) (fun pre suf _ => goodFrom pre.getLast? suf && decide (1 ≤ (l.length : Int) ∧ (l.length : Int) ≤ 40)) (fun _ _ => True) ?_ ?_ () trivial
  · intro _ _
    simp only [impl_IsShape.l0, len_lt, if_false]
    refine Ev.of_eq (Ev.if_ (fun _ => Ev.now _) (fun _ => Ev.now _)) ?_
    by_cases h : (l.length : Int) ≥ 1
    · rw [if_pos h]; simp [goodFrom, show 1 ≤ (l.length : Int) from h]
    · rw [if_neg h]; simp [goodFrom, show ¬ 1 ≤ (l.length : Int) from h]
  · intro pre c suf _ hx _ ih
    simp only [impl_IsShape.l0, pre_lt hx, pre_0, if_true, at_pre hx, isCoordinate_eq, Option.bind_some, pre_w hx hs]
    by_cases hc : okC c
    · have hc' : ok1 c.f0 ∧ ok1 c.f1 := hc
      simp only [hc'.1, hc'.2, decide_true, if_true]
      rcases List.eq_nil_or_concat pre with rfl | ⟨L, b, rfl⟩
      · refine Ev.neg (by simp) (Ev.of_eq (ih () trivial) ?_)
        simp [goodFrom, hc]
      · rw [List.concat_eq_append] at hx ih ⊢
        have hx2 : l = L ++ b :: (c :: suf) := by rw [hx]; simp
        have e1 : wrap64 (((L ++ [b]).length : Int) - 1) = (L.length : Int) := by
          unfold small at hs
          rw [hx2] at hs
          simp only [List.length_append, List.length_cons, List.length_nil] at hs ⊢
          rw [w64 (by omega) (by omega)]; omega
        refine Ev.pos (by simp <;> omega) ?_
        simp only [e1, pre_0, if_true, pre_lt hx2, at_pre hx2, compareCells_eq, Option.bind_some]
        by_cases hl : ltC b c
        · refine Ev.neg (fun h => cmpC_ge.1 h hl) (Ev.of_eq (ih () trivial) ?_)
          simp [goodFrom, hc, hl]
        · refine Ev.pos (cmpC_ge.2 hl) (Ev.of_eq (Ev.now _) ?_)
          simp [goodFrom, hc, hl]
    · by_cases h0 : ok1 c.f0
      · have h1 : ¬ ok1 c.f1 := fun h => hc ⟨h0, h⟩
        simp only [h0, h1, decide_true, if_true, decide_false, Bool.false_eq_true, if_false]
        refine Ev.of_eq (Ev.now _) ?_
        simp [goodFrom, hc]
      · simp only [h0, decide_false, Bool.false_eq_true, if_false]
        refine Ev.of_eq (Ev.now _) ?_
        simp [goodFrom, hc]
theorem goodFrom_ok : ∀ (l : List Cell) (p : Option Cell), goodFrom p l = true → ∀ c ∈ l, okC c
  | [], _, _, c, h => by simp at h
  | a :: r, p, hg, c, h => by
    simp only [goodFrom, Bool.and_eq_true, decide_eq_true_eq] at hg
    rcases List.mem_cons.1 h with rfl | h
    · exact hg.1.1
    · exact goodFrom_ok r _ hg.2 c h
theorem ltC_trans {a b c : Cell} (h : ltC a b) (h' : ltC b c) : ltC a c := by unfold ltC at *; omega
theorem goodFrom_lt : ∀ (l : List Cell) (p : Option Cell), goodFrom p l = true → (∀ q, p = some q → ∀ c ∈ l, ltC q c) ∧ l.Pairwise ltC
  | [], _, _ => ⟨fun _ _ c h => by simp at h, List.Pairwise.nil⟩
  | a :: r, p, hg => by
    simp only [goodFrom, Bool.and_eq_true, decide_eq_true_eq] at hg
    obtain ⟨h1, h2⟩ := goodFrom_lt r (some a) hg.2
    have h3 := h1 a rfl
    refine ⟨fun q hq c hc => ?_, List.pairwise_cons.2 ⟨h3, h2⟩⟩
    subst hq
    have h4 : ltC q a := by simpa using hg.1.2
    rcases List.mem_cons.1 hc with rfl | hc
    · exact h4
    · exact ltC_trans h4 (h3 c hc)
theorem goodFrom_of : ∀ (l : List Cell) (p : Option Cell), (∀ c ∈ l, okC c) → (∀ q, p = some q → ∀ c ∈ l, ltC q c) → l.Pairwise ltC → goodFrom p l = true
  | [], _, _, _, _ => rfl
  | a :: r, p, h0, h1, h2 => by
    obtain ⟨h3, h4⟩ := List.pairwise_cons.1 h2
    simp only [goodFrom, Bool.and_eq_true, decide_eq_true_eq]
    refine ⟨⟨h0 a List.mem_cons_self, ?_⟩, goodFrom_of r (some a) (fun c hc => h0 c (List.mem_cons_of_mem _ hc)) (fun q hq c hc => by injection hq with hq; subst hq; exact h3 c hc) h4⟩
    cases p with
    | none => rfl
    | some q => simpa using h1 q rfl a List.mem_cons_self
theorem shapeB_iff {l : List Cell} : shapeB l = true ↔ (∀ c ∈ l, okC c) ∧ l.Pairwise ltC ∧ 1 ≤ l.length ∧ l.length ≤ 40 := by
  unfold shapeB
  rw [Bool.and_eq_true, decide_eq_true_eq]
  constructor
  · rintro ⟨h, h'⟩
    exact ⟨goodFrom_ok l _ h, (goodFrom_lt l _ h).2, by omega, by omega⟩
  · rintro ⟨h1, h2, h3, h4⟩
    exact ⟨goodFrom_of l none h1 (fun _ h => by cases h) h2, by omega, by omega⟩
def minX : Int → List Cell → Int := fun z l => l.foldl (fun m c => mn m c.f0) z
def minY : Int → List Cell → Int := fun z l => l.foldl (fun m c => mn m c.f1) z
def maxX : Int → List Cell → Int := fun z l => l.foldl (fun m c => mx m c.f0) z
def maxY : Int → List Cell → Int := fun z l => l.foldl (fun m c => mx m c.f1) z
def leastOf (l : List Cell) : Int × Int := match l with | [] => (0, 0) | c :: r => (minX c.f0 r, minY c.f1 r)
def reachOf (l : List Cell) : Int × Int := match l with | [] => (0, 0) | c :: r => (maxX c.f0 r, maxY c.f1 r)
theorem implCorner_ev (l : List Cell) (hs : small l) (h0 : 0 < l.length) : Ev (fun k => impl_corner.f k l) (leastOf l) := by
  unfold impl_corner.f
  obtain ⟨c, r, rfl⟩ : ∃ c r, l = c :: r := by cases l with | nil => simp at h0 | cons c r => exact ⟨c, r, rfl⟩
  refine Ev.pos (by simp <;> omega) ?_
  have h1 : rd_T59 (c :: r) 0 = c := rfl
  rw [h1]
  have := loop_list (c :: r) (fun k i (s : Int × Int) => impl_corner.l0 k (c :: r) ((c :: r).length : Int) i s.1 s.2) (fun _ suf s => (minX s.1 suf, minY s.2 suf)) (fun _ _ => True) ?_ ?_ (c.f0, c.f1) trivial
  · refine Ev.of_eq this ?_
    simp [leastOf, minX, minY, mn]
  · rintro s _
    simp only [impl_corner.l0, len_lt, if_false]
    exact Ev.now _
  · rintro pre d suf s hx _ ih
    simp only [impl_corner.l0, pre_lt hx, pre_0, if_true, at_pre hx, pre_w hx hs]
    exact ih (mn s.1 d.f0, mn s.2 d.f1) trivial
theorem implReach_ev (l : List Cell) (hs : small l) (h0 : 0 < l.length) : Ev (fun k => impl_reach.f k l) (reachOf l) := by
  unfold impl_reach.f
  obtain ⟨c, r, rfl⟩ : ∃ c r, l = c :: r := by cases l with | nil => simp at h0 | cons c r => exact ⟨c, r, rfl⟩
  refine Ev.pos (by simp <;> omega) ?_
  have h1 : rd_T59 (c :: r) 0 = c := rfl
  rw [h1]
  have := loop_list (c :: r) (fun k i (s : Int × Int) => impl_reach.l0 k (c :: r) ((c :: r).length : Int) i s.1 s.2) (fun _ suf s => (maxX s.1 suf, maxY s.2 suf)) (fun _ _ => True) ?_ ?_ (c.f0, c.f1) trivial
  · refine Ev.of_eq this ?_
    simp [reachOf, maxX, maxY, mx]
  · rintro s _
    simp only [impl_reach.l0, len_lt, if_false]
    exact Ev.now _
  · rintro pre d suf s hx _ ih
    simp only [impl_reach.l0, pre_lt hx, pre_0, if_true, at_pre hx, pre_w hx hs]
    exact ih (mx s.1 d.f0, mx s.2 d.f1) trivial
theorem loop_tail {α σ ρ : Type} (c : α) (r : List α) (l : Nat → Int → σ → Option ρ) (g : List α → List α → σ → ρ) (Inv : List α → σ → Prop)
    (hn : ∀ s, Inv (c :: r) s → Ev (fun k => l (k + 1) ((c :: r).length : Int) s) (g (c :: r) [] s))
    (hs : ∀ (pre : List α) (d : α) (suf : List α) (s : σ), c :: r = pre ++ d :: suf → pre ≠ [] → Inv pre s → (∀ s', Inv (pre ++ [d]) s' → Ev (fun k => l k ((pre.length : Int) + 1) s') (g (pre ++ [d]) suf s')) → Ev (fun k => l (k + 1) (pre.length : Int) s) (g pre (d :: suf) s)) :
    ∀ s, Inv [c] s → Ev (fun k => l k 1 s) (g [c] r s) := by
  have key : ∀ (suf pre : List α), c :: r = pre ++ suf → pre ≠ [] → ∀ s, Inv pre s → Ev (fun k => l k (pre.length : Int) s) (g pre suf s) := by
    intro suf
    induction suf with
    | nil =>
      intro pre hx _ s hi
      rw [List.append_nil] at hx
      subst hx
      exact Ev.succ (hn s hi)
    | cons d suf ih =>
      intro pre hx hp s hi
      refine Ev.succ (hs pre d suf s hx hp hi fun s' hi' => ?_)
      have := ih (pre ++ [d]) (by rw [hx]; simp) (by simp) s' hi'
      rw [List.length_append] at this
      exact this
  intro s hi
  exact key r [c] rfl (by simp) s hi
theorem specLeast_ev (l : List Cell) (hs : small l) (h0 : 0 < l.length) : Ev (fun k => spec_l02Least.f k l) (leastOf l) := by
  unfold spec_l02Least.f
  obtain ⟨c, r, rfl⟩ : ∃ c r, l = c :: r := by cases l with | nil => simp at h0 | cons c r => exact ⟨c, r, rfl⟩
  refine Ev.pos (by simp <;> omega) ?_
  have h1 : rd_T59 (c :: r) 0 = c := rfl
  rw [h1]
  refine loop_tail c r (fun k i (s : Int × Int) => spec_l02Least.l0 k (c :: r) s.1 s.2 i) (fun _ suf s => (minX s.1 suf, minY s.2 suf)) (fun _ _ => True) ?_ ?_ (c.f0, c.f1) trivial
  · rintro s _
    simp only [spec_l02Least.l0, len_lt, if_false]
    exact Ev.now _
  · rintro pre d suf s hx _ _ ih
    simp only [spec_l02Least.l0, pre_lt hx, pre_0, if_true, at_pre hx, pre_w hx hs]
    exact ih (mn s.1 d.f0, mn s.2 d.f1) trivial
theorem minX_le : ∀ (l : List Cell) (z : Int), minX z l ≤ z ∧ (∀ c ∈ l, minX z l ≤ c.f0) ∧ (minX z l = z ∨ ∃ c ∈ l, minX z l = c.f0)
  | [], z => ⟨Int.le_refl _, fun c h => by simp at h, .inl rfl⟩
  | a :: r, z => by
    obtain ⟨h1, h2, h3⟩ := minX_le r (mn z a.f0)
    have h4 : mn z a.f0 ≤ z ∧ mn z a.f0 ≤ a.f0 ∧ (mn z a.f0 = z ∨ mn z a.f0 = a.f0) := by unfold mn; split <;> omega
    have e : minX z (a :: r) = minX (mn z a.f0) r := rfl
    rw [e]
    refine ⟨by omega, fun c hc => ?_, ?_⟩
    · rcases List.mem_cons.1 hc with rfl | hc
      · omega
      · exact h2 c hc
    · rcases h3 with h3 | ⟨c, hc, h3⟩
      · rcases h4.2.2 with h5 | h5
        · exact .inl (h3.trans h5)
        · exact .inr ⟨a, List.mem_cons_self, h3.trans h5⟩
      · exact .inr ⟨c, List.mem_cons_of_mem _ hc, h3⟩
theorem minY_le : ∀ (l : List Cell) (z : Int), minY z l ≤ z ∧ (∀ c ∈ l, minY z l ≤ c.f1) ∧ (minY z l = z ∨ ∃ c ∈ l, minY z l = c.f1)
  | [], z => ⟨Int.le_refl _, fun c h => by simp at h, .inl rfl⟩
  | a :: r, z => by
    obtain ⟨h1, h2, h3⟩ := minY_le r (mn z a.f1)
    have h4 : mn z a.f1 ≤ z ∧ mn z a.f1 ≤ a.f1 ∧ (mn z a.f1 = z ∨ mn z a.f1 = a.f1) := by unfold mn; split <;> omega
    have e : minY z (a :: r) = minY (mn z a.f1) r := rfl
    rw [e]
    refine ⟨by omega, fun c hc => ?_, ?_⟩
    · rcases List.mem_cons.1 hc with rfl | hc
      · omega
      · exact h2 c hc
    · rcases h3 with h3 | ⟨c, hc, h3⟩
      · rcases h4.2.2 with h5 | h5
        · exact .inl (h3.trans h5)
        · exact .inr ⟨a, List.mem_cons_self, h3.trans h5⟩
      · exact .inr ⟨c, List.mem_cons_of_mem _ hc, h3⟩
theorem least_le {l : List Cell} {c : Cell} (h : c ∈ l) : (leastOf l).1 ≤ c.f0 ∧ (leastOf l).2 ≤ c.f1 := by
  cases l with
  | nil => simp at h
  | cons a r =>
    have hx := minX_le r a.f0
    have hy := minY_le r a.f1
    show minX a.f0 r ≤ c.f0 ∧ minY a.f1 r ≤ c.f1
    rcases List.mem_cons.1 h with rfl | h
    · exact ⟨hx.1, hy.1⟩
    · exact ⟨hx.2.1 c h, hy.2.1 c h⟩
theorem least_mem {l : List Cell} (h : l ≠ []) : (∃ c ∈ l, (leastOf l).1 = c.f0) ∧ (∃ c ∈ l, (leastOf l).2 = c.f1) := by
  cases l with
  | nil => exact absurd rfl h
  | cons a r =>
    refine ⟨?_, ?_⟩
    · rcases (minX_le r a.f0).2.2 with e | ⟨c, hc, e⟩
      · exact ⟨a, List.mem_cons_self, e⟩
      · exact ⟨c, List.mem_cons_of_mem _ hc, e⟩
    · rcases (minY_le r a.f1).2.2 with e | ⟨c, hc, e⟩
      · exact ⟨a, List.mem_cons_self, e⟩
      · exact ⟨c, List.mem_cons_of_mem _ hc, e⟩
theorem least_ok {l : List Cell} (h : l ≠ []) (ho : ∀ c ∈ l, okC c) : ok1 (leastOf l).1 ∧ ok1 (leastOf l).2 := by
  obtain ⟨⟨c, hc, e⟩, ⟨d, hd, e'⟩⟩ := least_mem h
  rw [e, e']
  exact ⟨(ho c hc).1, (ho d hd).2⟩
def sizeOf_ (l : List Cell) : Int × Int := ((reachOf l).1 - (leastOf l).1 + 1, (reachOf l).2 - (leastOf l).2 + 1)
theorem foldW (x : Int) : ∀ (l : List Cell) (m : Int), l.foldl (fun m c => mx m (c.f0 - x + 1)) (m - x + 1) = maxX m l - x + 1
  | [], m => rfl
  | a :: r, m => by
    have : mx (m - x + 1) (a.f0 - x + 1) = mx m a.f0 - x + 1 := by unfold mx; split <;> split <;> omega
    simp only [List.foldl_cons, this, foldW x r]
    rfl
theorem foldH (x : Int) : ∀ (l : List Cell) (m : Int), l.foldl (fun m c => mx m (c.f1 - x + 1)) (m - x + 1) = maxY m l - x + 1
  | [], m => rfl
  | a :: r, m => by
    have : mx (m - x + 1) (a.f1 - x + 1) = mx m a.f1 - x + 1 := by unfold mx; split <;> split <;> omega
    simp only [List.foldl_cons, this, foldH x r]
    rfl
theorem specSize_ev (l : List Cell) (hs : small l) (h0 : l ≠ []) (ho : ∀ c ∈ l, okC c) : Ev (fun k => spec_l04Size.f k l) (sizeOf_ l) := by
  unfold spec_l04Size.f
  refine Ev.bind (specLeast_ev l hs (List.length_pos_iff.2 h0)) ?_
  have hb := least_ok h0 ho
  have := loop_list l (fun k i (s : Int × Int) => spec_l04Size.l0 k l (leastOf l).1 (leastOf l).2 s.1 s.2 i)
    (fun _ suf s => (suf.foldl (fun m c => mx m (c.f0 - (leastOf l).1 + 1)) s.1, suf.foldl (fun m c => mx m (c.f1 - (leastOf l).2 + 1)) s.2)) (fun _ _ => True) ?_ ?_ (0, 0) trivial
  · refine Ev.of_eq this ?_
    obtain ⟨a, r, rfl⟩ : ∃ a r, l = a :: r := by cases l with | nil => exact absurd rfl h0 | cons a r => exact ⟨a, r, rfl⟩
    have hl := least_le (l := a :: r) (c := a) List.mem_cons_self
    have e1 : mx 0 (a.f0 - (leastOf (a :: r)).1 + 1) = a.f0 - (leastOf (a :: r)).1 + 1 := by unfold mx; split <;> omega
    have e2 : mx 0 (a.f1 - (leastOf (a :: r)).2 + 1) = a.f1 - (leastOf (a :: r)).2 + 1 := by unfold mx; split <;> omega
    simp only [List.foldl_cons, e1, e2, foldW, foldH]
    rfl
  · rintro s _
    simp only [spec_l04Size.l0, len_lt, if_false]
    exact Ev.now _
  · rintro pre d suf s hx _ ih
    have hd := ho d (by rw [hx]; simp)
    unfold okC ok1 at hd
    unfold ok1 at hb
    have e1 : wrap64 (wrap64 (d.f0 - (leastOf l).1) + 1) = d.f0 - (leastOf l).1 + 1 := by rw [w64 (n := d.f0 - (leastOf l).1) (by omega) (by omega), w64 (by omega) (by omega)]
    have e2 : wrap64 (wrap64 (d.f1 - (leastOf l).2) + 1) = d.f1 - (leastOf l).2 + 1 := by rw [w64 (n := d.f1 - (leastOf l).2) (by omega) (by omega), w64 (by omega) (by omega)]
    simp only [spec_l04Size.l0, pre_lt hx, pre_0, if_true, at_pre hx, pre_w hx hs, e1, e2]
    exact ih (mx s.1 (d.f0 - (leastOf l).1 + 1), mx s.2 (d.f1 - (leastOf l).2 + 1)) trivial
def regionB (l : List Cell) : Bool := shapeB l && (decide ((leastOf l).1 = 0) && (decide ((leastOf l).2 = 0) && (decide ((reachOf l).1 < 20) && decide ((reachOf l).2 < 20))))
theorem shape_ne {l : List Cell} (h : shapeB l = true) : l ≠ [] := by
  have := (shapeB_iff.1 h).2.2.1
  intro e
  rw [e] at this
  simp at this
theorem specIsRegion_ev (l : List Cell) (hs : small l) : Ev (fun k => spec_IsRegion.f k l) (regionB l) := by
  unfold spec_IsRegion.f
  refine Ev.bind (specIsShape_ev l hs) ?_
  unfold regionB
  by_cases h : shapeB l = true
  · have hn := shape_ne h
    have ho := (shapeB_iff.1 h).1
    refine Ev.pos h (Ev.bind (specSize_ev l hs hn ho) (Ev.bind (specLeast_ev l hs (List.length_pos_iff.2 hn)) ?_))
    rw [h, Bool.true_and]
    by_cases h1 : (leastOf l).1 = 0
    · refine Ev.pos h1 ?_
      by_cases h2 : (leastOf l).2 = 0
      · refine Ev.pos h2 ?_
        simp only [sizeOf_, h1, h2, decide_true, Bool.true_and]
        by_cases h3 : (reachOf l).1 < 20
        · refine Ev.pos (by omega) (Ev.of_eq (Ev.now _) ?_)
          simp [h3]; omega
        · refine Ev.neg (by omega) (Ev.of_eq (Ev.now _) ?_)
          simp [h3]
      · exact Ev.neg h2 (Ev.of_eq (Ev.now _) (by simp [h2]))
    · exact Ev.neg h1 (Ev.of_eq (Ev.now _) (by simp [h1]))
  · exact Ev.neg h (Ev.of_eq (Ev.now _) (by simp [h]))
theorem implIsRegion_ev (l : List Cell) (hs : small l) : Ev (fun k => impl_IsRegion.f k l) (regionB l) := by
  unfold impl_IsRegion.f
  refine Ev.bind (implIsShape_ev l hs) ?_
  unfold regionB
  by_cases h : shapeB l = true
  · have hn := shape_ne h
    refine Ev.pos h (Ev.bind (implCorner_ev l hs (List.length_pos_iff.2 hn)) ?_)
    rw [h, Bool.true_and]
    by_cases h1 : (leastOf l).1 = 0
    · by_cases h2 : (leastOf l).2 = 0
      · refine Ev.neg (by simp [h1, h2]) (Ev.bind (implReach_ev l hs (List.length_pos_iff.2 hn)) ?_)
        simp only [h1, h2, decide_true, Bool.true_and]
        by_cases h3 : (reachOf l).1 < 20
        · exact Ev.pos h3 (Ev.of_eq (Ev.now _) (by simp [h3]))
        · exact Ev.neg h3 (Ev.of_eq (Ev.now _) (by simp [h3]))
      · exact Ev.pos (by simp [h2]) (Ev.of_eq (Ev.now _) (by simp [h2]))
    · exact Ev.pos (by simp [h1]) (Ev.of_eq (Ev.now _) (by simp [h1]))
  · exact Ev.neg h (Ev.of_eq (Ev.now _) (by simp [h]))
def moveL (l : List Cell) (x y : Int) : List Cell := l.map fun c => ⟨wrap64 (c.f0 + x), wrap64 (c.f1 + y)⟩
theorem moveL_len (l : List Cell) (x y : Int) : (moveL l x y).length = l.length := by simp [moveL]
theorem specMove_ev (l : List Cell) (x y : Int) (hl : l.length ≤ 1048576) : Ev (fun k => spec_l02Move.f k l x y) (moveL l x y) := by
  have hs : small l := by unfold small; omega
  unfold spec_l02Move.f
  have := loop_list l (fun k i (s : List Cell) => spec_l02Move.l0 k l x y s i) (fun pre suf s => s ++ moveL suf x y) (fun pre s => s.length = pre.length) ?_ ?_ [] rfl
  · simpa using this
  · intro s _
    simp only [spec_l02Move.l0, len_lt, if_false]
    exact Ev.of_eq (Ev.now _) (by simp [moveL])
  · intro pre c suf s hx hi ih
    have hp := pre_len hx
    simp only [spec_l02Move.l0, pre_lt hx, pre_0, if_true, at_pre hx, pre_w hx hs]
    refine Ev.pos (by omega) (Ev.of_eq (ih _ (by simp [hi])) ?_)
    simp [moveL]
theorem implMoved_ev (l : List Cell) (x y : Int) (hl : l.length ≤ 1048576) : Ev (fun k => impl_moved.f k l x y) (moveL l x y) := by
  have hs : small l := by unfold small; omega
  unfold impl_moved.f
  refine Ev.pos (by omega) (Ev.pos (by omega) ?_)
  have := loop_list l (fun k i (s : List Cell) => impl_moved.l0 k x y s l (l.length : Int) i) (fun pre suf s => s ++ moveL suf x y) (fun pre s => s.length = pre.length) ?_ ?_ [] rfl
  · simpa using this
  · intro s _
    simp only [impl_moved.l0, len_lt, if_false]
    exact Ev.of_eq (Ev.now _) (by simp [moveL])
  · intro pre c suf s hx hi ih
    have hp := pre_len hx
    simp only [impl_moved.l0, pre_lt hx, pre_0, if_true, at_pre hx, pre_w hx hs]
    refine Ev.pos (by omega) (Ev.of_eq (ih _ (by simp [hi])) ?_)
    simp [moveL]
def normalL (l : List Cell) : List Cell := moveL l (wrap64 (-(leastOf l).1)) (wrap64 (-(leastOf l).2))
theorem normalL_len (l : List Cell) : (normalL l).length = l.length := moveL_len _ _ _
theorem specNormal_ev (l : List Cell) (hl : l.length ≤ 1048576) (h0 : 0 < l.length) : Ev (fun k => spec_l02Normal.f k l) (normalL l) := by
  unfold spec_l02Normal.f
  refine Ev.bind (specLeast_ev l (by unfold small; omega) h0) (Ev.bind (specMove_ev l _ _ hl) (Ev.now _))
theorem implNormal_ev (l : List Cell) (hl : l.length ≤ 1048576) (h0 : 0 < l.length) : Ev (fun k => impl_normal.f k l) (normalL l) := by
  unfold impl_normal.f
  refine Ev.bind (implCorner_ev l (by unfold small; omega) h0) (Ev.bind (implMoved_ev l _ _ hl) (Ev.now _))
def risesF (n : Int) : Option Int → List Int → Bool
  | _, [] => true
  | p, c :: r => decide (0 ≤ c ∧ c ≤ n - 1) && (match p with | none => true | some q => decide (q < c)) && risesF n (some c) r
theorem specRises_ev (l : List Int) (n : Int) (h0 : 0 ≤ n) (h1 : n ≤ 1048576) (hs : small l) : Ev (fun k => spec_l01Rises.f k l n) (risesF n none l) := by
  unfold spec_l01Rises.f
  have e0 : wrap64 (n - 1) = n - 1 := w64 (by omega) (by omega)
  refine loop_list l (fun k i (_ : Unit) => spec_l01Rises.l0 k l n i) (fun pre suf _ => risesF n pre.getLast? suf) (fun _ _ => True) ?_ ?_ () trivial
  · intro _ _
    simp only [spec_l01Rises.l0, len_lt, if_false]
    exact Ev.of_eq (Ev.now _) (by simp [risesF])
  · intro pre c suf _ hx _ ih
    simp only [spec_l01Rises.l0, pre_lt hx, pre_0, if_true, at_preI hx, in_eq, Option.bind_some, pre_w hx hs, e0]
    by_cases hc : 0 ≤ c ∧ c ≤ n - 1
    · simp only [hc, and_self, decide_true, if_true]
      rcases List.eq_nil_or_concat pre with rfl | ⟨L, b, rfl⟩
      · refine Ev.neg (by simp) (Ev.of_eq (ih () trivial) ?_)
        simp [risesF, hc]
      · rw [List.concat_eq_append] at hx ih ⊢
        have hx2 : l = L ++ b :: (c :: suf) := by rw [hx]; simp
        have e1 : wrap64 (((L ++ [b]).length : Int) - 1) = (L.length : Int) := by
          unfold small at hs
          rw [hx2] at hs
          simp only [List.length_append, List.length_cons, List.length_nil] at hs ⊢
          rw [w64 (by omega) (by omega)]; omega
        refine Ev.pos (by simp <;> omega) ?_
        simp only [e1, pre_0, if_true, pre_lt hx2, at_preI hx2]
        by_cases hl : b < c
        · refine Ev.neg (by omega) (Ev.of_eq (ih () trivial) ?_)
          simp [risesF, hc, hl]
        · refine Ev.pos (by omega) (Ev.of_eq (Ev.now _) ?_)
          simp [risesF, hc, hl]
    · simp only [hc, decide_false, Bool.false_eq_true, if_false]
      refine Ev.of_eq (Ev.now _) ?_
      simp [risesF, hc]
theorem implIncreasing_ev (l : List Int) (n : Int) (h0 : 0 ≤ n) (h1 : n ≤ 1048576) (hs : small l) : Ev (fun k => impl_isIncreasing.f k l n) (risesF n none l) := by
  unfold impl_isIncreasing.f
  have e0 : wrap64 (n - 1) = n - 1 := w64 (by omega) (by omega)
  refine loop_list l (fun k i (_ : Unit) => impl_isIncreasing.l0 k l n l (l.length : Int) i) (fun pre suf _ => risesF n pre.getLast? suf) (fun _ _ => True) ?_ ?_ () trivial
  · intro _ _
    simp only [impl_isIncreasing.l0, len_lt, if_false]
    exact Ev.of_eq (Ev.now _) (by simp [risesF])
  · intro pre c suf _ hx _ ih
    simp only [impl_isIncreasing.l0, pre_lt hx, pre_0, if_true, at_preI hx, within_eq, Option.bind_some, pre_w hx hs, e0]
    by_cases hc : 0 ≤ c ∧ c ≤ n - 1
    · simp only [hc, and_self, decide_true, if_true]
      rcases List.eq_nil_or_concat pre with rfl | ⟨L, b, rfl⟩
      · refine Ev.neg (by simp) (Ev.of_eq (ih () trivial) ?_)
        simp [risesF, hc]
      · rw [List.concat_eq_append] at hx ih ⊢
        have hx2 : l = L ++ b :: (c :: suf) := by rw [hx]; simp
        have e1 : wrap64 (((L ++ [b]).length : Int) - 1) = (L.length : Int) := by
          unfold small at hs
          rw [hx2] at hs
          simp only [List.length_append, List.length_cons, List.length_nil] at hs ⊢
          rw [w64 (by omega) (by omega)]; omega
        refine Ev.pos (by simp <;> omega) ?_
        simp only [e1, pre_0, if_true, pre_lt hx2, at_preI hx2]
        by_cases hl : b < c
        · refine Ev.neg (by omega) (Ev.of_eq (ih () trivial) ?_)
          simp [risesF, hc, hl]
        · refine Ev.pos (by omega) (Ev.of_eq (Ev.now _) ?_)
          simp [risesF, hc, hl]
    · simp only [hc, decide_false, Bool.false_eq_true, if_false]
      refine Ev.of_eq (Ev.now _) ?_
      simp [risesF, hc]
def codeOf (l : List Cell) (s : List Int) : Int := if regionB l = true then (if risesF (l.length : Int) none s = true then 0 else 2) else 1
theorem specCode_ev (l : List Cell) (s : List Int) (hl : l.length ≤ 1048576) (hs : small s) : Ev (fun k => spec_l10Code.f k l s) (codeOf l s) := by
  unfold spec_l10Code.f codeOf
  refine Ev.bind (specIsRegion_ev l (by unfold small; omega)) (Ev.if_ (fun _ => ?_) (fun _ => Ev.now _))
  exact Ev.bind (specRises_ev s _ (by omega) (by omega) hs) (Ev.if_ (fun _ => Ev.now _) (fun _ => Ev.now _))
theorem implCode_ev (l : List Cell) (s : List Int) (hl : l.length ≤ 1048576) (hs : small s) : Ev (fun k => impl_setCode.f k l s) (codeOf l s) := by
  unfold impl_setCode.f codeOf
  refine Ev.bind (implIsRegion_ev l (by unfold small; omega)) (Ev.if_ (fun _ => ?_) (fun _ => Ev.now _))
  exact Ev.bind (implIncreasing_ev s _ (by omega) (by omega) hs) (Ev.if_ (fun _ => Ev.now _) (fun _ => Ev.now _))
theorem risesF_spec (n : Int) : ∀ (s : List Int) (p : Option Int), risesF n p s = true → (∀ i ∈ s, 0 ≤ i ∧ i < n) ∧ (∀ q, p = some q → ∀ i ∈ s, q < i) ∧ s.Pairwise (· < ·)
  | [], _, _ => ⟨fun i h => by simp at h, fun _ _ i h => by simp at h, List.Pairwise.nil⟩
  | a :: r, p, h => by
    simp only [risesF, Bool.and_eq_true, decide_eq_true_eq] at h
    obtain ⟨h1, h2, h3⟩ := risesF_spec n r (some a) h.2
    have h4 := h2 a rfl
    refine ⟨fun i hi => ?_, fun q hq i hi => ?_, List.pairwise_cons.2 ⟨h4, h3⟩⟩
    · rcases List.mem_cons.1 hi with rfl | hi
      · omega
      · exact h1 i hi
    · subst hq
      have h5 : q < a := by simpa using h.1.2
      rcases List.mem_cons.1 hi with rfl | hi
      · exact h5
      · have := h4 i hi; omega
theorem codeOf_zero {l : List Cell} {s : List Int} (h : codeOf l s = 0) : regionB l = true ∧ (∀ i ∈ s, 0 ≤ i ∧ i < (l.length : Int)) ∧ s.Pairwise (· < ·) := by
  unfold codeOf at h
  by_cases hr : regionB l = true
  · rw [if_pos hr] at h
    by_cases hs : risesF (l.length : Int) none s = true
    · obtain ⟨h1, _, h3⟩ := risesF_spec _ s none hs
      exact ⟨hr, h1, h3⟩
    · rw [if_neg hs] at h; omega
  · rw [if_neg hr] at h; omega
theorem rising_len : ∀ (s : List Int) (a n : Int), (∀ i ∈ s, a ≤ i ∧ i < n) → s.Pairwise (· < ·) → a ≤ n → (s.length : Int) ≤ n - a ∧ ((s.length : Int) = n - a ↔ ∀ i, a ≤ i → i < n → i ∈ s)
  | [], a, n, _, _, han => by
    refine ⟨by simp; omega, fun h i h1 h2 => by simp at h; omega, fun h => ?_⟩
    by_cases e : a < n
    · simpa using h a (Int.le_refl _) e
    · simp; omega
  | c :: r, a, n, h1, h2, han => by
    obtain ⟨h3, h4⟩ := List.pairwise_cons.1 h2
    have hc := h1 c List.mem_cons_self
    obtain ⟨h5, h6⟩ := rising_len r (c + 1) n (fun i hi => ⟨by have := h3 i hi; omega, (h1 i (List.mem_cons_of_mem _ hi)).2⟩) h4 (by omega)
    rw [List.length_cons]
    refine ⟨by omega, fun h i hi hi' => ?_, fun h => ?_⟩
    · have hca : c = a := by omega
      by_cases e : i = c
      · exact e ▸ List.mem_cons_self
      · exact List.mem_cons_of_mem _ (h6.1 (by omega) i (by omega) hi')
    · have hca : c = a := by
        have := h a (Int.le_refl _) (by omega)
        rcases List.mem_cons.1 this with e | e
        · exact e.symm
        · have := h3 a e; omega
      have := h6.2 fun i hi hi' => by
        rcases List.mem_cons.1 (h i (by omega) hi') with e | e
        · omega
        · exact e
      omega
def cellsAt (l : List Cell) (s : List Int) : List Cell := s.map fun i => rd_T59 l i
theorem specCells_ev (l : List Cell) (s : List Int) (hs : s.length ≤ 1048576) (h : ∀ i ∈ s, 0 ≤ i ∧ i < (l.length : Int)) : Ev (fun k => spec_l10Cells.f k l s) (cellsAt l s) := by
  have hss : small s := by unfold small; omega
  unfold spec_l10Cells.f
  have := loop_list s (fun k i (q : List Cell) => spec_l10Cells.l0 k l s q i) (fun pre suf q => q ++ cellsAt l suf) (fun pre q => q.length = pre.length) ?_ ?_ [] rfl
  · simpa using this
  · intro q _
    simp only [spec_l10Cells.l0, len_lt, if_false]
    exact Ev.of_eq (Ev.now _) (by simp [cellsAt])
  · intro pre c suf q hx hi ih
    have hp := pre_len hx
    have hc := h c (by rw [hx]; simp)
    simp only [spec_l10Cells.l0, pre_lt hx, pre_0, if_true, at_preI hx, pre_w hx hss]
    refine Ev.pos hc.1 (Ev.pos hc.2 (Ev.pos (by omega) (Ev.of_eq (ih _ (by simp [hi])) ?_)))
    simp [cellsAt]
theorem implCells_ev (l : List Cell) (s : List Int) (hs : s.length ≤ 1048576) (h : ∀ i ∈ s, 0 ≤ i ∧ i < (l.length : Int)) : Ev (fun k => impl_setToCells.f k l s) (cellsAt l s) := by
  have hss : small s := by unfold small; omega
  unfold impl_setToCells.f
  have := loop_list s (fun k i (q : List Cell) => impl_setToCells.l0 k l q s (s.length : Int) i) (fun pre suf q => q ++ cellsAt l suf) (fun pre q => q.length = pre.length) ?_ ?_ [] rfl
  · simpa using this
  · intro q _
    simp only [impl_setToCells.l0, len_lt, if_false]
    exact Ev.of_eq (Ev.now _) (by simp [cellsAt])
  · intro pre c suf q hx hi ih
    have hp := pre_len hx
    have hc := h c (by rw [hx]; simp)
    simp only [impl_setToCells.l0, pre_lt hx, pre_0, if_true, at_preI hx, pre_w hx hss]
    refine Ev.pos hc.1 (Ev.pos hc.2 (Ev.pos (by omega) (Ev.of_eq (ih _ (by simp [hi])) ?_)))
    simp [cellsAt]
def setCells (l : List Cell) (s : List Int) : List Cell × Int := if codeOf l s = 0 then (cellsAt l s, 0) else ([], codeOf l s)
theorem implSetToCells_ev (l : List Cell) (s : List Int) (hl : l.length ≤ 1048576) (hs : s.length ≤ 1048576) : Ev (fun k => impl_SetToCells.f k l s) (setCells l s) := by
  unfold impl_SetToCells.f setCells
  refine Ev.bind (implCode_ev l s hl (by unfold small; omega)) (Ev.if_ (fun h => ?_) (fun _ => Ev.now _))
  exact Ev.bind (implCells_ev l s hs (codeOf_zero h).2.1) (Ev.now _)
def hasI (s : List Int) (i : Int) : Bool := decide (i ∈ s)
theorem specHas_ev (s : List Int) (i : Int) (hs : small s) : Ev (fun k => spec_l01Has.f k s i) (hasI s i) := by
  unfold spec_l01Has.f
  refine loop_list s (fun k j (_ : Unit) => spec_l01Has.l0 k s i j) (fun pre suf _ => hasI suf i) (fun _ _ => True) ?_ ?_ () trivial
  · intro _ _
    simp only [spec_l01Has.l0, len_lt, if_false]
    exact Ev.of_eq (Ev.now _) (by simp [hasI])
  · intro pre c suf _ hx _ ih
    simp only [spec_l01Has.l0, pre_lt hx, pre_0, if_true, at_preI hx, pre_w hx hs]
    by_cases hc : c = i
    · exact Ev.pos hc (Ev.of_eq (Ev.now _) (by simp [hasI, hc]))
    · refine Ev.neg hc (Ev.of_eq (ih () trivial) ?_)
      have : ¬ i = c := fun e => hc e.symm
      simp [hasI, this]
def idxI : List Int → Int → Int → Int
  | [], _, _ => -1
  | a :: r, c, i => if c = a then i else idxI r c (i + 1)
theorem idxI_mem : ∀ (s : List Int) (c i : Int), 0 ≤ i → (idxI s c i ≥ 0 ↔ c ∈ s)
  | [], c, i, _ => by simp [idxI]
  | a :: r, c, i, hi => by
    unfold idxI
    by_cases h : c = a
    · rw [if_pos h]; simp [h, hi]
    · rw [if_neg h, idxI_mem r c (i + 1) (by omega)]; simp [h]
theorem implHas_ev (s : List Int) (i : Int) (hs : small s) : Ev (fun k => slices_Contains_int64_int64.f k s i) (hasI s i) := by
  unfold slices_Contains_int64_int64.f slices_Index_int64_int64.f
  have := loop_list s (fun k j (_ : Unit) => slices_Index_int64_int64.l0 k s i (s.length : Int) j) (fun pre suf _ => idxI suf i (pre.length : Int)) (fun _ _ => True) ?_ ?_ () trivial
  · refine Ev.bind this (Ev.of_eq (Ev.now _) ?_)
    have h := idxI_mem s i 0 (Int.le_refl _)
    unfold hasI
    rw [Bool.eq_iff_iff, decide_eq_true_eq, decide_eq_true_eq]
    exact h
  · intro _ _
    simp only [slices_Index_int64_int64.l0, len_lt, if_false]
    exact Ev.of_eq (Ev.now _) (by simp [idxI])
  · intro pre c suf _ hx _ ih
    simp only [slices_Index_int64_int64.l0, pre_lt hx, pre_0, if_true, at_preI hx, pre_w hx hs, idxI]
    refine Ev.if_ (fun _ => Ev.now _) (fun _ => Ev.of_eq (ih () trivial) ?_)
    simp
def restF (s : List Int) : Int → List Cell → List Cell
  | _, [] => []
  | i, c :: r => if hasI s i = true then restF s (i + 1) r else c :: restF s (i + 1) r
theorem restF_len (s : List Int) : ∀ (r : List Cell) (i : Int), (restF s i r).length ≤ r.length
  | [], _ => Nat.le_refl _
  | c :: r, i => by
    have := restF_len s r (i + 1)
    unfold restF
    split <;> simp only [List.length_cons] <;> omega
theorem restF_nil (s : List Int) : ∀ (r : List Cell) (i : Int), restF s i r = [] ↔ ∀ j, i ≤ j → j < i + (r.length : Int) → j ∈ s
  | [], i => by simp [restF]; omega
  | c :: r, i => by
    unfold restF
    by_cases h : hasI s i = true
    · rw [if_pos h, restF_nil s r (i + 1), List.length_cons]
      have hi : i ∈ s := by simpa [hasI] using h
      constructor
      · intro h1 j h2 h3
        by_cases e : j = i
        · exact e ▸ hi
        · exact h1 j (by omega) (by omega)
      · intro h1 j h2 h3
        exact h1 j (by omega) (by omega)
    · rw [if_neg h]
      have hi : i ∉ s := by simpa [hasI] using h
      constructor
      · intro h1; simp at h1
      · intro h1; exact absurd (h1 i (Int.le_refl _) (by rw [List.length_cons]; omega)) hi
theorem specRest_ev (l : List Cell) (s : List Int) (hl : l.length ≤ 1048576) (hs : small s) : Ev (fun k => spec_l10Rest.f k l s) (restF s 0 l) := by
  have hsl : small l := by unfold small; omega
  unfold spec_l10Rest.f
  have := loop_list l (fun k i (q : List Cell) => spec_l10Rest.l0 k l s q i) (fun pre suf q => q ++ restF s (pre.length : Int) suf) (fun pre q => q.length ≤ pre.length) ?_ ?_ [] (Nat.le_refl _)
  · simpa using this
  · intro q _
    simp only [spec_l10Rest.l0, len_lt, if_false]
    exact Ev.of_eq (Ev.now _) (by simp [restF])
  · intro pre c suf q hx hi ih
    have hp := pre_len hx
    simp only [spec_l10Rest.l0, pre_lt hx, pre_0, if_true, at_pre hx, pre_w hx hsl]
    refine Ev.bind (specHas_ev s _ hs) ?_
    by_cases h : hasI s (pre.length : Int) = true
    · refine Ev.pos h (Ev.of_eq (ih q (by simp; omega)) ?_)
      simp [restF, h]
    · refine Ev.neg h (Ev.pos (by omega) (Ev.of_eq (ih _ (by simp; omega)) ?_))
      simp [restF, h]
theorem implWithout_ev (l : List Cell) (s : List Int) (hl : l.length ≤ 1048576) (hs : small s) : Ev (fun k => impl_without.f k l s) (restF s 0 l) := by
  have hsl : small l := by unfold small; omega
  unfold impl_without.f
  have := loop_list l (fun k i (q : List Cell) => impl_without.l0 k s q l (l.length : Int) i) (fun pre suf q => q ++ restF s (pre.length : Int) suf) (fun pre q => q.length ≤ pre.length) ?_ ?_ [] (Nat.le_refl _)
  · simpa using this
  · intro q _
    simp only [impl_without.l0, len_lt, if_false]
    exact Ev.of_eq (Ev.now _) (by simp [restF])
  · intro pre c suf q hx hi ih
    have hp := pre_len hx
    simp only [impl_without.l0, pre_lt hx, pre_0, if_true, at_pre hx, pre_w hx hsl]
    refine Ev.bind (implHas_ev s _ hs) ?_
    by_cases h : hasI s (pre.length : Int) = true
    · refine Ev.pos h (Ev.of_eq (ih q (by simp; omega)) ?_)
      simp [restF, h]
    · refine Ev.neg h (Ev.pos (by omega) (Ev.of_eq (ih _ (by simp; omega)) ?_))
      simp [restF, h]
def cutR (l : List Cell) (s : List Int) : List Cell × Int := if codeOf l s = 0 then (if s.length = l.length then ([], 5) else (normalL (restF s 0 l), 0)) else ([], codeOf l s)
theorem cutR_len (l : List Cell) (s : List Int) : (cutR l s).1.length ≤ l.length := by
  unfold cutR
  have := restF_len s l 0
  split
  · split
    · simp
    · simp only [normalL_len]; exact this
  · simp
theorem rest_empty {l : List Cell} {s : List Int} (h : codeOf l s = 0) : restF s 0 l = [] ↔ s.length = l.length := by
  obtain ⟨h1, h2, h3⟩ := codeOf_zero h
  obtain ⟨h4, h5⟩ := rising_len s 0 (l.length : Int) h2 h3 (by omega)
  rw [restF_nil]
  constructor
  · intro h6
    have := h5.2 fun i hi hi' => h6 i hi (by omega)
    omega
  · intro h6 j hj hj'
    exact h5.1 (by omega) j hj (by omega)
theorem specCut_ev (l : List Cell) (s : List Int) (hl : l.length ≤ 1048576) (hs : s.length ≤ 1048576) : Ev (fun k => spec_CutRegion.f k l s) (cutR l s) := by
  have hss : small s := by unfold small; omega
  unfold spec_CutRegion.f cutR
  refine Ev.bind (specCode_ev l s hl hss) ?_
  by_cases h : codeOf l s = 0
  · rw [if_pos h]
    refine Ev.pos h ?_
    by_cases he : s.length = l.length
    · rw [if_pos he]
      have e1 : ((s.length : Int) == (l.length : Int)) = true := by simp [he]
      simp only [e1]
      refine Ev.step (fun k => spec_CutRegion.j0.eq_2 _ _ _ _ _) (Ev.pos rfl (Ev.step (fun k => spec_CutRegion.j1.eq_2 _ _ _ _) (Ev.neg (by decide) (Ev.now _))))
    · rw [if_neg he]
      have e1 : ((s.length : Int) == (l.length : Int)) = false := by
        rw [beq_eq_false_iff_ne]; intro e; apply he; omega
      simp only [e1]
      have hn : restF s 0 l ≠ [] := fun e => he ((rest_empty h).1 e)
      have hr := restF_len s l 0
      refine Ev.step (fun k => spec_CutRegion.j0.eq_2 _ _ _ _ _) (Ev.neg (by simp) (Ev.step (fun k => spec_CutRegion.j1.eq_2 _ _ _ _) (Ev.pos h ?_)))
      exact Ev.bind (specRest_ev l s hl hss) (Ev.bind (specNormal_ev _ (by omega) (List.length_pos_iff.2 hn)) (Ev.now _))
  · rw [if_neg h]
    exact Ev.neg h (Ev.step (fun k => spec_CutRegion.j0.eq_2 _ _ _ _ _) (Ev.neg (by simp) (Ev.step (fun k => spec_CutRegion.j1.eq_2 _ _ _ _) (Ev.neg h (Ev.now _)))))
theorem implCut_ev (l : List Cell) (s : List Int) (hl : l.length ≤ 1048576) (hs : s.length ≤ 1048576) : Ev (fun k => impl_CutRegion.f k l s) (cutR l s) := by
  have hss : small s := by unfold small; omega
  unfold impl_CutRegion.f cutR
  refine Ev.bind (implCode_ev l s hl hss) ?_
  by_cases h : codeOf l s = 0
  · rw [if_pos h]
    refine Ev.pos h (Ev.bind (implWithout_ev l s hl hss) ?_)
    have hr := restF_len s l 0
    by_cases he : s.length = l.length
    · rw [if_pos he]
      have := (rest_empty h).2 he
      exact Ev.pos (by rw [this]; rfl) (Ev.now _)
    · rw [if_neg he]
      have hn : restF s 0 l ≠ [] := fun e => he ((rest_empty h).1 e)
      have hp := List.length_pos_iff.2 hn
      exact Ev.neg (by omega) (Ev.bind (implNormal_ev _ (by omega) hp) (Ev.now _))
  · rw [if_neg h]
    exact Ev.neg h (Ev.now _)
theorem likeC_ev (a : List Cell) (hs : small a) : Ev (fun k => laws_likeCells.f k a a) true := by
  unfold laws_likeCells.f
  refine Ev.pos rfl ?_
  refine loop_list a (fun k i (_ : Unit) => laws_likeCells.l0 k a a i) (fun _ _ _ => true) (fun _ _ => True) ?_ ?_ () trivial
  · intro _ _
    simp only [laws_likeCells.l0, len_lt, if_false]
    exact Ev.now _
  · intro pre d suf _ hx _ ih
    simp only [laws_likeCells.l0, pre_lt hx, pre_0, if_true, at_pre hx, pre_w hx hs]
    exact Ev.neg (by simp) (ih () trivial)
theorem likeI_ev (a : List Int) (hs : small a) : Ev (fun k => laws_likeInts.f k a a) true := by
  unfold laws_likeInts.f
  refine Ev.pos rfl ?_
  refine loop_list a (fun k i (_ : Unit) => laws_likeInts.l0 k a a i) (fun _ _ _ => true) (fun _ _ => True) ?_ ?_ () trivial
  · intro _ _
    simp only [laws_likeInts.l0, len_lt, if_false]
    exact Ev.now _
  · intro pre d suf _ hx _ ih
    simp only [laws_likeInts.l0, pre_lt hx, pre_0, if_true, pre_w hx hs]
    exact ih () trivial
theorem rest_count : ∀ (r : List Cell) (i : Int) (S s : List Int), (∀ j, i ≤ j → (j ∈ S ↔ j ∈ s)) → (∀ j ∈ s, i ≤ j ∧ j < i + (r.length : Int)) → s.Pairwise (· < ·) → (restF S i r).length + s.length = r.length
  | [], i, S, s, h, hb, hp => by
    cases s with
    | nil => simp [restF]
    | cons a t => have := hb a List.mem_cons_self; simp at this; omega
  | c :: r, i, S, s, h, hb, hp => by
    unfold restF hasI
    by_cases hm : i ∈ s
    · rw [if_pos (by simpa using (h i (by omega)).2 hm)]
      obtain ⟨a, t, rfl⟩ : ∃ a t, s = a :: t := by cases s with | nil => simp at hm | cons a t => exact ⟨a, t, rfl⟩
      obtain ⟨h1, h2⟩ := List.pairwise_cons.1 hp
      have ha := hb a List.mem_cons_self
      have e : a = i := by
        rcases List.mem_cons.1 hm with e | e
        · exact e.symm
        · have := h1 i e; omega
      subst e
      have := rest_count r (a + 1) S t (fun j hj => by
        rw [h j (by omega), List.mem_cons]
        exact ⟨fun g => g.resolve_left (by omega), .inr⟩) (fun j hj => by
        have g1 := h1 j hj
        have g2 := hb j (List.mem_cons_of_mem _ hj)
        rw [List.length_cons] at g2
        omega) h2
      simp only [List.length_cons]
      omega
    · rw [if_neg (by simpa using fun g => hm ((h i (by omega)).1 g))]
      have := rest_count r (i + 1) S s (fun j hj => h j (by omega)) (fun j hj => by
        have g2 := hb j hj
        rw [List.length_cons] at g2
        have : j ≠ i := fun e => hm (e ▸ hj)
        omega) hp
      simp only [List.length_cons]
      omega
theorem rest_lenS {l : List Cell} {s : List Int} (h : codeOf l s = 0) : (restF s 0 l).length + s.length = l.length := by
  obtain ⟨h1, h2, h3⟩ := codeOf_zero h
  exact rest_count l 0 s s (fun j _ => Iff.rfl) (fun j hj => by have := h2 j hj; omega) h3
theorem rest_none : ∀ (r : List Cell) (i : Int), restF [] i r = r
  | [], _ => rfl
  | c :: r, i => by unfold restF; rw [rest_none r (i + 1)]; simp [hasI]
theorem region_normal {l : List Cell} (h : regionB l = true) : normalL l = l := by
  unfold regionB at h
  simp only [Bool.and_eq_true, decide_eq_true_eq] at h
  obtain ⟨hs, e1, e2, _⟩ := h
  have hok := (shapeB_iff.1 hs).1
  unfold normalL moveL
  rw [e1, e2]
  have : ∀ c ∈ l, (⟨wrap64 (c.f0 + wrap64 (-0)), wrap64 (c.f1 + wrap64 (-0))⟩ : Cell) = c := fun c hc => by
    have := hok c hc
    unfold okC ok1 at this
    rw [w64 (n := (-0 : Int)) (by omega) (by omega), w64 (by omega) (by omega), w64 (by omega) (by omega)]
    simp
  calc l.map _ = l.map id := List.map_congr_left this
    _ = l := List.map_id l
structure Src (cs : List Int) (a s : Int) : Prop where
  at0 : 0 ≤ a
  at1 : a ≤ (cs.length : Int)
  sd0 : 0 ≤ s
  sd1 : s < 2147483647
  len : cs.length ≤ 1000000000000000000
  byte : ∀ x ∈ cs, 0 ≤ x ∧ x ≤ 255
theorem rd_byte {cs : List Int} {a s : Int} (h : Src cs a s) (i : Int) (h0 : 0 ≤ i) (h1 : i < (cs.length : Int)) : 0 ≤ rd cs i ∧ rd cs i ≤ 255 := by
  unfold rd
  obtain ⟨n, rfl⟩ : ∃ n : Nat, i = (n : Int) := ⟨i.toNat, by omega⟩
  have hn : n < cs.length := by omega
  have e : cs.getD (n : Int).toNat 0 = cs[n] := by simp [List.getD, hn]
  rw [e]
  exact h.byte _ (List.getElem_mem hn)
theorem next_ex {cs : List Int} {a s : Int} (h : Src cs a s) (n : Int) (hn : n ≤ 1000000000000) : ∃ v a' s', spec_l01Next.f cs a s n = some (v, a', s') ∧ Src cs a' s' ∧ 0 ≤ v ∧ (1 ≤ n → v < n) := by
  have ⟨h0, h1, h2, h3, h4, h5⟩ := h
  unfold spec_l01Next.f
  by_cases hn1 : n ≤ 1
  · rw [if_pos hn1]
    exact ⟨_, _, _, rfl, h, by omega, by omega⟩
  · rw [if_neg hn1]
    have ew : wrap64 ((wrap64 (s * 48271)) + 29) = s * 48271 + 29 := by rw [w64 (n := s * 48271) (by omega) (by omega), w64 (by omega) (by omega)]
    have em : Int.tmod (s * 48271 + 29) 2147483647 = (s * 48271 + 29) % 2147483647 := Int.tmod_eq_emod_of_nonneg (by omega)
    have hs0 : 0 ≤ (s * 48271 + 29) % 2147483647 := Int.emod_nonneg _ (by omega)
    have hs1 : (s * 48271 + 29) % 2147483647 < 2147483647 := Int.emod_lt_of_pos _ (by omega)
    rw [ew, em]
    generalize (s * 48271 + 29) % 2147483647 = s' at hs0 hs1 ⊢
    have et : Int.tdiv s' 31 = s' / 31 := Int.tdiv_eq_ediv_of_nonneg hs0
    rw [et, w64 (n := s' / 31) (by omega) (by omega)]
    have tm (x : Int) (hx : 0 ≤ x) : 0 ≤ Int.tmod x n ∧ Int.tmod x n < n := by
      rw [Int.tmod_eq_emod_of_nonneg hx]
      exact ⟨Int.emod_nonneg _ (by omega), Int.emod_lt_of_pos _ (by omega)⟩
    by_cases ha : a < (cs.length : Int)
    · have ea : wrap64 (a + 1) = a + 1 := w64 (by omega) (by omega)
      have hr := rd_byte h a h0 ha
      have e1 : wrap64 (rd cs a) = rd cs a := w64 (by omega) (by omega)
      have e2 : wrap64 (a + 1 - 1) = a := by rw [w64 (by omega) (by omega)]; omega
      have e3 : wrap64 (s' / 31 + rd cs a) = s' / 31 + rd cs a := w64 (by omega) (by omega)
      have hS : Src cs (a + 1) s' := ⟨by omega, by omega, hs0, hs1, h4, h5⟩
      rw [if_pos ha, if_pos h0, ea, e1, e2, e1, e3, if_pos h0, if_pos ha, if_neg (by omega : ¬ n = 0)]
      repeat' split
      all_goals first
        | exact ⟨_, _, _, rfl, hS, (tm _ (by omega)).1, fun _ => (tm _ (by omega)).2⟩
        | omega
    · have hS : Src cs a s' := ⟨by omega, by omega, hs0, hs1, h4, h5⟩
      rw [if_neg ha, if_neg (by omega : ¬ n = 0)]
      have := tm (s' / 31) (by omega)
      exact ⟨_, _, _, rfl, hS, this.1, fun _ => this.2⟩
def Ex {α : Type} (g : Nat → Option α) (P : α → Prop) : Prop := ∃ r, Ev g r ∧ P r
theorem Ex.now {α : Type} {P : α → Prop} {r : α} (h : P r) : Ex (fun _ => some r) P := ⟨r, Ev.now _, h⟩
theorem Ex.mono {α : Type} {g : Nat → Option α} {P Q : α → Prop} (h : Ex g P) (hi : ∀ r, P r → Q r) : Ex g Q := by
  obtain ⟨r, h1, h2⟩ := h
  exact ⟨r, h1, hi r h2⟩
theorem Ex.bind {α β : Type} {g : Nat → Option α} {f : Nat → α → Option β} {P : α → Prop} {Q : β → Prop} (h : Ex g P) (k : ∀ a, P a → Ex (fun n => f n a) Q) : Ex (fun n => (g n).bind (f n)) Q := by
  obtain ⟨a, h1, h2⟩ := h
  obtain ⟨b, h3, h4⟩ := k a h2
  exact ⟨b, Ev.bind h1 h3, h4⟩
theorem Ex.bindE {α β : Type} {g : Nat → Option α} {f : Nat → α → Option β} {a : α} {Q : β → Prop} (h : Ev g a) (k : Ex (fun n => f n a) Q) : Ex (fun n => (g n).bind (f n)) Q := by
  obtain ⟨b, h3, h4⟩ := k
  exact ⟨b, Ev.bind h h3, h4⟩
theorem Ex.bind0 {α β : Type} {o : Option α} {f : Nat → α → Option β} {a : α} {Q : β → Prop} (h : o = some a) (k : Ex (fun n => f n a) Q) : Ex (fun n => o.bind (f n)) Q := by
  subst h
  exact k
theorem Ex.pos {α : Type} {c : Prop} [Decidable c] {f g : Nat → Option α} {P : α → Prop} (h : c) (e : Ex f P) : Ex (fun k => if c then f k else g k) P := by
  obtain ⟨r, h1, h2⟩ := e
  exact ⟨r, Ev.pos h h1, h2⟩
theorem Ex.neg {α : Type} {c : Prop} [Decidable c] {f g : Nat → Option α} {P : α → Prop} (h : ¬ c) (e : Ex g P) : Ex (fun k => if c then f k else g k) P := by
  obtain ⟨r, h1, h2⟩ := e
  exact ⟨r, Ev.neg h h1, h2⟩
theorem Ex.if_ {α : Type} {c : Prop} [Decidable c] {f g : Nat → Option α} {P : α → Prop} (h : c → Ex f P) (h' : ¬ c → Ex g P) : Ex (fun k => if c then f k else g k) P := by
  by_cases hc : c
  · exact Ex.pos hc (h hc)
  · exact Ex.neg hc (h' hc)
theorem Ex.succ {α : Type} {g : Nat → Option α} {P : α → Prop} (h : Ex (fun k => g (k + 1)) P) : Ex g P := by
  obtain ⟨r, h1, h2⟩ := h
  exact ⟨r, Ev.succ h1, h2⟩
theorem Ex.next {β : Type} {cs : List Int} {a s : Int} (h : Src cs a s) (n : Int) (hn : n ≤ 1000000000000) {f : Nat → Int × Int × Int → Option β} {Q : β → Prop}
    (k : ∀ v a' s', Src cs a' s' → 0 ≤ v → (1 ≤ n → v < n) → Ex (fun q => f q (v, a', s')) Q) : Ex (fun q => (spec_l01Next.f cs a s n).bind (f q)) Q := by
  obtain ⟨v, a', s', e, h1, h2, h3⟩ := next_ex h n hn
  exact Ex.bind0 e (k v a' s' h1 h2 h3)
theorem from_l (cs : List Int) (hl : cs.length ≤ 1000000000000000000) (hb : ∀ x ∈ cs, 0 ≤ x ∧ x ≤ 255) : ∀ (q i : Nat) (s : Int), i + q = min cs.length 64 → 0 ≤ s → s < 2147483647 →
    Ex (fun k => spec_l01From.l0 k cs (i : Int) cs 0 s) fun r => r.1 = cs ∧ r.2.1 = 0 ∧ Src cs 0 r.2.2
  | 0, i, s, hi, h0, h1 => by
    refine Ex.succ ?_
    simp only [spec_l01From.l0]
    have hS : Src cs 0 s := ⟨by omega, by omega, h0, h1, hl, hb⟩
    refine Ex.if_ (fun _ => Ex.neg (by omega) (Ex.now ⟨rfl, rfl, hS⟩)) (fun _ => Ex.now ⟨rfl, rfl, hS⟩)
  | q + 1, i, s, hi, h0, h1 => by
    refine Ex.succ ?_
    simp only [spec_l01From.l0]
    have hS : Src cs 0 s := ⟨by omega, by omega, h0, h1, hl, hb⟩
    have hr := rd_byte hS (i : Int) (by omega) (by omega)
    have ei : wrap64 ((i : Int) + 1) = ((i + 1 : Nat) : Int) := by rw [w64 (by omega) (by omega)]; omega
    have es : Int.tmod (wrap64 ((wrap64 (s * 47)) + (wrap64 (rd cs (i : Int))))) 2147483647 = (s * 47 + rd cs (i : Int)) % 2147483647 := by
      rw [w64 (n := s * 47) (by omega) (by omega), w64 (n := rd cs (i : Int)) (by omega) (by omega), w64 (by omega) (by omega), Int.tmod_eq_emod_of_nonneg (by omega)]
    rw [ei, es]
    exact Ex.pos (by omega) (Ex.pos (by omega) (Ex.pos (by omega) (from_l cs hl hb q (i + 1) _ (by omega) (Int.emod_nonneg _ (by omega)) (Int.emod_lt_of_pos _ (by omega)))))
theorem from_ex (cs : List Int) (hl : cs.length ≤ 1000000000000000000) (hb : ∀ x ∈ cs, 0 ≤ x ∧ x ≤ 255) : Ex (fun k => spec_l01From.f k cs) fun r => r.1 = cs ∧ r.2.1 = 0 ∧ Src cs 0 r.2.2 := by
  unfold spec_l01From.f
  exact from_l cs hl hb (min cs.length 64) 0 61003 (by omega) (by omega) (by omega)
end Go.Proofs.Ytabdmdkoffpppaa.L
end
section
namespace Go.Proofs.Ytabdmdkoffpppaa.L
open Go.RowKit Go.Proofs.YtabdmdkoffpppaaW.PrintWords Go.Proofs.YtabdmdkoffpppaaW.PrintLast Go.Proofs.YtabdmdkoffpppaaW.PrintMore Go.Proofs.Ytabdmdkoffpppaa.F
set_option linter.unusedVariables false
def aroundC (c : Cell) : List Cell := [⟨c.f0, wrap64 (c.f1 - 1)⟩, ⟨wrap64 (c.f0 - 1), c.f1⟩, ⟨wrap64 (c.f0 + 1), c.f1⟩, ⟨c.f0, wrap64 (c.f1 + 1)⟩]
theorem specAround_eq (c : Cell) : spec_l02Around.f c.f0 c.f1 = some (aroundC c) := rfl
end Go.Proofs.Ytabdmdkoffpppaa.L
end
section
namespace Go.Proofs.Ytabdmdkoffpppaa.L
open Go.RowKit Go.Proofs.YtabdmdkoffpppaaW.PrintWords Go.Proofs.YtabdmdkoffpppaaW.PrintLast Go.Proofs.YtabdmdkoffpppaaW.PrintMore Go.Proofs.Ytabdmdkoffpppaa.F
set_option linter.unusedVariables false
set_option linter.unusedSimpArgs false
def sameC (a b : Cell) : Bool := decide (a.f0 = b.f0) && decide (a.f1 = b.f1)
theorem sameC_iff {a b : Cell} : sameC a b = true ↔ a = b := by
  obtain ⟨a0, a1⟩ := a
  obtain ⟨b0, b1⟩ := b
  simp [sameC]
def idxF : List Cell → Cell → Int → Int
  | [], _, _ => -1
  | a :: r, c, i => if sameC a c = true then i else idxF r c (i + 1)
def idxC (l : List Cell) (c : Cell) : Int := idxF l c 0
theorem specIndex_ev (l : List Cell) (c : Cell) (hs : small l) : Ev (fun k => spec_l02Index.f k l c.f0 c.f1) (idxC l c) := by
  unfold spec_l02Index.f
  refine loop_list l (fun k i (_ : Unit) => spec_l02Index.l0 k l i c.f0 c.f1) (fun pre suf _ => idxF suf c (pre.length : Int)) (fun _ _ => True) ?_ ?_ () trivial
  · intro _ _
    simp only [spec_l02Index.l0, len_lt, if_false]
    exact Ev.now _
  · intro pre d suf _ hx _ ih
    simp only [spec_l02Index.l0, pre_lt hx, pre_0, if_true, at_pre hx, pre_w hx hs, idxF]
    have e : (d.f0 == c.f0 && d.f1 == c.f1) = sameC d c := by simp [sameC, BEq.beq]
    rw [e]
    refine Ev.if_ (fun _ => Ev.now _) (fun _ => Ev.of_eq (ih () trivial) ?_)
    simp
theorem idxF_spec : ∀ (l : List Cell) (c : Cell) (i : Int), 0 ≤ i → (idxF l c i = -1 ∧ c ∉ l) ∨ (∃ j : Nat, j < l.length ∧ idxF l c i = i + (j : Int) ∧ l[j]? = some c ∧ ∀ q : Nat, q < j → l[q]? ≠ some c)
  | [], c, i, _ => .inl ⟨rfl, by simp⟩
  | a :: r, c, i, hi => by
    unfold idxF
    by_cases h : sameC a c = true
    · rw [if_pos h]
      exact .inr ⟨0, by simp, by simp, by simp [sameC_iff.1 h], fun q hq => by omega⟩
    · rw [if_neg h]
      have hne : a ≠ c := fun e => h (sameC_iff.2 e)
      rcases idxF_spec r c (i + 1) (by omega) with ⟨h1, h2⟩ | ⟨j, h1, h2, h3, h4⟩
      · exact .inl ⟨h1, by simp only [List.mem_cons, not_or]; exact ⟨fun e => hne e.symm, h2⟩⟩
      · refine .inr ⟨j + 1, by simpa using h1, by rw [h2]; simp; omega, by simpa using h3, fun q hq => ?_⟩
        cases q with
        | zero => simpa using hne
        | succ q => simpa using h4 q (by omega)
theorem idxC_spec (l : List Cell) (c : Cell) : (idxC l c = -1 ∧ c ∉ l) ∨ (∃ j : Nat, j < l.length ∧ idxC l c = (j : Int) ∧ l[j]? = some c ∧ ∀ q : Nat, q < j → l[q]? ≠ some c) := by
  rcases idxF_spec l c 0 (Int.le_refl _) with h | ⟨j, h1, h2, h3⟩
  · exact .inl h
  · exact .inr ⟨j, h1, by unfold idxC; rw [h2]; omega, h3⟩
theorem idxC_mem (l : List Cell) (c : Cell) : idxC l c ≥ 0 ↔ c ∈ l := by
  rcases idxC_spec l c with ⟨h1, h2⟩ | ⟨j, h1, h2, h3, _⟩
  · rw [h1]; constructor
    · intro h; omega
    · intro h; exact absurd h h2
  · rw [h2]; constructor
    · intro _; exact List.mem_of_getElem? h3
    · intro _; omega
def insC (c : Cell) : List Cell → List Cell
  | [] => [c]
  | a :: r => if ltC c a then c :: a :: r else a :: insC c r
theorem insC_perm (c : Cell) : ∀ l : List Cell, (insC c l).Perm (c :: l)
  | [] => List.Perm.refl _
  | a :: r => by
    unfold insC
    split
    · exact List.Perm.refl _
    · exact ((insC_perm c r).cons a).trans (List.Perm.swap c a r)
theorem insC_sorted (c : Cell) : ∀ l : List Cell, (l.Pairwise fun a b => ¬ ltC b a) → (insC c l).Pairwise fun a b => ¬ ltC b a
  | [], _ => by simp [insC]
  | a :: r, h => by
    obtain ⟨h1, h2⟩ := List.pairwise_cons.1 h
    unfold insC
    split
    · rename_i hc
      refine List.pairwise_cons.2 ⟨fun b hb => ?_, h⟩
      rcases List.mem_cons.1 hb with rfl | hb
      · unfold ltC at *; omega
      · have := h1 b hb
        unfold ltC at *; omega
    · rename_i hc
      refine List.pairwise_cons.2 ⟨fun b hb => ?_, insC_sorted c r h2⟩
      rcases List.mem_cons.1 ((insC_perm c r).mem_iff.1 hb) with rfl | hb
      · exact hc
      · exact h1 b hb
theorem specInsert_ev (l : List Cell) (c : Cell) (hl : l.length ≤ 1048576) : Ev (fun k => spec_l02Insert.f k l c.f0 c.f1) (insC c l) := by
  have hs : small l := by unfold small; omega
  unfold spec_l02Insert.f
  have := loop_list l (fun k i (s : List Cell × Bool) => spec_l02Insert.l0 k l s.1 s.2 i c.f0 c.f1) (fun pre suf s => if s.2 = true then s.1 ++ suf else s.1 ++ insC c suf) (fun pre s => s.1.length ≤ pre.length + 1 ∧ (s.2 = false → s.1.length = pre.length)) ?_ ?_ ([], false) ⟨by simp, fun _ => rfl⟩
  · simpa using this
  · rintro ⟨s, b⟩ ⟨h1, h2⟩
    simp only at h1 h2
    simp only [spec_l02Insert.l0, len_lt, if_false]
    cases b
    · refine Ev.neg (by simp) (Ev.pos (by omega) (Ev.of_eq (Ev.now _) ?_))
      simp [insC]
    · refine Ev.pos rfl (Ev.of_eq (Ev.now _) ?_)
      simp
  · rintro pre d suf ⟨s, b⟩ hx ⟨h1, h2⟩ ih
    have hp := pre_len hx
    simp only at h1 h2
    simp only [spec_l02Insert.l0, pre_lt hx, pre_0, if_true, at_pre hx, pre_w hx hs]
    cases b
    · refine Ev.neg (by simp) ?_
      simp only [l02Less_eq, Option.bind_some]
      have h2' := h2 rfl
      by_cases hd : ltC c d
      · have hd' : c.f1 < d.f1 ∨ c.f1 = d.f1 ∧ c.f0 < d.f0 := hd
        refine Ev.pos (by simpa using hd') (Ev.pos (by omega) ?_)
        refine Ev.pos (by simp; omega) (Ev.of_eq (ih ((s ++ [(⟨c.f0, c.f1⟩ : Cell)]) ++ [(⟨d.f0, d.f1⟩ : Cell)], true) ⟨by simp; omega, fun h => by cases h⟩) ?_)
        simp [insC, hd]
      · have hd' : ¬ (c.f1 < d.f1 ∨ c.f1 = d.f1 ∧ c.f0 < d.f0) := hd
        refine Ev.neg (by simpa using hd') (Ev.pos (by omega) (Ev.of_eq (ih (s ++ [(⟨d.f0, d.f1⟩ : Cell)], false) ⟨by simp; omega, fun _ => by simp; omega⟩) ?_))
        simp [insC, hd]
    · refine Ev.pos rfl (Ev.pos (by omega) (Ev.of_eq (ih (s ++ [(⟨d.f0, d.f1⟩ : Cell)], true) ⟨by simp; omega, fun h => by cases h⟩) ?_))
      simp
def insAll : List Cell → List Cell → List Cell
  | acc, [] => acc
  | acc, c :: r => insAll (insC c acc) r
theorem insAll_spec : ∀ (l acc : List Cell), (acc.Pairwise fun a b => ¬ ltC b a) → (insAll acc l).Perm (acc ++ l) ∧ (insAll acc l).Pairwise fun a b => ¬ ltC b a
  | [], acc, h => ⟨by simp [insAll], h⟩
  | c :: r, acc, h => by
    obtain ⟨h1, h2⟩ := insAll_spec r (insC c acc) (insC_sorted c acc h)
    refine ⟨h1.trans ?_, h2⟩
    refine ((insC_perm c acc).append_right r).trans ?_
    exact List.perm_middle.symm
theorem specSortI_ev (l : List Cell) (hl : l.length ≤ 1048576) : Ev (fun k => spec_l02Sort.f k l) (insAll [] l) := by
  have hs : small l := by unfold small; omega
  unfold spec_l02Sort.f
  refine loop_list l (fun k i (s : List Cell) => spec_l02Sort.l0 k l s i) (fun pre suf s => insAll s suf) (fun pre s => s.length = pre.length) ?_ ?_ [] rfl
  · intro s _
    simp only [spec_l02Sort.l0, len_lt, if_false]
    exact Ev.now _
  · intro pre c suf s hx hi ih
    have hp := pre_len hx
    simp only [spec_l02Sort.l0, pre_lt hx, pre_0, if_true, at_pre hx, pre_w hx hs]
    refine Ev.bind (specInsert_ev s c (by omega)) (ih _ ?_)
    rw [(insC_perm c s).length_eq]
    simp [hi]
theorem insP_mem {c d : Cell} {s : List Cell} : c ∈ insC d s ↔ c = d ∨ c ∈ s := by
  rw [(insC_perm d s).mem_iff, List.mem_cons]
theorem nbs_l1 (s : List Cell) (hs : s.length ≤ 64) (i : Int) (arr : List Cell) (ha : arr.length = 4) {Q : List Cell → Prop} : ∀ (suf pre acc : List Cell), arr = pre ++ suf → acc.length + suf.length ≤ 1000 →
    (∀ acc' : List Cell, acc'.length ≤ acc.length + suf.length → (∀ d ∈ acc', d ∈ acc ∨ d ∈ suf) → (∀ d ∈ acc, d ∈ acc') → (∀ d ∈ suf, d ∉ s → d ∈ acc') → Ex (fun k => spec_l02Neighbours.l0 k s acc' (wrap64 (i + 1))) Q) →
    Ex (fun k => spec_l02Neighbours.l1 k s acc i arr (pre.length : Int)) Q
  | [], pre, acc, hx, hl, hc => by
    refine Ex.succ ?_
    rw [List.append_nil] at hx
    subst hx
    simp only [spec_l02Neighbours.l1]
    exact Ex.neg (by omega) (hc acc (by simp) (fun d h => .inl h) (fun d h => h) (fun d h => by simp at h))
  | d :: suf, pre, acc, hx, hl, hc => by
    refine Ex.succ ?_
    have hsm : small arr := by unfold small; omega
    have hp := pre_len hx
    simp only [List.length_cons] at hl hc
    have h4 : ((pre.length : Int) < 4) := by omega
    simp only [spec_l02Neighbours.l1, pre_lt hx, pre_0, if_true, at_pre hx, pre_w hx hsm]
    refine Ex.pos h4 (Ex.bindE (specIndex_ev s d (by unfold small; omega)) ?_)
    have next (acc2 : List Cell) (h1 : acc2.length ≤ acc.length + 1) (h2 : ∀ x ∈ acc2, x ∈ acc ∨ x = d) (h3 : ∀ x ∈ acc, x ∈ acc2) (h5 : d ∉ s → d ∈ acc2) : Ex (fun k => spec_l02Neighbours.l1 k s acc2 i arr ((pre.length : Int) + 1)) Q := by
      have := nbs_l1 s hs i arr ha suf (pre ++ [d]) acc2 (by rw [hx]; simp) (by omega) (fun acc' g1 g2 g3 g4 => hc acc' (by omega) (fun x hx' => by
        rcases g2 x hx' with g | g
        · rcases h2 x g with g | rfl
          · exact .inl g
          · exact .inr List.mem_cons_self
        · exact .inr (List.mem_cons_of_mem _ g)) (fun x hx' => g3 x (h3 x hx')) (fun x hx' hn => by
        rcases List.mem_cons.1 hx' with rfl | hx'
        · exact g3 _ (h5 hn)
        · exact g4 x hx' hn))
      simpa using this
    by_cases hm : d ∈ s
    · have h := (idxC_mem s d).2 hm
      exact Ex.neg (by omega) (next acc (by omega) (fun x h => .inl h) (fun x h => h) (fun h => absurd hm h))
    · have h : ¬ idxC s d ≥ 0 := fun h => hm ((idxC_mem s d).1 h)
      refine Ex.pos (by omega) (Ex.bindE (specIndex_ev acc d (by unfold small; omega)) ?_)
      by_cases hm2 : d ∈ acc
      · have h := (idxC_mem acc d).2 hm2
        exact Ex.neg (by omega) (next acc (by omega) (fun x h => .inl h) (fun x h => h) (fun _ => hm2))
      · have h : ¬ idxC acc d ≥ 0 := fun h => hm2 ((idxC_mem acc d).1 h)
        refine Ex.pos (by omega) (Ex.bindE (specInsert_ev acc d (by omega)) (next (insC d acc) ?_ (fun x h => ?_) (fun x h => insP_mem.2 (.inr h)) (fun _ => insP_mem.2 (.inl rfl))))
        · rw [(insC_perm d acc).length_eq, List.length_cons]; omega
        · rcases insP_mem.1 h with h | h
          · exact .inr h
          · exact .inl h
theorem nbs_l0 (s : List Cell) (hs : s.length ≤ 64) : ∀ (suf pre acc : List Cell), s = pre ++ suf → acc.length ≤ 4 * pre.length → (∀ d ∈ acc, ∃ c ∈ s, d ∈ aroundC c) → (∀ c ∈ pre, ∀ d ∈ aroundC c, d ∉ s → d ∈ acc) →
    Ex (fun k => spec_l02Neighbours.l0 k s acc (pre.length : Int)) fun r => r.length ≤ 4 * s.length ∧ (∀ d ∈ r, ∃ c ∈ s, d ∈ aroundC c) ∧ ∀ c ∈ s, ∀ d ∈ aroundC c, d ∉ s → d ∈ r
  | [], pre, acc, hx, h1, h2, h3 => by
    refine Ex.succ ?_
    rw [List.append_nil] at hx
    subst hx
    simp only [spec_l02Neighbours.l0]
    exact Ex.neg (by omega) (Ex.now ⟨h1, h2, h3⟩)
  | c :: suf, pre, acc, hx, h1, h2, h3 => by
    refine Ex.succ ?_
    have hsm : small s := by unfold small; omega
    have hp := pre_len hx
    have h4 : (aroundC c).length = 4 := rfl
    simp only [spec_l02Neighbours.l0, pre_lt hx, pre_0, if_true, at_pre hx]
    refine Ex.bind0 (specAround_eq c) ?_
    refine nbs_l1 s hs (pre.length : Int) (aroundC c) h4 (aroundC c) [] acc rfl (by omega) (fun acc' g1 g2 g3 g4 => ?_)
    rw [pre_w hx hsm]
    have := nbs_l0 s hs suf (pre ++ [c]) acc' (by rw [hx]; simp) (by simp; omega) (fun d hd => by
      rcases g2 d hd with g | g
      · exact h2 d g
      · exact ⟨c, by rw [hx]; simp, g⟩) (fun e he d hd hn => by
      rcases List.mem_append.1 he with he | he
      · exact g3 d (h3 e he d hd hn)
      · simp at he
        subst he
        exact g4 d hd hn)
    simpa using this
theorem nbs_ex (s : List Cell) (hs : s.length ≤ 64) : Ex (fun k => spec_l02Neighbours.f k s) fun r => r.length ≤ 4 * s.length ∧ (∀ d ∈ r, ∃ c ∈ s, d ∈ aroundC c) ∧ ∀ c ∈ s, ∀ d ∈ aroundC c, d ∉ s → d ∈ r := by
  unfold spec_l02Neighbours.f
  exact nbs_l0 s hs s [] [] rfl (by simp) (by simp) (by simp)
def inBox (m : Int) (s : List Cell) : Prop := ∀ c ∈ s, -m ≤ c.f0 ∧ c.f0 ≤ m ∧ -m ≤ c.f1 ∧ c.f1 ≤ m
theorem nbs_pos {s r : List Cell} (h0 : 0 < s.length) (hb : inBox 1000 s) (h : ∀ c ∈ s, ∀ d ∈ aroundC c, d ∉ s → d ∈ r) : 0 < r.length := by
  have hne : s ≠ [] := by intro e; rw [e] at h0; simp at h0
  obtain ⟨_, ⟨c, hc, ec⟩⟩ := least_mem hne
  have hbc := hb c hc
  refine List.length_pos_of_mem (a := ⟨c.f0, wrap64 (c.f1 - 1)⟩) (h c hc _ (by simp [aroundC]) fun hm => ?_)
  have := (least_le hm).2
  simp only at this
  rw [w64 (by omega) (by omega)] at this
  omega
theorem around_box {m : Int} {c d : Cell} (hm : 0 ≤ m ∧ m ≤ 1000) (hc : -m ≤ c.f0 ∧ c.f0 ≤ m ∧ -m ≤ c.f1 ∧ c.f1 ≤ m) (hd : d ∈ aroundC c) : -(m + 1) ≤ d.f0 ∧ d.f0 ≤ m + 1 ∧ -(m + 1) ≤ d.f1 ∧ d.f1 ≤ m + 1 := by
  simp only [aroundC, List.mem_cons, List.not_mem_nil, or_false] at hd
  have w (n : Int) (h0 : -3000 ≤ n) (h1 : n ≤ 3000) : wrap64 n = n := w64 (by omega) (by omega)
  rw [w _ (by omega) (by omega), w _ (by omega) (by omega), w _ (by omega) (by omega), w _ (by omega) (by omega)] at hd
  rcases hd with rfl | rfl | rfl | rfl <;> (simp only; omega)
theorem poly_l (cs : List Int) : ∀ (q n : Nat) (s : List Cell) (a sd : Int), q + n ≤ 40 → s.length = n → 1 ≤ n → inBox (n : Int) s → Src cs a sd →
    Ex (fun k => spec_l02DrawPoly.l0 k s (q : Int) cs a sd) fun r => 1 ≤ r.1.length ∧ r.1.length ≤ 40 ∧ Src cs r.2.1 r.2.2
  | 0, n, s, a, sd, hq, hl, hn, hb, hS => by
    refine Ex.succ ?_
    simp only [spec_l02DrawPoly.l0]
    refine Ex.neg (by omega) (Ex.bindE (specNormal_ev s (by omega) (by omega)) (Ex.now ?_))
    have := normalL_len s
    exact ⟨by simp only; omega, by simp only; omega, hS⟩
  | q + 1, n, s, a, sd, hq, hl, hn, hb, hS => by
    refine Ex.succ ?_
    simp only [spec_l02DrawPoly.l0]
    refine Ex.pos (by omega) (Ex.bind (nbs_ex s (by omega)) fun r ⟨h1, h2, h3⟩ => ?_)
    have hr : 0 < r.length := nbs_pos (by omega) (fun c hc => by have := hb c hc; omega) h3
    refine Ex.next hS (r.length : Int) (by omega) fun v a' s' hS' hv0 hv1 => ?_
    have hv2 := hv1 (by omega)
    obtain ⟨j, rfl⟩ : ∃ j : Nat, v = (j : Int) := ⟨v.toNat, by omega⟩
    have hj : j < r.length := by omega
    have er : rd_T59 r (j : Int) = r[j] := by
      have : r = r.take j ++ r[j] :: r.drop (j + 1) := by rw [List.getElem_cons_drop, List.take_append_drop]
      have e2 := at_pre this
      rw [List.length_take, Nat.min_eq_left (by omega)] at e2
      exact e2
    have hd : r[j] ∈ r := List.getElem_mem hj
    obtain ⟨c, hc, hdc⟩ := h2 _ hd
    have hbd := around_box (m := (n : Int)) (by omega) (hb c hc) hdc
    simp only [er]
    refine Ex.pos (by omega) (Ex.pos (by omega) (Ex.bindE (specInsert_ev s r[j] (by omega)) ?_))
    have ew : wrap64 (((q + 1 : Nat) : Int) - 1) = (q : Int) := by rw [w64 (by omega) (by omega)]; omega
    rw [ew]
    refine poly_l cs q (n + 1) (insC r[j] s) a' s' (by omega) (by rw [(insC_perm _ s).length_eq, List.length_cons]; omega) (by omega) (fun x hx => ?_) hS'
    rcases insP_mem.1 hx with rfl | hx
    · omega
    · have := hb x hx; omega
theorem poly_ex {cs : List Int} {a s : Int} (h : Src cs a s) (n : Int) (h0 : 1 ≤ n) (h1 : n ≤ 39) : Ex (fun k => spec_l02DrawPoly.f k cs a s n) fun r => 1 ≤ r.1.length ∧ r.1.length ≤ 40 ∧ Src cs r.2.1 r.2.2 := by
  unfold spec_l02DrawPoly.f
  refine Ex.next h n (by omega) fun v a' s' hS hv0 hv1 => ?_
  have := hv1 h0
  obtain ⟨q, rfl⟩ : ∃ q : Nat, v = (q : Int) := ⟨v.toNat, by omega⟩
  exact poly_l cs q 1 [⟨0, 0⟩] a' s' (by omega) rfl (by omega) (fun c hc => by simp at hc; subst hc; simp) hS
theorem draw_l (cs : List Int) : ∀ (q i : Nat) (l : List Cell) (a s : Int), i + q = 42 → l.length = i → Src cs a s → Ex (fun k => spec_l02Draw.l0 k l (i : Int) cs a s) fun r => r.1.length ≤ 100 ∧ Src cs r.2.1 r.2.2
  | q, i, l, a, s, hi, hl, hS => by
    refine Ex.succ ?_
    simp only [spec_l02Draw.l0]
    refine Ex.next hS 2 (by omega) fun v a' s' hS' hv0 hv1 => ?_
    have hv := hv1 (by omega)
    have ew : wrap64 (40 + v) = 40 + v := w64 (by omega) (by omega)
    have ei : wrap64 ((i : Int) + 1) = ((i + 1 : Nat) : Int) := by rw [w64 (by omega) (by omega)]; omega
    simp only [ew, ei]
    match q, hi with
    | 0, hi => exact Ex.neg (by omega) (Ex.now ⟨by simp only; omega, hS'⟩)
    | q + 1, hi =>
      exact Ex.if_ (fun _ => Ex.pos (by omega) (draw_l cs q (i + 1) _ a' s' (by omega) (by simp [hl]) hS')) (fun _ => Ex.now ⟨by simp only; omega, hS'⟩)
theorem insAll_len (l : List Cell) : (insAll [] l).length = l.length := by
  have := (insAll_spec l [] List.Pairwise.nil).1.length_eq
  simpa using this
theorem draw_ex {cs : List Int} {a s : Int} (h : Src cs a s) : Ex (fun k => spec_l02Draw.f k cs a s) fun r => r.1.length ≤ 100 ∧ Src cs r.2.1 r.2.2 := by
  unfold spec_l02Draw.f
  refine Ex.bind (poly_ex h 8 (by omega) (by omega)) fun p ⟨p0, p1, p2⟩ => ?_
  refine Ex.next p2 9 (by omega) fun v1 a1 s1 h1 _ _ => ?_
  refine Ex.next h1 9 (by omega) fun v2 a2 s2 h2 _ _ => ?_
  refine Ex.bindE (specMove_ev p.1 _ _ (by omega)) ?_
  have hml := moveL_len p.1 (wrap64 (v1 - 4)) (wrap64 (v2 - 4))
  generalize moveL p.1 (wrap64 (v1 - 4)) (wrap64 (v2 - 4)) = t at hml ⊢
  refine Ex.next h2 (t.length : Int) (by omega) fun v3 a3 s3 h3 g0 g1 => ?_
  have g2 := g1 (by omega)
  refine Ex.next h3 24 (by omega) fun v4 a4 s4 h4 _ _ => ?_
  simp only
  have ew : wrap64 ((t.length : Int) - 1) = (t.length : Int) - 1 := w64 (by omega) (by omega)
  refine Ex.if_ (fun _ => ?_) (fun _ => ?_)
  · refine Ex.bind0 rfl (Ex.next h4 3 (by omega) fun v5 a5 s5 h5 q0 q1 => ?_)
    have q2 := q1 (by omega)
    have e3 : (([(-100), 100, 101] : List Int).length : Int) = 3 := rfl
    refine Ex.pos q0 (Ex.pos (by rw [e3]; exact q2) (Ex.pos g0 (Ex.pos g2 (Ex.bindE (specSortI_ev _ (by rw [List.length_set]; omega)) (Ex.now ?_)))))
    exact ⟨by simp only; rw [insAll_len, List.length_set]; omega, h5⟩
  refine Ex.if_ (fun _ => ?_) (fun _ => ?_)
  · exact Ex.pos g0 (Ex.pos g2 (Ex.pos (by omega) (Ex.now ⟨by simp; omega, h4⟩)))
  refine Ex.if_ (fun _ => Ex.now ⟨by simp, h4⟩) (fun _ => ?_)
  refine Ex.if_ (fun _ => draw_l cs 42 0 [] a4 s4 (by omega) rfl h4) (fun _ => ?_)
  rw [ew]
  refine Ex.if_ (fun _ => ?_) (fun _ => ?_)
  · exact Ex.pos (by omega) (Ex.pos (by omega) (Ex.pos (by omega) (Ex.pos (by omega) (Ex.now ⟨by simp; omega, h4⟩))))
  refine Ex.if_ (fun _ => ?_) (fun _ => Ex.now ⟨by simp only; omega, h4⟩)
  exact Ex.pos (by omega) (Ex.pos (by omega) (Ex.pos (by omega) (Ex.pos (by omega) (Ex.now ⟨by simp; omega, h4⟩))))
theorem rect_l (x0 x1 : Int) (M : Nat) (hM : wrap64 (x0 * x1) = (M : Int)) (hx : x0 ≠ 0) (hM1 : M ≤ 1000) : ∀ (q i : Nat) (acc : List Cell), i + q = M → acc.length = i →
    Ex (fun k => spec_l10Rectangle.l0 k x0 x1 acc (i : Int)) fun r => r.length = M
  | 0, i, acc, hi, hl => by
    refine Ex.succ ?_
    simp only [spec_l10Rectangle.l0, hM]
    exact Ex.neg (by omega) (Ex.now (by omega))
  | q + 1, i, acc, hi, hl => by
    refine Ex.succ ?_
    have ei : wrap64 ((i : Int) + 1) = ((i + 1 : Nat) : Int) := by rw [w64 (by omega) (by omega)]; omega
    simp only [spec_l10Rectangle.l0, hM, ei]
    exact Ex.pos (by omega) (Ex.neg hx (Ex.pos (by omega) (rect_l x0 x1 M hM hx hM1 q (i + 1) _ (by omega) (by simp [hl]))))
theorem rect_ex (x0 x1 : Int) (M : Nat) (hM : wrap64 (x0 * x1) = (M : Int)) (hx : x0 ≠ 0) (hM1 : M ≤ 1000) : Ex (fun k => spec_l10Rectangle.f k x0 x1) fun r => r.length = M := by
  unfold spec_l10Rectangle.f
  exact rect_l x0 x1 M hM hx hM1 M 0 [] (by omega) rfl
theorem without_eq (l : List Cell) (i : Int) (h0 : 0 ≤ i) (h1 : i < (l.length : Int)) (hl : l.length ≤ 1000) : ∃ r, spec_l05Without.f l i = some r ∧ r.length + 1 = l.length := by
  have ew : wrap64 (i + 1) = i + 1 := w64 (by omega) (by omega)
  unfold spec_l05Without.f
  simp only [Option.bind_some, ew, List.nil_append, List.length_nil, List.length_take, List.length_drop]
  rw [if_pos h0, if_pos (by omega), if_pos (by omega), if_pos (by omega), if_pos (by omega), if_pos (by omega)]
  refine ⟨_, rfl, ?_⟩
  simp
  omega
def smallY : List (List Int) := [[3, 4], [4, 3], [2, 5], [5, 2], [3, 3], [6, 2], [4, 2]]
theorem smallY_at {v : Int} (h0 : 0 ≤ v) (h1 : v < 7) : ∃ p q : Int, rd_L3 smallY v = [p, q] ∧ 2 ≤ p ∧ p ≤ 6 ∧ 2 ≤ q ∧ q ≤ 5 ∧ ∃ M : Nat, p * q = (M : Int) ∧ 8 ≤ M ∧ M ≤ 12 := by
  have : v = 0 ∨ v = 1 ∨ v = 2 ∨ v = 3 ∨ v = 4 ∨ v = 5 ∨ v = 6 := by omega
  rcases this with rfl | rfl | rfl | rfl | rfl | rfl | rfl
  · exact ⟨3, 4, rfl, by omega, by omega, by omega, by omega, 12, rfl, by omega, by omega⟩
  · exact ⟨4, 3, rfl, by omega, by omega, by omega, by omega, 12, rfl, by omega, by omega⟩
  · exact ⟨2, 5, rfl, by omega, by omega, by omega, by omega, 10, rfl, by omega, by omega⟩
  · exact ⟨5, 2, rfl, by omega, by omega, by omega, by omega, 10, rfl, by omega, by omega⟩
  · exact ⟨3, 3, rfl, by omega, by omega, by omega, by omega, 9, rfl, by omega, by omega⟩
  · exact ⟨6, 2, rfl, by omega, by omega, by omega, by omega, 12, rfl, by omega, by omega⟩
  · exact ⟨4, 2, rfl, by omega, by omega, by omega, by omega, 8, rfl, by omega, by omega⟩
theorem small_ex {cs : List Int} {a s : Int} (h : Src cs a s) : Ex (fun k => spec_l10DrawSmall.f k cs a s) fun r => r.1.length ≤ 100 ∧ Src cs r.2.1 r.2.2 := by
  unfold spec_l10DrawSmall.f
  refine Ex.bind0 (a := smallY) rfl (Ex.next h 7 (by omega) fun v a1 s1 h1 g0 g1 => ?_)
  have g2 := g1 (by omega)
  obtain ⟨p, q, e, p0, p1, q0, q1, M, eM, M0, M1⟩ := smallY_at g0 g2
  have e7 : (smallY.length : Int) = 7 := rfl
  simp only [e]
  have ep : rd [p, q] 0 = p := rfl
  have eq : rd [p, q] 1 = q := rfl
  refine Ex.pos g0 (Ex.pos (by rw [e7]; exact g2) (Ex.pos (by simp) (Ex.pos (by simp) ?_)))
  rw [ep, eq]
  refine Ex.bind (rect_ex p q M (by rw [eM]; exact w64 (by omega) (by omega)) (by omega) (by omega)) fun t ht => ?_
  refine Ex.next h1 3 (by omega) fun v2 a2 s2 h2 _ _ => Ex.if_ (fun _ => ?_) (fun _ => Ex.now ⟨by simp only; omega, h2⟩)
  refine Ex.next h2 (t.length : Int) (by omega) fun v3 a3 s3 h3 f0 f1 => ?_
  obtain ⟨r, er, hr⟩ := without_eq t v3 f0 (f1 (by omega)) (by omega)
  have hn := normalL_len r
  exact Ex.bind0 er (Ex.bindE (specNormal_ev r (by omega) (by omega)) (Ex.now ⟨by simp only; omega, h3⟩))
theorem region_ex {cs : List Int} {a s : Int} (h : Src cs a s) : Ex (fun k => spec_l10Draw.f k cs a s) fun r => r.1.length ≤ 100 ∧ Src cs r.2.1 r.2.2 := by
  unfold spec_l10Draw.f
  refine Ex.next h 24 (by omega) fun v a1 s1 h1 _ _ => ?_
  have hj (b : Bool) : Ex (fun k => spec_l10Draw.j0 k b cs a1 s1) fun r => r.1.length ≤ 100 ∧ Src cs r.2.1 r.2.2 := by
    refine Ex.succ ?_
    simp only [spec_l10Draw.j0]
    refine Ex.if_ (fun _ => Ex.bind (poly_ex h1 9 (by omega) (by omega)) fun r ⟨r0, r1, r2⟩ => Ex.now ⟨by simp only; omega, r2⟩) (fun _ => Ex.bind (small_ex h1) fun r ⟨r1, r2⟩ => Ex.now ⟨r1, r2⟩)
  refine Ex.if_ (fun _ => Ex.bind (draw_ex h1) fun r ⟨r1, r2⟩ => Ex.now ⟨r1, r2⟩) (fun _ => ?_)
  refine Ex.if_ (fun _ => Ex.bind (rect_ex 20 2 40 (by rw [w64 (by omega) (by omega)]; rfl) (by omega) (by omega)) fun r hr => Ex.now ⟨by simp only; omega, h1⟩) (fun _ => ?_)
  refine Ex.if_ (fun _ => Ex.next h1 2 (by omega) fun v2 a2 s2 h2 _ _ => Ex.now ⟨by simp, h2⟩) (fun _ => ?_)
  exact Ex.if_ (fun _ => hj _) (fun _ => hj _)
theorem set_l1 {cs : List Int} {a s : Int} (h : Src cs a s) (l : List Cell) (hl : l.length ≤ 100) : ∀ (q i : Nat) (acc : List Int), i + q = l.length → acc.length = i →
    Ex (fun k => spec_l10DrawSet.l1 k l acc (i : Int) cs a s) fun r => r.1.length ≤ 200 ∧ Src cs r.2.1 r.2.2
  | 0, i, acc, hi, ha => by
    refine Ex.succ ?_
    simp only [spec_l10DrawSet.l1]
    exact Ex.neg (by omega) (Ex.now ⟨by simp only; omega, h⟩)
  | q + 1, i, acc, hi, ha => by
    refine Ex.succ ?_
    have ei : wrap64 ((i : Int) + 1) = ((i + 1 : Nat) : Int) := by rw [w64 (by omega) (by omega)]; omega
    simp only [spec_l10DrawSet.l1, ei]
    exact Ex.pos (by omega) (Ex.pos (by omega) (set_l1 h l hl q (i + 1) _ (by omega) (by simp [ha])))
theorem set_l0 {cs : List Int} (l : List Cell) (hl : l.length ≤ 100) : ∀ (q i : Nat) (acc : List Int) (a s : Int), i + q = l.length → acc.length ≤ i → Src cs a s →
    Ex (fun k => spec_l10DrawSet.l0 k l acc (i : Int) cs a s) fun r => r.1.length ≤ 200 ∧ Src cs r.2.1 r.2.2
  | 0, i, acc, a, s, hi, ha, h => by
    refine Ex.succ ?_
    simp only [spec_l10DrawSet.l0]
    refine Ex.neg (by omega) (Ex.next h 24 (by omega) fun v a1 s1 h1 _ _ => ?_)
    refine Ex.if_ (fun _ => Ex.pos (by omega) (Ex.now ⟨by simp; omega, h1⟩)) (fun _ => ?_)
    refine Ex.if_ (fun _ => Ex.pos (by omega) (Ex.now ⟨by simp; omega, h1⟩)) (fun _ => ?_)
    refine Ex.if_ (fun _ => set_l1 h1 l hl l.length 0 [] (by omega) rfl) (fun _ => Ex.now ⟨by simp only; omega, h1⟩)
  | q + 1, i, acc, a, s, hi, ha, h => by
    refine Ex.succ ?_
    have ei : wrap64 ((i : Int) + 1) = ((i + 1 : Nat) : Int) := by rw [w64 (by omega) (by omega)]; omega
    simp only [spec_l10DrawSet.l0, ei]
    refine Ex.pos (by omega) (Ex.next h 3 (by omega) fun v a1 s1 h1 _ _ => ?_)
    exact Ex.if_ (fun _ => Ex.pos (by omega) (set_l0 l hl q (i + 1) _ a1 s1 (by omega) (by simp; omega) h1)) (fun _ => set_l0 l hl q (i + 1) acc a1 s1 (by omega) (by omega) h1)
theorem set_ex {cs : List Int} {a s : Int} (h : Src cs a s) (l : List Cell) (hl : l.length ≤ 100) : Ex (fun k => spec_l10DrawSet.f k cs a s l) fun r => r.1.length ≤ 200 ∧ Src cs r.2.1 r.2.2 := by
  unfold spec_l10DrawSet.f
  exact set_l0 l hl l.length 0 [] a s (by omega) (by simp) h
theorem cutDraw_ex (cs : List Int) (hl : cs.length ≤ 1000000000000000000) (hb : ∀ x ∈ cs, 0 ≤ x ∧ x ≤ 255) : Ex (fun k => spec_DrawCutRegion.f k cs) fun r => r.1.length ≤ 100 ∧ r.2.length ≤ 200 := by
  unfold spec_DrawCutRegion.f
  refine Ex.bind (from_ex cs hl hb) fun ⟨c1, a1, s1⟩ ⟨e1, e2, h1⟩ => ?_
  simp only at e1 e2 h1
  subst e1 e2
  refine Ex.bind (region_ex h1) fun r ⟨r1, r2⟩ => ?_
  exact Ex.bind (set_ex r2 r.1 r1) fun t ⟨t1, t2⟩ => Ex.now ⟨r1, t1⟩
theorem setDraw_ex (cs : List Int) (hl : cs.length ≤ 1000000000000000000) (hb : ∀ x ∈ cs, 0 ≤ x ∧ x ≤ 255) : Ex (fun k => spec_DrawCellsToSet.f k cs) fun r => r.1.length ≤ 100 ∧ r.2.length ≤ 200 := by
  unfold spec_DrawCellsToSet.f
  refine Ex.bind (from_ex cs hl hb) fun ⟨c1, a1, s1⟩ ⟨e1, e2, h1⟩ => ?_
  simp only at e1 e2 h1
  subst e1 e2
  refine Ex.bind (region_ex h1) fun r ⟨r1, r2⟩ => ?_
  refine Ex.bind (set_ex r2 r.1 r1) fun t ⟨t1, t2⟩ => ?_
  refine Ex.bindE (specRises_ev t.1 (r.1.length : Int) (by omega) (by omega) (by unfold small; omega)) ?_
  have hd {a s : Int} (h : Src c1 a s) : Ex (fun k => spec_DrawCellsToSet.j0 k r.1 t.1 true c1 a s) fun r => r.1.length ≤ 100 ∧ r.2.length ≤ 200 := by
    refine Ex.succ ?_
    simp only [spec_DrawCellsToSet.j0]
    exact Ex.pos (by trivial) (Ex.bind (draw_ex h) fun q ⟨q1, q2⟩ => Ex.now ⟨r1, by simp only; omega⟩)
  refine Ex.if_ (fun hr => ?_) (fun _ => hd t2)
  refine Ex.next t2 8 (by omega) fun v a2 s2 h2 _ _ => ?_
  by_cases hv : (v == 0) = true
  · simp only [hv]
    exact hd h2
  · simp only [Bool.eq_false_iff.mpr hv]
    refine Ex.succ ?_
    simp only [spec_DrawCellsToSet.j0]
    refine Ex.neg (by simp) (Ex.bindE (specCells_ev r.1 t.1 (by omega) (risesF_spec _ _ _ hr).1) (Ex.now ⟨r1, ?_⟩))
    simp only [cellsAt, List.length_map]
    exact t1
def lowB : List Cell → Cell → Nat
  | [], _ => 0
  | a :: r, c => if ltC a c then lowB r c + 1 else 0
theorem lowB_le : ∀ (l : List Cell) (c : Cell), lowB l c ≤ l.length
  | [], _ => Nat.le_refl _
  | a :: r, c => by
    unfold lowB
    have := lowB_le r c
    split
    · simpa using this
    · simp
theorem lowB_lt : ∀ (l : List Cell) (c : Cell) (i : Nat) (a : Cell), i < lowB l c → l[i]? = some a → ltC a c
  | [], _, i, a, h, _ => by simp [lowB] at h
  | b :: r, c, i, a, h, ha => by
    unfold lowB at h
    by_cases hb : ltC b c
    · rw [if_pos hb] at h
      cases i with
      | zero => simp at ha; exact ha ▸ hb
      | succ i => exact lowB_lt r c i a (by omega) (by simpa using ha)
    · rw [if_neg hb] at h; omega
theorem lowB_ge : ∀ (l : List Cell) (c : Cell), l.Pairwise ltC → ∀ (i : Nat) (a : Cell), lowB l c ≤ i → l[i]? = some a → ¬ ltC a c
  | [], _, _, i, a, _, ha => by simp at ha
  | b :: r, c, hp, i, a, h, ha => by
    obtain ⟨h1, h2⟩ := List.pairwise_cons.1 hp
    unfold lowB at h
    by_cases hb : ltC b c
    · rw [if_pos hb] at h
      cases i with
      | zero => omega
      | succ i => exact lowB_ge r c h2 i a (by omega) (by simpa using ha)
    · cases i with
      | zero => simp at ha; exact ha ▸ hb
      | succ i =>
        have hm : a ∈ r := List.mem_of_getElem? (by simpa using ha)
        exact fun h' => hb (ltC_trans (h1 a hm) h')
theorem ltC_irrefl (a : Cell) : ¬ ltC a a := by unfold ltC; omega
instance (priority := low) : DecidableEq Cell := fun a b => decidable_of_iff (sameC a b = true) sameC_iff
def bsB (l : List Cell) (c : Cell) : Int × Bool := ((lowB l c : Int), decide (l[lowB l c]? = some c))
theorem bsB_idx (l : List Cell) (c : Cell) (hp : l.Pairwise ltC) : if idxC l c < 0 then (bsB l c).2 = false else bsB l c = (idxC l c, true) := by
  rcases idxC_spec l c with ⟨h1, h2⟩ | ⟨j, h1, h2, h3, _⟩
  · rw [if_pos (by omega)]
    refine decide_eq_false fun h => h2 (List.mem_of_getElem? h)
  · rw [if_neg (by omega), h2]
    have e : lowB l c = j := by
      rcases Nat.lt_trichotomy j (lowB l c) with h | h | h
      · exact absurd (lowB_lt l c j c h h3) (ltC_irrefl c)
      · exact h.symm
      · exfalso
        have hlt : lowB l c < l.length := by omega
        have h4 := lowB_ge l c hp _ _ (Nat.le_refl _) (List.getElem?_eq_getElem hlt)
        have h5 : ltC l[lowB l c] l[j] := List.pairwise_iff_getElem.1 hp _ _ hlt h1 h
        have h6 : l[j] = c := by rw [List.getElem?_eq_getElem h1] at h3; exact Option.some.inj h3
        rw [h6] at h5
        exact h4 h5
    unfold bsB
    rw [e, h3]
    simp
theorem half_eq {i j : Nat} (h : i ≤ 1048576) (h' : j ≤ 1048576) : wrap64 ((IntKind.u64.wrap (wrap64 ((i : Int) + (j : Int)))) / 2) = (((i + j) / 2 : Nat) : Int) := by
  rw [w64 (n := (i : Int) + (j : Int)) (by omega) (by omega)]
  have e : IntKind.u64.wrap ((i : Int) + (j : Int)) = (i : Int) + (j : Int) := by
    simp only [IntKind.wrap, IntKind.signed, IntKind.bits]
    have : ((i : Int) + (j : Int)) % 18446744073709551616 = (i : Int) + (j : Int) := by omega
    simpa using this
  rw [e, w64 (by omega) (by omega)]
  omega
theorem rd_some {l : List Cell} {i : Nat} {a : Cell} (h : l[i]? = some a) : rd_T59 l (i : Int) = a := by
  simp [rd_T59, List.getD, h]
theorem bsearch_ev (l : List Cell) (c : Cell) (hl : l.length ≤ 1048576) (hp : l.Pairwise ltC) : Ev (fun k => impl_Cell_154__impl_compareCells.f k l c.f0 c.f1) (bsB l c) := by
  unfold impl_Cell_154__impl_compareCells.f
  have key : ∀ (n i j : Nat), j - i ≤ n → i ≤ lowB l c → lowB l c ≤ j → j ≤ l.length → Ev (fun k => impl_Cell_154__impl_compareCells.l0 k l (l.length : Int) (i : Int) (j : Int) c.f0 c.f1) (bsB l c) := by
    intro n
    induction n with
    | zero =>
      intro i j h0 h1 h2 h3
      obtain rfl : i = j := by omega
      obtain rfl : i = lowB l c := by omega
      refine Ev.succ ?_
      simp only [impl_Cell_154__impl_compareCells.l0]
      refine Ev.neg (by omega) ?_
      by_cases hlt : lowB l c < l.length
      · refine Ev.pos (by omega) (Ev.pos (by omega) (Ev.pos (by omega) ?_))
        have e := List.getElem?_eq_getElem hlt
        simp only [rd_some e, compareCells_eq, Option.bind_some]
        refine Ev.of_eq (Ev.now _) ?_
        refine Prod.ext rfl ?_
        show (cmpC l[lowB l c] c == 0) = decide (l[lowB l c]? = some c)
        rw [e, Bool.eq_iff_iff, beq_iff_eq, decide_eq_true_eq, cmpC_zero]
        simp
      · refine Ev.neg (by omega) (Ev.of_eq (Ev.now _) ?_)
        refine Prod.ext rfl ?_
        show false = decide (l[lowB l c]? = some c)
        rw [List.getElem?_eq_none (by omega)]
        simp
    | succ n ih =>
      intro i j h0 h1 h2 h3
      by_cases hij : i < j
      · refine Ev.succ ?_
        simp only [impl_Cell_154__impl_compareCells.l0, half_eq (i := i) (j := j) (by omega) (by omega)]
        have hh : (i + j) / 2 < l.length := by omega
        have e := List.getElem?_eq_getElem hh
        refine Ev.pos (by omega) (Ev.pos (by omega) (Ev.pos (by omega) ?_))
        simp only [rd_some e, compareCells_eq, Option.bind_some]
        by_cases hc : ltC l[(i + j) / 2] c
        · refine Ev.pos (cmpC_lt.2 hc) ?_
          have e1 : wrap64 ((((i + j) / 2 : Nat) : Int) + 1) = (((i + j) / 2 + 1 : Nat) : Int) := by rw [w64 (by omega) (by omega)]; rfl
          simp only [e1]
          refine ih _ _ (by omega) ?_ h2 h3
          rcases Nat.lt_or_ge ((i + j) / 2) (lowB l c) with h | h
          · omega
          · exact absurd hc (lowB_ge l c hp _ _ h e)
        · refine Ev.neg (fun h => hc (cmpC_lt.1 h)) ?_
          refine ih _ _ (by omega) h1 ?_ (by omega)
          rcases Nat.lt_or_ge ((i + j) / 2) (lowB l c) with h | h
          · exact absurd (lowB_lt l c _ _ h e) hc
          · exact h
      · exact ih i j (by omega) h1 h2 h3
  have := key l.length 0 l.length (by omega) (Nat.zero_le _) (lowB_le l c) (Nat.le_refl _)
  exact this
def setF (l : List Cell) : List Cell → List Int → List Int × Bool
  | [], acc => (acc, true)
  | c :: r, acc => if idxC l c < 0 then ([], false) else setF l r (acc ++ [idxC l c])
theorem setF_len (l : List Cell) : ∀ (r : List Cell) (acc : List Int), (setF l r acc).1.length ≤ acc.length + r.length
  | [], acc => by simp [setF]
  | c :: r, acc => by
    unfold setF
    split
    · simp
    · have := setF_len l r (acc ++ [idxC l c])
      simp only [List.length_append, List.length_cons, List.length_nil] at this ⊢
      omega
theorem specSet_ev (l r : List Cell) (hl : l.length ≤ 1048576) (hr : r.length ≤ 1048576) : Ev (fun k => spec_l10Set.f k l r) (setF l r []) := by
  have hs : small r := by unfold small; omega
  have hs' : small l := by unfold small; omega
  unfold spec_l10Set.f
  refine loop_list r (fun k i (s : List Int) => spec_l10Set.l0 k l r s i) (fun pre suf s => setF l suf s) (fun pre s => s.length ≤ pre.length) ?_ ?_ [] (Nat.le_refl _)
  · intro s _
    simp only [spec_l10Set.l0, len_lt, if_false]
    exact Ev.now _
  · intro pre c suf s hx hi ih
    have hp := pre_len hx
    simp only [spec_l10Set.l0, pre_lt hx, pre_0, if_true, at_pre hx, pre_w hx hs]
    refine Ev.bind (specIndex_ev l c hs') ?_
    unfold setF
    refine Ev.if_ (fun _ => Ev.now _) (fun _ => Ev.pos (by omega) (ih _ (by simp; omega)))
theorem implSet_ev (l r : List Cell) (hl : l.length ≤ 1048576) (hr : r.length ≤ 1048576) (hp : l.Pairwise ltC) : Ev (fun k => impl_cellsToSet.f k l r) (setF l r []) := by
  have hs : small r := by unfold small; omega
  unfold impl_cellsToSet.f
  refine loop_list r (fun k i (s : List Int) => impl_cellsToSet.l0 k l s r (r.length : Int) i) (fun pre suf s => setF l suf s) (fun pre s => s.length ≤ pre.length) ?_ ?_ [] (Nat.le_refl _)
  · intro s _
    simp only [impl_cellsToSet.l0, len_lt, if_false]
    exact Ev.now _
  · intro pre c suf s hx hi ih
    have hpl := pre_len hx
    simp only [impl_cellsToSet.l0, pre_lt hx, pre_0, if_true, at_pre hx, pre_w hx hs]
    refine Ev.bind (bsearch_ev l c hl hp) ?_
    have hb := bsB_idx l c hp
    unfold setF
    by_cases hn : idxC l c < 0
    · rw [if_pos hn] at hb
      rw [if_pos hn]
      exact Ev.neg (by simp [hb]) (Ev.now _)
    · rw [if_neg hn] at hb
      rw [if_neg hn, hb]
      exact Ev.pos rfl (Ev.pos (by omega) (ih _ (by simp; omega)))
end Go.Proofs.Ytabdmdkoffpppaa.L
end
section
namespace Go.Proofs.Ytabdmdkoffpppaa.L
open Go.RowKit Go.Proofs.YtabdmdkoffpppaaW.PrintWords Go.Proofs.YtabdmdkoffpppaaW.PrintLast Go.Proofs.YtabdmdkoffpppaaW.PrintMore Go.Proofs.Ytabdmdkoffpppaa.F
set_option linter.unusedVariables false
set_option linter.unusedSimpArgs false
def cellsSet (l r : List Cell) : List Int × Int := if regionB l = true then (if shapeB r = true then (if (setF l r []).2 = true then ((setF l r []).1, 0) else ([], 4)) else ([], 4)) else ([], 1)
theorem region_sorted {l : List Cell} (h : regionB l = true) : l.Pairwise ltC := by
  unfold regionB at h
  rw [Bool.and_eq_true] at h
  exact (shapeB_iff.1 h.1).2.1
theorem specCellsSet_ev (l r : List Cell) (hl : l.length ≤ 1048576) (hr : r.length ≤ 1048576) : Ev (fun k => spec_CellsToSet.f k l r) (cellsSet l r) := by
  have hs : small r := by unfold small; omega
  have hs' : small l := by unfold small; omega
  unfold spec_CellsToSet.f cellsSet
  refine Ev.bind (specIsRegion_ev l hs') (Ev.if_ (fun _ => ?_) (fun _ => Ev.now _))
  refine Ev.bind (specSet_ev l r hl hr) ?_
  by_cases h : (setF l r []).2 = true
  · refine Ev.pos h (Ev.bind (specIsShape_ev r hs) ?_)
    simp only [h, if_true]
    exact Ev.if_ (fun _ => Ev.now _) (fun _ => Ev.now _)
  · refine Ev.neg h (Ev.of_eq (Ev.now _) ?_)
    simp only [h, if_false]
    simp
theorem implCellsSet_ev (l r : List Cell) (hl : l.length ≤ 1048576) (hr : r.length ≤ 1048576) : Ev (fun k => impl_CellsToSet.f k l r) (cellsSet l r) := by
  have hs : small r := by unfold small; omega
  have hs' : small l := by unfold small; omega
  unfold impl_CellsToSet.f cellsSet
  refine Ev.bind (implIsRegion_ev l hs') (Ev.if_ (fun hr_ => ?_) (fun _ => Ev.now _))
  refine Ev.bind (implIsShape_ev r hs) (Ev.if_ (fun _ => ?_) (fun _ => Ev.now _))
  exact Ev.bind (implSet_ev l r hl hr (region_sorted hr_)) (Ev.if_ (fun _ => Ev.now _) (fun _ => Ev.now _))
end Go.Proofs.Ytabdmdkoffpppaa.L
end
section
namespace Go.Proofs.Ytabdmdkoffpppaa.L
open Go.RowKit Go.Proofs.YtabdmdkoffpppaaW.PrintWords Go.Proofs.YtabdmdkoffpppaaW.PrintLast Go.Proofs.YtabdmdkoffpppaaW.PrintMore Go.Proofs.Ytabdmdkoffpppaa.F
set_option linter.unusedVariables false
set_option linter.unusedSimpArgs false
theorem rd_at (l : List Cell) (j : Nat) (h : j < l.length) : rd_T59 l (j : Int) = l[j] := by
  have : l = l.take j ++ l[j] :: l.drop (j + 1) := by rw [List.getElem_cons_drop, List.take_append_drop]
  have e2 := at_pre this
  rw [List.length_take, Nat.min_eq_left (by omega)] at e2
  exact e2
theorem lt_at {l : List Cell} (h : l.Pairwise ltC) {i j : Nat} (hj : j < l.length) (hij : i < j) : ltC (l[i]'(by omega)) l[j] :=
  List.pairwise_iff_getElem.1 h i j (by omega) hj hij
theorem idx_at {l : List Cell} (h : l.Pairwise ltC) (i : Nat) (hi : i < l.length) : idxC l l[i] = (i : Int) := by
  rcases idxC_spec l l[i] with ⟨_, h2⟩ | ⟨j, h1, h2, h3, h4⟩
  · exact absurd (List.getElem_mem hi) h2
  · have e : l[j] = l[i] := by
      rw [List.getElem?_eq_getElem h1] at h3
      exact Option.some.inj h3
    rcases Nat.lt_trichotomy j i with g | g | g
    · have := lt_at h hi g
      rw [e] at this
      unfold ltC at this; omega
    · rw [h2, g]
    · have := lt_at h h1 g
      rw [e] at this
      unfold ltC at this; omega
theorem setF_back {l : List Cell} (h : l.Pairwise ltC) : ∀ (s acc : List Int), (∀ i ∈ s, 0 ≤ i ∧ i < (l.length : Int)) → setF l (cellsAt l s) acc = (acc ++ s, true)
  | [], acc, _ => by simp [cellsAt, setF]
  | i :: s, acc, hb => by
    have hi := hb i List.mem_cons_self
    obtain ⟨n, rfl⟩ : ∃ n : Nat, i = (n : Int) := ⟨i.toNat, by omega⟩
    have ih := setF_back h s (acc ++ [(n : Int)]) (fun j hj => hb j (List.mem_cons_of_mem _ hj))
    unfold cellsAt at ih ⊢
    rw [List.map_cons, setF, rd_at l n (by omega), idx_at h n (by omega), if_neg (by omega), ih]
    simp
theorem cells_shape {l : List Cell} {s : List Int} (h : codeOf l s = 0) (hne : 0 < s.length) : shapeB (cellsAt l s) = true := by
  obtain ⟨h1, h2, h3⟩ := codeOf_zero h
  have hlen := rest_lenS h
  have hsh : shapeB l = true := by unfold regionB at h1; simp only [Bool.and_eq_true] at h1; exact h1.1
  obtain ⟨g1, g2, g3, g4⟩ := shapeB_iff.1 hsh
  refine shapeB_iff.2 ⟨fun c hc => ?_, ?_, ?_, ?_⟩
  · unfold cellsAt at hc
    obtain ⟨i, hi, rfl⟩ := List.mem_map.1 hc
    have := h2 i hi
    obtain ⟨n, rfl⟩ : ∃ n : Nat, i = (n : Int) := ⟨i.toNat, by omega⟩
    rw [rd_at l n (by omega)]
    exact g1 _ (List.getElem_mem _)
  · unfold cellsAt
    rw [List.pairwise_map]
    refine h3.imp_of_mem fun {a b} ha hb hab => ?_
    have qa := h2 a ha
    have qb := h2 b hb
    obtain ⟨n, rfl⟩ : ∃ n : Nat, a = (n : Int) := ⟨a.toNat, by omega⟩
    obtain ⟨m, rfl⟩ : ∃ m : Nat, b = (m : Int) := ⟨b.toNat, by omega⟩
    rw [rd_at l n (by omega), rd_at l m (by omega)]
    exact lt_at g2 (by omega) (by omega)
  · unfold cellsAt; rw [List.length_map]; omega
  · unfold cellsAt; rw [List.length_map]; omega
theorem cells_back {l : List Cell} {s : List Int} (h : codeOf l s = 0) (hne : 0 < s.length) : cellsSet l (cellsAt l s) = (s, 0) := by
  obtain ⟨h1, h2, h3⟩ := codeOf_zero h
  have hsh : shapeB l = true := by unfold regionB at h1; simp only [Bool.and_eq_true] at h1; exact h1.1
  unfold cellsSet
  rw [if_pos h1, if_pos (cells_shape h hne), setF_back (shapeB_iff.1 hsh).2.1 s [] h2]
  simp
end Go.Proofs.Ytabdmdkoffpppaa.L
namespace Go.Proofs.Ytabdmdkoffpppaa.Pure
open Go.RowKit Go.Proofs.YtabdmdkoffpppaaW.PrintWords Go.Proofs.Ytabdmdkoffpppaa.F Go.Proofs.Ytabdmdkoffpppaa.L
set_option linter.unusedVariables false
theorem FnCut (l0 : List Int) (hv0 : l0.length ≤ 9223372036854775807 ∧ ∀ x ∈ l0, (Lit.int .u8 x).wf = true) : ∃ k, laws_FnCut.f k l0 = some true := by
  refine Ev.rounds ?_
  obtain ⟨hm, hv⟩ := hv0
  have hb : ∀ x ∈ l0, 0 ≤ x ∧ x ≤ 255 := fun x hx => by
    have := hv x hx
    have m0 : IntKind.u8.min = 0 := by decide
    have m1 : IntKind.u8.max = 255 := by decide
    simp [Lit.wf, m0, m1] at this
    omega
  unfold laws_FnCut.f
  refine Ev.bind0 rfl ?_
  by_cases hbig : (l0.length : Int) > 4096
  · exact Ev.pos (by simpa using hbig) (Ev.now _)
  refine Ev.neg (by simpa using hbig) ?_
  obtain ⟨⟨l, s⟩, e1, q1, q2⟩ := cutDraw_ex l0 (by omega) hb
  obtain ⟨⟨l2, c2⟩, e2, q3, q4⟩ := setDraw_ex l0 (by omega) hb
  simp only at q1 q2 q3 q4
  have hc := cutR_len l s
  have hcs : small (cutR l s).1 := by unfold small; omega
  have hk : (cellsSet l2 c2).1.length ≤ c2.length := by
    unfold cellsSet
    have := setF_len l2 c2 []
    repeat' split
    all_goals (simp at *; try omega)
  have hks : small (cellsSet l2 c2).1 := by unfold small; omega
  have hls : small l := by unfold small; omega
  have hss : small s := by unfold small; omega
  refine Ev.bind e1 (Ev.bind (implCut_ev l s (by omega) (by omega)) (Ev.bind (specCut_ev l s (by omega) (by omega)) (Ev.bind e2 (Ev.bind (implCellsSet_ev l2 c2 (by omega) (by omega)) (Ev.bind (specCellsSet_ev l2 c2 (by omega) (by omega)) ?_)))))
  refine Ev.pos rfl (Ev.bind (likeC_ev _ hcs) (Ev.pos rfl (Ev.pos rfl (Ev.bind (likeI_ev _ hks) (Ev.pos rfl (Ev.bind (implIsRegion_ev l hls) (Ev.bind (specIsRegion_ev l hls) ?_)))))))
  refine Ev.step (fun k => laws_FnCut.j0.eq_2 _ _ _ _ _ _) (Ev.neg (by simp) ?_)
  by_cases h0 : (cutR l s).2 = 0
  · refine Ev.pos h0 ?_
    have hcode : codeOf l s = 0 ∧ s.length ≠ l.length ∧ (cutR l s).1 = normalL (restF s 0 l) := by
      unfold cutR at h0 ⊢
      by_cases g : codeOf l s = 0
      · rw [if_pos g] at h0 ⊢
        by_cases g2 : s.length = l.length
        · rw [if_pos g2] at h0; simp at h0
        · rw [if_neg g2]; exact ⟨g, g2, rfl⟩
      · rw [if_neg g] at h0; exact absurd h0 g
    obtain ⟨g1, g2, g3⟩ := hcode
    have hlen := rest_lenS g1
    have hx : ((cutR l s).1.length : Int) = wrap64 ((l.length : Int) - (s.length : Int)) := by
      rw [g3, normalL_len, w64 (by omega) (by omega)]; omega
    refine Ev.bind (implSetToCells_ev l s (by omega) (by omega)) ?_
    have es : setCells l s = (cellsAt l s, 0) := by unfold setCells; rw [if_pos g1]
    rw [es]
    refine Ev.pos rfl (Ev.step (fun k => laws_FnCut.j1.eq_2 _ _ _ _ _ _) (Ev.neg (by simpa using hx) ?_))
    by_cases hz : s.length = 0
    · have e : s = [] := List.length_eq_zero_iff.1 hz
      refine Ev.pos (by show (s.length : Int) = 0; omega) ?_
      have ex : (cutR l s).1 = l := by rw [g3, e, rest_none, region_normal (codeOf_zero g1).1]
      rw [ex]
      exact Ev.bind (likeC_ev l hls) (Ev.now _)
    · refine Ev.neg (by show ¬ (s.length : Int) = 0; omega) (Ev.bind (implCellsSet_ev l (cellsAt l s) (by omega) (by unfold cellsAt; rw [List.length_map]; omega)) ?_)
      rw [cells_back g1 (by omega)]
      exact Ev.pos rfl (Ev.bind (likeI_ev s hss) (Ev.now _))
  · exact Ev.neg h0 (Ev.now _)
end Go.Proofs.Ytabdmdkoffpppaa.Pure
end
