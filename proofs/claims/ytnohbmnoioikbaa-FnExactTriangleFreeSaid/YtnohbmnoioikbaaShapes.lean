/- Shapes and regions: what IsShape, the least and the greatest coordinates, and IsRegion answer on both sides. -/
import Derived.Test.YtnohbmnoioikbaaCells
import Derived.Test.YtnohbmnoioikbaaInts
import Derived.Test.YtnohbmnoioikbaaFx0
import Derived.Test.YtnohbmnoioikbaaFx10
import Derived.Test.YtnohbmnoioikbaaFx3
import Derived.Test.YtnohbmnoioikbaaFx4
import Derived.Test.YtnohbmnoioikbaaFx6
import Derived.Test.YtnohbmnoioikbaaFx8
import Derived.Test.YtnohbmnoioikbaaFx9
namespace Go.Proofs.Ytnohbmnoioikbaa.L
open Go.RowKit Go.Proofs.YtnohbmnoioikbaaW.PrintWords Go.Proofs.YtnohbmnoioikbaaW.PrintLast Go.Proofs.YtnohbmnoioikbaaW.PrintMore Go.Proofs.Ytnohbmnoioikbaa.F
set_option linter.unusedVariables false
set_option linter.unusedSimpArgs false

theorem l02Less_eq (a b c d : Int) : spec_l02Less.f a b c d = some (decide (b < d ∨ b = d ∧ a < c)) := by
  unfold spec_l02Less.f
  by_cases h : b < d
  · simp [h]
  · by_cases h' : b = d <;> simp [h, h']
    
def cmpC (a b : Cell) : Int := if cmpI a.f1 b.f1 = 0 then cmpI a.f0 b.f0 else cmpI a.f1 b.f1
theorem compareCells_eq (a b : Cell) : impl_compareCells.f a.f0 a.f1 b.f0 b.f1 = some (cmpC a b) := by
  unfold impl_compareCells.f cmpC
  simp only [compare_eq, Option.bind_some]
  split <;> rfl
theorem cmpC_lt {a b : Cell} : cmpC a b < 0 ↔ ltC a b := by
  unfold cmpC cmpI ltC
  repeat' split
  all_goals constructor <;> intro h <;> omega
theorem cmpC_ge {a b : Cell} : cmpC a b ≥ 0 ↔ ¬ ltC a b := by
  rw [← cmpC_lt]; omega
theorem cmpC_zero {a b : Cell} : cmpC a b = 0 ↔ a = b := by
  obtain ⟨a0, a1⟩ := a
  obtain ⟨b0, b1⟩ := b
  unfold cmpC cmpI
  simp only [S55.mk.injEq]
  repeat' split
  all_goals constructor <;> intro h <;> omega

/-- Each cell is within bounds and behind the one before it. -/
def goodFrom : Option Cell → List Cell → Bool
  | _, [] => true
  | p, c :: r => decide (okC c) && (match p with | none => true | some q => decide (ltC q c)) && goodFrom (some c) r
def shapeB (l : List Cell) : Bool := goodFrom none l && decide (1 ≤ (l.length : Int) ∧ (l.length : Int) ≤ 40)

theorem specIsShape_ev (l : List Cell) (hs : small l) : Ev (fun k => spec_IsShape.f k l) (shapeB l) := by
  unfold spec_IsShape.f
  refine loop_list l (fun k i (_ : Unit) => spec_IsShape.l0 k l i) (fun pre suf _ => goodFrom pre.getLast? suf && decide (1 ≤ (l.length : Int) ∧ (l.length : Int) ≤ 40)) (fun _ _ => True) ?_ ?_ () trivial
  · intro _ _
    simp only [spec_IsShape.l0, len_lt, if_false, in_eq, Option.bind_some]
    refine Ev.of_eq (Ev.now _) ?_
    simp [goodFrom]
  · intro pre c suf _ hx _ ih
    simp only [spec_IsShape.l0, pre_lt hx, pre_0, if_true, at_pre hx, l02Cell_eq, Option.bind_some, pre_w hx hs]
    by_cases hc : okC c
    · have hc' : ok1 c.f0 ∧ ok1 c.f1 := hc
      simp only [hc', and_self, decide_true, if_true]
      rcases List.eq_nil_or_concat pre with rfl | ⟨L, b, rfl⟩
      · refine Ev.neg (by simp) (Ev.of_eq (ih () trivial) ?_)
        simp [goodFrom, hc]
      · rw [List.concat_eq_append] at hx ih ⊢
        have hx2 : l = L ++ b :: (c :: suf) := by rw [hx]; simp
        have e1 : wrap64 (((L ++ [b]).length : Int) - 1) = (L.length : Int) := by
          unfold small at hs
          rw [hx2] at hs
          simp only [List.length_append, List.length_cons, List.length_nil] at hs ⊢
          rw [w64 (by omega) (by omega)]; omega
        refine Ev.pos (by simp <;> omega) ?_
        simp only [e1, pre_0, if_true, pre_lt hx2, at_pre hx2, l02Less_eq, Option.bind_some]
        by_cases hl : ltC b c
        · have hl' : b.f1 < c.f1 ∨ b.f1 = c.f1 ∧ b.f0 < c.f0 := hl
          refine Ev.pos (by simpa using hl') (Ev.of_eq (ih () trivial) ?_)
          simp [goodFrom, hc, hl]
        · have hl' : ¬ (b.f1 < c.f1 ∨ b.f1 = c.f1 ∧ b.f0 < c.f0) := hl
          refine Ev.neg (by simpa using hl') (Ev.of_eq (Ev.now _) ?_)
          simp [goodFrom, hc, hl]
    · have hc' : ¬ (ok1 c.f0 ∧ ok1 c.f1) := hc
      simp only [hc', decide_false, Bool.false_eq_true, if_false]
      refine Ev.of_eq (Ev.now _) ?_
      simp [goodFrom, hc]

theorem implIsShape_ev (l : List Cell) (hs : small l) : Ev (fun k => impl_IsShape.f k l) (shapeB l) := by
  unfold impl_IsShape.f
  refine loop_list l (fun k i (_ : Unit) => impl_IsShape.l0 k l l (l.length : Int) i) (fun pre suf _ => goodFrom pre.getLast? suf && decide (1 ≤ (l.length : Int) ∧ (l.length : Int) ≤ 40)) (fun _ _ => True) ?_ ?_ () trivial
  · intro _ _
    simp only [impl_IsShape.l0, len_lt, if_false]
    refine Ev.of_eq (Ev.if_ (fun _ => Ev.now _) (fun _ => Ev.now _)) ?_
    by_cases h : (l.length : Int) ≥ 1
    · rw [if_pos h]; simp [goodFrom, show 1 ≤ (l.length : Int) from h]
    · rw [if_neg h]; simp [goodFrom, show ¬ 1 ≤ (l.length : Int) from h]
  · intro pre c suf _ hx _ ih
    simp only [impl_IsShape.l0, pre_lt hx, pre_0, if_true, at_pre hx, isCoordinate_eq, Option.bind_some, pre_w hx hs]
    by_cases hc : okC c
    · have hc' : ok1 c.f0 ∧ ok1 c.f1 := hc
      simp only [hc'.1, hc'.2, decide_true, if_true]
      rcases List.eq_nil_or_concat pre with rfl | ⟨L, b, rfl⟩
      · refine Ev.neg (by simp) (Ev.of_eq (ih () trivial) ?_)
        simp [goodFrom, hc]
      · rw [List.concat_eq_append] at hx ih ⊢
        have hx2 : l = L ++ b :: (c :: suf) := by rw [hx]; simp
        have e1 : wrap64 (((L ++ [b]).length : Int) - 1) = (L.length : Int) := by
          unfold small at hs
          rw [hx2] at hs
          simp only [List.length_append, List.length_cons, List.length_nil] at hs ⊢
          rw [w64 (by omega) (by omega)]; omega
        refine Ev.pos (by simp <;> omega) ?_
        simp only [e1, pre_0, if_true, pre_lt hx2, at_pre hx2, compareCells_eq, Option.bind_some]
        by_cases hl : ltC b c
        · refine Ev.neg (fun h => cmpC_ge.1 h hl) (Ev.of_eq (ih () trivial) ?_)
          simp [goodFrom, hc, hl]
        · refine Ev.pos (cmpC_ge.2 hl) (Ev.of_eq (Ev.now _) ?_)
          simp [goodFrom, hc, hl]
    · by_cases h0 : ok1 c.f0
      · have h1 : ¬ ok1 c.f1 := fun h => hc ⟨h0, h⟩
        simp only [h0, h1, decide_true, if_true, decide_false, Bool.false_eq_true, if_false]
        refine Ev.of_eq (Ev.now _) ?_
        simp [goodFrom, hc]
      · simp only [h0, decide_false, Bool.false_eq_true, if_false]
        refine Ev.of_eq (Ev.now _) ?_
        simp [goodFrom, hc]

theorem goodFrom_ok : ∀ (l : List Cell) (p : Option Cell), goodFrom p l = true → ∀ c ∈ l, okC c
  | [], _, _, c, h => by simp at h
  | a :: r, p, hg, c, h => by
    simp only [goodFrom, Bool.and_eq_true, decide_eq_true_eq] at hg
    rcases List.mem_cons.1 h with rfl | h
    · exact hg.1.1
    · exact goodFrom_ok r _ hg.2 c h
theorem ltC_trans {a b c : Cell} (h : ltC a b) (h' : ltC b c) : ltC a c := by unfold ltC at *; omega
theorem goodFrom_lt : ∀ (l : List Cell) (p : Option Cell), goodFrom p l = true → (∀ q, p = some q → ∀ c ∈ l, ltC q c) ∧ l.Pairwise ltC
  | [], _, _ => ⟨fun _ _ c h => by simp at h, List.Pairwise.nil⟩
  | a :: r, p, hg => by
    simp only [goodFrom, Bool.and_eq_true, decide_eq_true_eq] at hg
    obtain ⟨h1, h2⟩ := goodFrom_lt r (some a) hg.2
    have h3 := h1 a rfl
    refine ⟨fun q hq c hc => ?_, List.pairwise_cons.2 ⟨h3, h2⟩⟩
    subst hq
    have h4 : ltC q a := by simpa using hg.1.2
    rcases List.mem_cons.1 hc with rfl | hc
    · exact h4
    · exact ltC_trans h4 (h3 c hc)
theorem goodFrom_of : ∀ (l : List Cell) (p : Option Cell), (∀ c ∈ l, okC c) → (∀ q, p = some q → ∀ c ∈ l, ltC q c) → l.Pairwise ltC → goodFrom p l = true
  | [], _, _, _, _ => rfl
  | a :: r, p, h0, h1, h2 => by
    obtain ⟨h3, h4⟩ := List.pairwise_cons.1 h2
    simp only [goodFrom, Bool.and_eq_true, decide_eq_true_eq]
    refine ⟨⟨h0 a List.mem_cons_self, ?_⟩, goodFrom_of r (some a) (fun c hc => h0 c (List.mem_cons_of_mem _ hc)) (fun q hq c hc => by injection hq with hq; subst hq; exact h3 c hc) h4⟩
    cases p with
    | none => rfl
    | some q => simpa using h1 q rfl a List.mem_cons_self
theorem shapeB_iff {l : List Cell} : shapeB l = true ↔ (∀ c ∈ l, okC c) ∧ l.Pairwise ltC ∧ 1 ≤ l.length ∧ l.length ≤ 40 := by
  unfold shapeB
  rw [Bool.and_eq_true, decide_eq_true_eq]
  constructor
  · rintro ⟨h, h'⟩
    exact ⟨goodFrom_ok l _ h, (goodFrom_lt l _ h).2, by omega, by omega⟩
  · rintro ⟨h1, h2, h3, h4⟩
    exact ⟨goodFrom_of l none h1 (fun _ h => by cases h) h2, by omega, by omega⟩

/-- The least and the greatest coordinates. -/
def minX : Int → List Cell → Int := fun z l => l.foldl (fun m c => mn m c.f0) z
def minY : Int → List Cell → Int := fun z l => l.foldl (fun m c => mn m c.f1) z
def maxX : Int → List Cell → Int := fun z l => l.foldl (fun m c => mx m c.f0) z
def maxY : Int → List Cell → Int := fun z l => l.foldl (fun m c => mx m c.f1) z
def leastOf (l : List Cell) : Int × Int := match l with | [] => (0, 0) | c :: r => (minX c.f0 r, minY c.f1 r)
def reachOf (l : List Cell) : Int × Int := match l with | [] => (0, 0) | c :: r => (maxX c.f0 r, maxY c.f1 r)

theorem implCorner_ev (l : List Cell) (hs : small l) (h0 : 0 < l.length) : Ev (fun k => impl_corner.f k l) (leastOf l) := by
  unfold impl_corner.f
  obtain ⟨c, r, rfl⟩ : ∃ c r, l = c :: r := by cases l with | nil => simp at h0 | cons c r => exact ⟨c, r, rfl⟩
  refine Ev.pos (by simp <;> omega) ?_
  have h1 : rd_T55 (c :: r) 0 = c := rfl
  rw [h1]
  have := loop_list (c :: r) (fun k i (s : Int × Int) => impl_corner.l0 k (c :: r) ((c :: r).length : Int) i s.1 s.2) (fun _ suf s => (minX s.1 suf, minY s.2 suf)) (fun _ _ => True) ?_ ?_ (c.f0, c.f1) trivial
  · refine Ev.of_eq this ?_
    simp [leastOf, minX, minY, mn]
  · rintro s _
    simp only [impl_corner.l0, len_lt, if_false]
    exact Ev.now _
  · rintro pre d suf s hx _ ih
    simp only [impl_corner.l0, pre_lt hx, pre_0, if_true, at_pre hx, pre_w hx hs]
    exact ih (mn s.1 d.f0, mn s.2 d.f1) trivial
/-- A loop that begins behind the first element. -/
theorem loop_tail {α σ ρ : Type} (c : α) (r : List α) (l : Nat → Int → σ → Option ρ) (g : List α → List α → σ → ρ) (Inv : List α → σ → Prop)
    (hn : ∀ s, Inv (c :: r) s → Ev (fun k => l (k + 1) ((c :: r).length : Int) s) (g (c :: r) [] s))
    (hs : ∀ (pre : List α) (d : α) (suf : List α) (s : σ), c :: r = pre ++ d :: suf → pre ≠ [] → Inv pre s → (∀ s', Inv (pre ++ [d]) s' → Ev (fun k => l k ((pre.length : Int) + 1) s') (g (pre ++ [d]) suf s')) → Ev (fun k => l (k + 1) (pre.length : Int) s) (g pre (d :: suf) s)) :
    ∀ s, Inv [c] s → Ev (fun k => l k 1 s) (g [c] r s) := by
  have key : ∀ (suf pre : List α), c :: r = pre ++ suf → pre ≠ [] → ∀ s, Inv pre s → Ev (fun k => l k (pre.length : Int) s) (g pre suf s) := by
    intro suf
    induction suf with
    | nil =>
      intro pre hx _ s hi
      rw [List.append_nil] at hx
      subst hx
      exact Ev.succ (hn s hi)
    | cons d suf ih =>
      intro pre hx hp s hi
      refine Ev.succ (hs pre d suf s hx hp hi fun s' hi' => ?_)
      have := ih (pre ++ [d]) (by rw [hx]; simp) (by simp) s' hi'
      rw [List.length_append] at this
      exact this
  intro s hi
  exact key r [c] rfl (by simp) s hi
theorem specLeast_ev (l : List Cell) (hs : small l) (h0 : 0 < l.length) : Ev (fun k => spec_l02Least.f k l) (leastOf l) := by
  unfold spec_l02Least.f
  obtain ⟨c, r, rfl⟩ : ∃ c r, l = c :: r := by cases l with | nil => simp at h0 | cons c r => exact ⟨c, r, rfl⟩
  refine Ev.pos (by simp <;> omega) ?_
  have h1 : rd_T55 (c :: r) 0 = c := rfl
  rw [h1]
  refine loop_tail c r (fun k i (s : Int × Int) => spec_l02Least.l0 k (c :: r) s.1 s.2 i) (fun _ suf s => (minX s.1 suf, minY s.2 suf)) (fun _ _ => True) ?_ ?_ (c.f0, c.f1) trivial
  · rintro s _
    simp only [spec_l02Least.l0, len_lt, if_false]
    exact Ev.now _
  · rintro pre d suf s hx _ _ ih
    simp only [spec_l02Least.l0, pre_lt hx, pre_0, if_true, at_pre hx, pre_w hx hs]
    exact ih (mn s.1 d.f0, mn s.2 d.f1) trivial

theorem minX_le : ∀ (l : List Cell) (z : Int), minX z l ≤ z ∧ (∀ c ∈ l, minX z l ≤ c.f0) ∧ (minX z l = z ∨ ∃ c ∈ l, minX z l = c.f0)
  | [], z => ⟨Int.le_refl _, fun c h => by simp at h, .inl rfl⟩
  | a :: r, z => by
    obtain ⟨h1, h2, h3⟩ := minX_le r (mn z a.f0)
    have h4 : mn z a.f0 ≤ z ∧ mn z a.f0 ≤ a.f0 ∧ (mn z a.f0 = z ∨ mn z a.f0 = a.f0) := by unfold mn; split <;> omega
    have e : minX z (a :: r) = minX (mn z a.f0) r := rfl
    rw [e]
    refine ⟨by omega, fun c hc => ?_, ?_⟩
    · rcases List.mem_cons.1 hc with rfl | hc
      · omega
      · exact h2 c hc
    · rcases h3 with h3 | ⟨c, hc, h3⟩
      · rcases h4.2.2 with h5 | h5
        · exact .inl (h3.trans h5)
        · exact .inr ⟨a, List.mem_cons_self, h3.trans h5⟩
      · exact .inr ⟨c, List.mem_cons_of_mem _ hc, h3⟩
theorem minY_le : ∀ (l : List Cell) (z : Int), minY z l ≤ z ∧ (∀ c ∈ l, minY z l ≤ c.f1) ∧ (minY z l = z ∨ ∃ c ∈ l, minY z l = c.f1)
  | [], z => ⟨Int.le_refl _, fun c h => by simp at h, .inl rfl⟩
  | a :: r, z => by
    obtain ⟨h1, h2, h3⟩ := minY_le r (mn z a.f1)
    have h4 : mn z a.f1 ≤ z ∧ mn z a.f1 ≤ a.f1 ∧ (mn z a.f1 = z ∨ mn z a.f1 = a.f1) := by unfold mn; split <;> omega
    have e : minY z (a :: r) = minY (mn z a.f1) r := rfl
    rw [e]
    refine ⟨by omega, fun c hc => ?_, ?_⟩
    · rcases List.mem_cons.1 hc with rfl | hc
      · omega
      · exact h2 c hc
    · rcases h3 with h3 | ⟨c, hc, h3⟩
      · rcases h4.2.2 with h5 | h5
        · exact .inl (h3.trans h5)
        · exact .inr ⟨a, List.mem_cons_self, h3.trans h5⟩
      · exact .inr ⟨c, List.mem_cons_of_mem _ hc, h3⟩
theorem maxX_ge : ∀ (l : List Cell) (z : Int), z ≤ maxX z l ∧ (∀ c ∈ l, c.f0 ≤ maxX z l) ∧ (maxX z l = z ∨ ∃ c ∈ l, maxX z l = c.f0)
  | [], z => ⟨Int.le_refl _, fun c h => by simp at h, .inl rfl⟩
  | a :: r, z => by
    obtain ⟨h1, h2, h3⟩ := maxX_ge r (mx z a.f0)
    have h4 : z ≤ mx z a.f0 ∧ a.f0 ≤ mx z a.f0 ∧ (mx z a.f0 = z ∨ mx z a.f0 = a.f0) := by unfold mx; split <;> omega
    have e : maxX z (a :: r) = maxX (mx z a.f0) r := rfl
    rw [e]
    refine ⟨by omega, fun c hc => ?_, ?_⟩
    · rcases List.mem_cons.1 hc with rfl | hc
      · omega
      · exact h2 c hc
    · rcases h3 with h3 | ⟨c, hc, h3⟩
      · rcases h4.2.2 with h5 | h5
        · exact .inl (h3.trans h5)
        · exact .inr ⟨a, List.mem_cons_self, h3.trans h5⟩
      · exact .inr ⟨c, List.mem_cons_of_mem _ hc, h3⟩
theorem maxY_ge : ∀ (l : List Cell) (z : Int), z ≤ maxY z l ∧ (∀ c ∈ l, c.f1 ≤ maxY z l) ∧ (maxY z l = z ∨ ∃ c ∈ l, maxY z l = c.f1)
  | [], z => ⟨Int.le_refl _, fun c h => by simp at h, .inl rfl⟩
  | a :: r, z => by
    obtain ⟨h1, h2, h3⟩ := maxY_ge r (mx z a.f1)
    have h4 : z ≤ mx z a.f1 ∧ a.f1 ≤ mx z a.f1 ∧ (mx z a.f1 = z ∨ mx z a.f1 = a.f1) := by unfold mx; split <;> omega
    have e : maxY z (a :: r) = maxY (mx z a.f1) r := rfl
    rw [e]
    refine ⟨by omega, fun c hc => ?_, ?_⟩
    · rcases List.mem_cons.1 hc with rfl | hc
      · omega
      · exact h2 c hc
    · rcases h3 with h3 | ⟨c, hc, h3⟩
      · rcases h4.2.2 with h5 | h5
        · exact .inl (h3.trans h5)
        · exact .inr ⟨a, List.mem_cons_self, h3.trans h5⟩
      · exact .inr ⟨c, List.mem_cons_of_mem _ hc, h3⟩
theorem least_le {l : List Cell} {c : Cell} (h : c ∈ l) : (leastOf l).1 ≤ c.f0 ∧ (leastOf l).2 ≤ c.f1 := by
  cases l with
  | nil => simp at h
  | cons a r =>
    have hx := minX_le r a.f0
    have hy := minY_le r a.f1
    show minX a.f0 r ≤ c.f0 ∧ minY a.f1 r ≤ c.f1
    rcases List.mem_cons.1 h with rfl | h
    · exact ⟨hx.1, hy.1⟩
    · exact ⟨hx.2.1 c h, hy.2.1 c h⟩
theorem reach_ge {l : List Cell} {c : Cell} (h : c ∈ l) : c.f0 ≤ (reachOf l).1 ∧ c.f1 ≤ (reachOf l).2 := by
  cases l with
  | nil => simp at h
  | cons a r =>
    have hx := maxX_ge r a.f0
    have hy := maxY_ge r a.f1
    show c.f0 ≤ maxX a.f0 r ∧ c.f1 ≤ maxY a.f1 r
    rcases List.mem_cons.1 h with rfl | h
    · exact ⟨hx.1, hy.1⟩
    · exact ⟨hx.2.1 c h, hy.2.1 c h⟩
theorem least_mem {l : List Cell} (h : l ≠ []) : (∃ c ∈ l, (leastOf l).1 = c.f0) ∧ (∃ c ∈ l, (leastOf l).2 = c.f1) := by
  cases l with
  | nil => exact absurd rfl h
  | cons a r =>
    refine ⟨?_, ?_⟩
    · rcases (minX_le r a.f0).2.2 with e | ⟨c, hc, e⟩
      · exact ⟨a, List.mem_cons_self, e⟩
      · exact ⟨c, List.mem_cons_of_mem _ hc, e⟩
    · rcases (minY_le r a.f1).2.2 with e | ⟨c, hc, e⟩
      · exact ⟨a, List.mem_cons_self, e⟩
      · exact ⟨c, List.mem_cons_of_mem _ hc, e⟩
theorem reach_mem {l : List Cell} (h : l ≠ []) : (∃ c ∈ l, (reachOf l).1 = c.f0) ∧ (∃ c ∈ l, (reachOf l).2 = c.f1) := by
  cases l with
  | nil => exact absurd rfl h
  | cons a r =>
    refine ⟨?_, ?_⟩
    · rcases (maxX_ge r a.f0).2.2 with e | ⟨c, hc, e⟩
      · exact ⟨a, List.mem_cons_self, e⟩
      · exact ⟨c, List.mem_cons_of_mem _ hc, e⟩
    · rcases (maxY_ge r a.f1).2.2 with e | ⟨c, hc, e⟩
      · exact ⟨a, List.mem_cons_self, e⟩
      · exact ⟨c, List.mem_cons_of_mem _ hc, e⟩
theorem least_ok {l : List Cell} (h : l ≠ []) (ho : ∀ c ∈ l, okC c) : ok1 (leastOf l).1 ∧ ok1 (leastOf l).2 := by
  obtain ⟨⟨c, hc, e⟩, ⟨d, hd, e'⟩⟩ := least_mem h
  rw [e, e']
  exact ⟨(ho c hc).1, (ho d hd).2⟩
theorem reach_ok {l : List Cell} (h : l ≠ []) (ho : ∀ c ∈ l, okC c) : ok1 (reachOf l).1 ∧ ok1 (reachOf l).2 := by
  obtain ⟨⟨c, hc, e⟩, ⟨d, hd, e'⟩⟩ := reach_mem h
  rw [e, e']
  exact ⟨(ho c hc).1, (ho d hd).2⟩

/-- Width and height. -/
def sizeOf_ (l : List Cell) : Int × Int := ((reachOf l).1 - (leastOf l).1 + 1, (reachOf l).2 - (leastOf l).2 + 1)
theorem foldW (x : Int) : ∀ (l : List Cell) (m : Int), l.foldl (fun m c => mx m (c.f0 - x + 1)) (m - x + 1) = maxX m l - x + 1
  | [], m => rfl
  | a :: r, m => by
    have : mx (m - x + 1) (a.f0 - x + 1) = mx m a.f0 - x + 1 := by unfold mx; split <;> split <;> omega
    simp only [List.foldl_cons, this, foldW x r]
    rfl
theorem foldH (x : Int) : ∀ (l : List Cell) (m : Int), l.foldl (fun m c => mx m (c.f1 - x + 1)) (m - x + 1) = maxY m l - x + 1
  | [], m => rfl
  | a :: r, m => by
    have : mx (m - x + 1) (a.f1 - x + 1) = mx m a.f1 - x + 1 := by unfold mx; split <;> split <;> omega
    simp only [List.foldl_cons, this, foldH x r]
    rfl
/-- A region. -/
def regionB (l : List Cell) : Bool := shapeB l && (decide ((leastOf l).1 = 0) && (decide ((leastOf l).2 = 0) && (decide ((reachOf l).1 < 20) && decide ((reachOf l).2 < 20))))
theorem shape_ne {l : List Cell} (h : shapeB l = true) : l ≠ [] := by
  have := (shapeB_iff.1 h).2.2.1
  intro e
  rw [e] at this
  simp at this
end Go.Proofs.Ytnohbmnoioikbaa.L
