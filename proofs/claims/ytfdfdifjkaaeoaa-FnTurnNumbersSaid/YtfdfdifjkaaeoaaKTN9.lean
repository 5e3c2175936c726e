/- The row of FnTurnNumbers, with what it needs: text 10 of 11. -/
import Derived.Test.YtfdfdifjkaaeoaaKTN8
set_option maxHeartbeats 8000000
set_option maxRecDepth 100000
section
namespace Go.Proofs.Ytfdfdifjkaaeoaa.L
open Go.RowKit Go.Proofs.YtfdfdifjkaaeoaaW.PrintWords Go.Proofs.YtfdfdifjkaaeoaaW.PrintLast Go.Proofs.YtfdfdifjkaaeoaaW.PrintMore Go.Proofs.Ytfdfdifjkaaeoaa.F
set_option linter.unusedVariables false
set_option linter.unusedSimpArgs false
theorem specLeast_ev (l : List Cell) (hs : small l) (h0 : 0 < l.length) : Ev (fun k => spec_l02Least.f k l) (leastOf l) := by
  unfold spec_l02Least.f
  obtain ⟨c, r, rfl⟩ : ∃ c r, l = c :: r := by cases l with | nil => simp at h0 | cons c r => exact ⟨c, r, rfl⟩
  refine Ev.pos (by simp <;> omega) ?_
  have h1 : rd_T59 (c :: r) 0 = c := rfl
  rw [h1]
  refine loop_tail c r (fun k i (s : Int × Int) => spec_l02Least.l0 k (c :: r) s.1 s.2 i) (fun _ suf s => (minX s.1 suf, minY s.2 suf)) (fun _ _ => True) ?_ ?_ (c.f0, c.f1) trivial
  · rintro s _
    simp only [spec_l02Least.l0, len_lt, if_false]
    exact Ev.now _
  · rintro pre d suf s hx _ _ ih
    simp only [spec_l02Least.l0, pre_lt hx, pre_0, if_true, at_pre hx, pre_w hx hs]
    exact ih (mn s.1 d.f0, mn s.2 d.f1) trivial
theorem minX_le : ∀ (l : List Cell) (z : Int), minX z l ≤ z ∧ (∀ c ∈ l, minX z l ≤ c.f0) ∧ (minX z l = z ∨ ∃ c ∈ l, minX z l = c.f0)
  | [], z => ⟨Int.le_refl _, fun c h => by simp at h, .inl rfl⟩
  | a :: r, z => by
    obtain ⟨h1, h2, h3⟩ := minX_le r (mn z a.f0)
    have h4 : mn z a.f0 ≤ z ∧ mn z a.f0 ≤ a.f0 ∧ (mn z a.f0 = z ∨ mn z a.f0 = a.f0) := by unfold mn; split <;> omega
    have e : minX z (a :: r) = minX (mn z a.f0) r := rfl
    rw [e]
    refine ⟨by omega, fun c hc => ?_, ?_⟩
    · rcases List.mem_cons.1 hc with rfl | hc
      · omega
      · exact h2 c hc
    · rcases h3 with h3 | ⟨c, hc, h3⟩
      · rcases h4.2.2 with h5 | h5
        · exact .inl (h3.trans h5)
        · exact .inr ⟨a, List.mem_cons_self, h3.trans h5⟩
      · exact .inr ⟨c, List.mem_cons_of_mem _ hc, h3⟩
theorem minY_le : ∀ (l : List Cell) (z : Int), minY z l ≤ z ∧ (∀ c ∈ l, minY z l ≤ c.f1) ∧ (minY z l = z ∨ ∃ c ∈ l, minY z l = c.f1)
  | [], z => ⟨Int.le_refl _, fun c h => by simp at h, .inl rfl⟩
  | a :: r, z => by
    obtain ⟨h1, h2, h3⟩ := minY_le r (mn z a.f1)
    have h4 : mn z a.f1 ≤ z ∧ mn z a.f1 ≤ a.f1 ∧ (mn z a.f1 = z ∨ mn z a.f1 = a.f1) := by unfold mn; split <;> omega
    have e : minY z (a :: r) = minY (mn z a.f1) r := rfl
    rw [e]
    refine ⟨by omega, fun c hc => ?_, ?_⟩
    · rcases List.mem_cons.1 hc with rfl | hc
      · omega
      · exact h2 c hc
    · rcases h3 with h3 | ⟨c, hc, h3⟩
      · rcases h4.2.2 with h5 | h5
        · exact .inl (h3.trans h5)
        · exact .inr ⟨a, List.mem_cons_self, h3.trans h5⟩
      · exact .inr ⟨c, List.mem_cons_of_mem _ hc, h3⟩
theorem maxX_ge : ∀ (l : List Cell) (z : Int), z ≤ maxX z l ∧ (∀ c ∈ l, c.f0 ≤ maxX z l) ∧ (maxX z l = z ∨ ∃ c ∈ l, maxX z l = c.f0)
  | [], z => ⟨Int.le_refl _, fun c h => by simp at h, .inl rfl⟩
  | a :: r, z => by
    obtain ⟨h1, h2, h3⟩ := maxX_ge r (mx z a.f0)
    have h4 : z ≤ mx z a.f0 ∧ a.f0 ≤ mx z a.f0 ∧ (mx z a.f0 = z ∨ mx z a.f0 = a.f0) := by unfold mx; split <;> omega
    have e : maxX z (a :: r) = maxX (mx z a.f0) r := rfl
    rw [e]
    refine ⟨by omega, fun c hc => ?_, ?_⟩
    · rcases List.mem_cons.1 hc with rfl | hc
      · omega
      · exact h2 c hc
    · rcases h3 with h3 | ⟨c, hc, h3⟩
      · rcases h4.2.2 with h5 | h5
        · exact .inl (h3.trans h5)
        · exact .inr ⟨a, List.mem_cons_self, h3.trans h5⟩
      · exact .inr ⟨c, List.mem_cons_of_mem _ hc, h3⟩
theorem maxY_ge : ∀ (l : List Cell) (z : Int), z ≤ maxY z l ∧ (∀ c ∈ l, c.f1 ≤ maxY z l) ∧ (maxY z l = z ∨ ∃ c ∈ l, maxY z l = c.f1)
  | [], z => ⟨Int.le_refl _, fun c h => by simp at h, .inl rfl⟩
  | a :: r, z => by
    obtain ⟨h1, h2, h3⟩ := maxY_ge r (mx z a.f1)
    have h4 : z ≤ mx z a.f1 ∧ a.f1 ≤ mx z a.f1 ∧ (mx z a.f1 = z ∨ mx z a.f1 = a.f1) := by unfold mx; split <;> omega
    have e : maxY z (a :: r) = maxY (mx z a.f1) r := rfl
    rw [e]
    refine ⟨by omega, fun c hc => ?_, ?_⟩
    · rcases List.mem_cons.1 hc with rfl | hc
      · omega
      · exact h2 c hc
    · rcases h3 with h3 | ⟨c, hc, h3⟩
      · rcases h4.2.2 with h5 | h5
        · exact .inl (h3.trans h5)
        · exact .inr ⟨a, List.mem_cons_self, h3.trans h5⟩
      · exact .inr ⟨c, List.mem_cons_of_mem _ hc, h3⟩
theorem least_le {l : List Cell} {c : Cell} (h : c ∈ l) : (leastOf l).1 ≤ c.f0 ∧ (leastOf l).2 ≤ c.f1 := by
  cases l with
  | nil => simp at h
  | cons a r =>
    have hx := minX_le r a.f0
    have hy := minY_le r a.f1
    show minX a.f0 r ≤ c.f0 ∧ minY a.f1 r ≤ c.f1
    rcases List.mem_cons.1 h with rfl | h
    · exact ⟨hx.1, hy.1⟩
    · exact ⟨hx.2.1 c h, hy.2.1 c h⟩
theorem reach_ge {l : List Cell} {c : Cell} (h : c ∈ l) : c.f0 ≤ (reachOf l).1 ∧ c.f1 ≤ (reachOf l).2 := by
  cases l with
  | nil => simp at h
  | cons a r =>
    have hx := maxX_ge r a.f0
    have hy := maxY_ge r a.f1
    show c.f0 ≤ maxX a.f0 r ∧ c.f1 ≤ maxY a.f1 r
    rcases List.mem_cons.1 h with rfl | h
    · exact ⟨hx.1, hy.1⟩
    · exact ⟨hx.2.1 c h, hy.2.1 c h⟩
theorem least_mem {l : List Cell} (h : l ≠ []) : (∃ c ∈ l, (leastOf l).1 = c.f0) ∧ (∃ c ∈ l, (leastOf l).2 = c.f1) := by
  cases l with
  | nil => exact absurd rfl h
  | cons a r =>
    refine ⟨?_, ?_⟩
    · rcases (minX_le r a.f0).2.2 with e | ⟨c, hc, e⟩
      · exact ⟨a, List.mem_cons_self, e⟩
      · exact ⟨c, List.mem_cons_of_mem _ hc, e⟩
    · rcases (minY_le r a.f1).2.2 with e | ⟨c, hc, e⟩
      · exact ⟨a, List.mem_cons_self, e⟩
      · exact ⟨c, List.mem_cons_of_mem _ hc, e⟩
theorem least_ok {l : List Cell} (h : l ≠ []) (ho : ∀ c ∈ l, okC c) : ok1 (leastOf l).1 ∧ ok1 (leastOf l).2 := by
  obtain ⟨⟨c, hc, e⟩, ⟨d, hd, e'⟩⟩ := least_mem h
  rw [e, e']
  exact ⟨(ho c hc).1, (ho d hd).2⟩
def sizeOf_ (l : List Cell) : Int × Int := ((reachOf l).1 - (leastOf l).1 + 1, (reachOf l).2 - (leastOf l).2 + 1)
theorem foldW (x : Int) : ∀ (l : List Cell) (m : Int), l.foldl (fun m c => mx m (c.f0 - x + 1)) (m - x + 1) = maxX m l - x + 1
  | [], m => rfl
  | a :: r, m => by
    have : mx (m - x + 1) (a.f0 - x + 1) = mx m a.f0 - x + 1 := by unfold mx; split <;> split <;> omega
    simp only [List.foldl_cons, this, foldW x r]
    rfl
theorem foldH (x : Int) : ∀ (l : List Cell) (m : Int), l.foldl (fun m c => mx m (c.f1 - x + 1)) (m - x + 1) = maxY m l - x + 1
  | [], m => rfl
  | a :: r, m => by
    have : mx (m - x + 1) (a.f1 - x + 1) = mx m a.f1 - x + 1 := by unfold mx; split <;> split <;> omega
    simp only [List.foldl_cons, this, foldH x r]
    rfl
theorem specSize_ev (l : List Cell) (hs : small l) (h0 : l ≠ []) (ho : ∀ c ∈ l, okC c) : Ev (fun k => spec_l04Size.f k l) (sizeOf_ l) := by
  unfold spec_l04Size.f
  refine Ev.bind (specLeast_ev l hs (List.length_pos_iff.2 h0)) ?_
  have hb := least_ok h0 ho
  have := loop_list l (fun k i (s : Int × Int) => spec_l04Size.l0 k l (leastOf l).1 (leastOf l).2 s.1 s.2 i)
    (fun _ suf s => (suf.foldl (fun m c => mx m (c.f0 - (leastOf l).1 + 1)) s.1, suf.foldl (fun m c => mx m (c.f1 - (leastOf l).2 + 1)) s.2)) (fun _ _ => True) ?_ ?_ (0, 0) trivial
  · refine Ev.of_eq this ?_
    obtain ⟨a, r, rfl⟩ : ∃ a r, l = a :: r := by cases l with | nil => exact absurd rfl h0 | cons a r => exact ⟨a, r, rfl⟩
    have hl := least_le (l := a :: r) (c := a) List.mem_cons_self
    have e1 : mx 0 (a.f0 - (leastOf (a :: r)).1 + 1) = a.f0 - (leastOf (a :: r)).1 + 1 := by unfold mx; split <;> omega
    have e2 : mx 0 (a.f1 - (leastOf (a :: r)).2 + 1) = a.f1 - (leastOf (a :: r)).2 + 1 := by unfold mx; split <;> omega
    simp only [List.foldl_cons, e1, e2, foldW, foldH]
    rfl
  · rintro s _
    simp only [spec_l04Size.l0, len_lt, if_false]
    exact Ev.now _
  · rintro pre d suf s hx _ ih
    have hd := ho d (by rw [hx]; simp)
    unfold okC ok1 at hd
    unfold ok1 at hb
    have e1 : wrap64 (wrap64 (d.f0 - (leastOf l).1) + 1) = d.f0 - (leastOf l).1 + 1 := by rw [w64 (n := d.f0 - (leastOf l).1) (by omega) (by omega), w64 (by omega) (by omega)]
    have e2 : wrap64 (wrap64 (d.f1 - (leastOf l).2) + 1) = d.f1 - (leastOf l).2 + 1 := by rw [w64 (n := d.f1 - (leastOf l).2) (by omega) (by omega), w64 (by omega) (by omega)]
    simp only [spec_l04Size.l0, pre_lt hx, pre_0, if_true, at_pre hx, pre_w hx hs, e1, e2]
    exact ih (mx s.1 (d.f0 - (leastOf l).1 + 1), mx s.2 (d.f1 - (leastOf l).2 + 1)) trivial
def regionB (l : List Cell) : Bool := shapeB l && (decide ((leastOf l).1 = 0) && (decide ((leastOf l).2 = 0) && (decide ((reachOf l).1 < 20) && decide ((reachOf l).2 < 20))))
theorem shape_ne {l : List Cell} (h : shapeB l = true) : l ≠ [] := by
  have := (shapeB_iff.1 h).2.2.1
  intro e
  rw [e] at this
  simp at this
theorem specIsRegion_ev (l : List Cell) (hs : small l) : Ev (fun k => spec_IsRegion.f k l) (regionB l) := by
  unfold spec_IsRegion.f
  refine Ev.bind (specIsShape_ev l hs) ?_
  unfold regionB
  by_cases h : shapeB l = true
  · have hn := shape_ne h
    have ho := (shapeB_iff.1 h).1
    refine Ev.pos h (Ev.bind (specSize_ev l hs hn ho) (Ev.bind (specLeast_ev l hs (List.length_pos_iff.2 hn)) ?_))
    rw [h, Bool.true_and]
    by_cases h1 : (leastOf l).1 = 0
    · refine Ev.pos h1 ?_
      by_cases h2 : (leastOf l).2 = 0
      · refine Ev.pos h2 ?_
        simp only [sizeOf_, h1, h2, decide_true, Bool.true_and]
        by_cases h3 : (reachOf l).1 < 20
        · refine Ev.pos (by omega) (Ev.of_eq (Ev.now _) ?_)
          simp [h3]; omega
        · refine Ev.neg (by omega) (Ev.of_eq (Ev.now _) ?_)
          simp [h3]
      · exact Ev.neg h2 (Ev.of_eq (Ev.now _) (by simp [h2]))
    · exact Ev.neg h1 (Ev.of_eq (Ev.now _) (by simp [h1]))
  · exact Ev.neg h (Ev.of_eq (Ev.now _) (by simp [h]))
theorem implIsRegion_ev (l : List Cell) (hs : small l) : Ev (fun k => impl_IsRegion.f k l) (regionB l) := by
  unfold impl_IsRegion.f
  refine Ev.bind (implIsShape_ev l hs) ?_
  unfold regionB
  by_cases h : shapeB l = true
  · have hn := shape_ne h
    refine Ev.pos h (Ev.bind (implCorner_ev l hs (List.length_pos_iff.2 hn)) ?_)
    rw [h, Bool.true_and]
    by_cases h1 : (leastOf l).1 = 0
    · by_cases h2 : (leastOf l).2 = 0
      · refine Ev.neg (by simp [h1, h2]) (Ev.bind (implReach_ev l hs (List.length_pos_iff.2 hn)) ?_)
        simp only [h1, h2, decide_true, Bool.true_and]
        by_cases h3 : (reachOf l).1 < 20
        · exact Ev.pos h3 (Ev.of_eq (Ev.now _) (by simp [h3]))
        · exact Ev.neg h3 (Ev.of_eq (Ev.now _) (by simp [h3]))
      · exact Ev.pos (by simp [h2]) (Ev.of_eq (Ev.now _) (by simp [h2]))
    · exact Ev.pos (by simp [h1]) (Ev.of_eq (Ev.now _) (by simp [h1]))
  · exact Ev.neg h (Ev.of_eq (Ev.now _) (by simp [h]))
def sameC (a b : Cell) : Bool := decide (a.f0 = b.f0) && decide (a.f1 = b.f1)
theorem sameC_iff {a b : Cell} : sameC a b = true ↔ a = b := by
  obtain ⟨a0, a1⟩ := a
  obtain ⟨b0, b1⟩ := b
  simp [sameC]
def idxF : List Cell → Cell → Int → Int
  | [], _, _ => -1
  | a :: r, c, i => if sameC a c = true then i else idxF r c (i + 1)
def idxC (l : List Cell) (c : Cell) : Int := idxF l c 0
theorem specIndex_ev (l : List Cell) (c : Cell) (hs : small l) : Ev (fun k => spec_l02Index.f k l c.f0 c.f1) (idxC l c) := by
  unfold spec_l02Index.f
  refine loop_list l (fun k i (_ : Unit) => spec_l02Index.l0 k l i c.f0 c.f1) (fun pre suf _ => idxF suf c (pre.length : Int)) (fun _ _ => True) ?_ ?_ () trivial
  · intro _ _
    simp only [spec_l02Index.l0, len_lt, if_false]
    exact Ev.now _
  · intro pre d suf _ hx _ ih
    simp only [spec_l02Index.l0, pre_lt hx, pre_0, if_true, at_pre hx, pre_w hx hs, idxF]
    have e : (d.f0 == c.f0 && d.f1 == c.f1) = sameC d c := by simp [sameC, BEq.beq]
    rw [e]
    refine Ev.if_ (fun _ => Ev.now _) (fun _ => Ev.of_eq (ih () trivial) ?_)
    simp
theorem idxF_spec : ∀ (l : List Cell) (c : Cell) (i : Int), 0 ≤ i → (idxF l c i = -1 ∧ c ∉ l) ∨ (∃ j : Nat, j < l.length ∧ idxF l c i = i + (j : Int) ∧ l[j]? = some c ∧ ∀ q : Nat, q < j → l[q]? ≠ some c)
  | [], c, i, _ => .inl ⟨rfl, by simp⟩
  | a :: r, c, i, hi => by
    unfold idxF
    by_cases h : sameC a c = true
    · rw [if_pos h]
      exact .inr ⟨0, by simp, by simp, by simp [sameC_iff.1 h], fun q hq => by omega⟩
    · rw [if_neg h]
      have hne : a ≠ c := fun e => h (sameC_iff.2 e)
      rcases idxF_spec r c (i + 1) (by omega) with ⟨h1, h2⟩ | ⟨j, h1, h2, h3, h4⟩
      · exact .inl ⟨h1, by simp only [List.mem_cons, not_or]; exact ⟨fun e => hne e.symm, h2⟩⟩
      · refine .inr ⟨j + 1, by simpa using h1, by rw [h2]; simp; omega, by simpa using h3, fun q hq => ?_⟩
        cases q with
        | zero => simpa using hne
        | succ q => simpa using h4 q (by omega)
theorem idxC_spec (l : List Cell) (c : Cell) : (idxC l c = -1 ∧ c ∉ l) ∨ (∃ j : Nat, j < l.length ∧ idxC l c = (j : Int) ∧ l[j]? = some c ∧ ∀ q : Nat, q < j → l[q]? ≠ some c) := by
  rcases idxF_spec l c 0 (Int.le_refl _) with h | ⟨j, h1, h2, h3⟩
  · exact .inl h
  · exact .inr ⟨j, h1, by unfold idxC; rw [h2]; omega, h3⟩
theorem idxC_mem (l : List Cell) (c : Cell) : idxC l c ≥ 0 ↔ c ∈ l := by
  rcases idxC_spec l c with ⟨h1, h2⟩ | ⟨j, h1, h2, h3, _⟩
  · rw [h1]; constructor
    · intro h; omega
    · intro h; exact absurd h h2
  · rw [h2]; constructor
    · intro _; exact List.mem_of_getElem? h3
    · intro _; omega
def lowB : List Cell → Cell → Nat
  | [], _ => 0
  | a :: r, c => if ltC a c then lowB r c + 1 else 0
theorem lowB_le : ∀ (l : List Cell) (c : Cell), lowB l c ≤ l.length
  | [], _ => Nat.le_refl _
  | a :: r, c => by
    unfold lowB
    have := lowB_le r c
    split
    · simpa using this
    · simp
theorem lowB_lt : ∀ (l : List Cell) (c : Cell) (i : Nat) (a : Cell), i < lowB l c → l[i]? = some a → ltC a c
  | [], _, i, a, h, _ => by simp [lowB] at h
  | b :: r, c, i, a, h, ha => by
    unfold lowB at h
    by_cases hb : ltC b c
    · rw [if_pos hb] at h
      cases i with
      | zero => simp at ha; exact ha ▸ hb
      | succ i => exact lowB_lt r c i a (by omega) (by simpa using ha)
    · rw [if_neg hb] at h; omega
theorem lowB_ge : ∀ (l : List Cell) (c : Cell), l.Pairwise ltC → ∀ (i : Nat) (a : Cell), lowB l c ≤ i → l[i]? = some a → ¬ ltC a c
  | [], _, _, i, a, _, ha => by simp at ha
  | b :: r, c, hp, i, a, h, ha => by
    obtain ⟨h1, h2⟩ := List.pairwise_cons.1 hp
    unfold lowB at h
    by_cases hb : ltC b c
    · rw [if_pos hb] at h
      cases i with
      | zero => omega
      | succ i => exact lowB_ge r c h2 i a (by omega) (by simpa using ha)
    · cases i with
      | zero => simp at ha; exact ha ▸ hb
      | succ i =>
        have hm : a ∈ r := List.mem_of_getElem? (by simpa using ha)
        exact fun h' => hb (ltC_trans (h1 a hm) h')
theorem ltC_irrefl (a : Cell) : ¬ ltC a a := by unfold ltC; omega
instance (priority := low) : DecidableEq Cell := fun a b => decidable_of_iff (sameC a b = true) sameC_iff
def bsB (l : List Cell) (c : Cell) : Int × Bool := ((lowB l c : Int), decide (l[lowB l c]? = some c))
theorem bsB_idx (l : List Cell) (c : Cell) (hp : l.Pairwise ltC) : if idxC l c < 0 then (bsB l c).2 = false else bsB l c = (idxC l c, true) := by
  rcases idxC_spec l c with ⟨h1, h2⟩ | ⟨j, h1, h2, h3, _⟩
  · rw [if_pos (by omega)]
    refine decide_eq_false fun h => h2 (List.mem_of_getElem? h)
  · rw [if_neg (by omega), h2]
    have e : lowB l c = j := by
      rcases Nat.lt_trichotomy j (lowB l c) with h | h | h
      · exact absurd (lowB_lt l c j c h h3) (ltC_irrefl c)
      · exact h.symm
      · exfalso
        have hlt : lowB l c < l.length := by omega
        have h4 := lowB_ge l c hp _ _ (Nat.le_refl _) (List.getElem?_eq_getElem hlt)
        have h5 : ltC l[lowB l c] l[j] := List.pairwise_iff_getElem.1 hp _ _ hlt h1 h
        have h6 : l[j] = c := by rw [List.getElem?_eq_getElem h1] at h3; exact Option.some.inj h3
        rw [h6] at h5
        exact h4 h5
    unfold bsB
    rw [e, h3]
    simp
theorem half_eq {i j : Nat} (h : i ≤ 1048576) (h' : j ≤ 1048576) : wrap64 ((IntKind.u64.wrap (wrap64 ((i : Int) + (j : Int)))) / 2) = (((i + j) / 2 : Nat) : Int) := by
  rw [w64 (n := (i : Int) + (j : Int)) (by omega) (by omega)]
  have e : IntKind.u64.wrap ((i : Int) + (j : Int)) = (i : Int) + (j : Int) := by
    simp only [IntKind.wrap, IntKind.signed, IntKind.bits]
    have : ((i : Int) + (j : Int)) % 18446744073709551616 = (i : Int) + (j : Int) := by omega
    simpa using this
  rw [e, w64 (by omega) (by omega)]
  omega
theorem rd_some {l : List Cell} {i : Nat} {a : Cell} (h : l[i]? = some a) : rd_T59 l (i : Int) = a := by
  simp [rd_T59, List.getD, h]
theorem bsearch_ev (l : List Cell) (c : Cell) (hl : l.length ≤ 1048576) (hp : l.Pairwise ltC) : Ev (fun k => impl_Cell_136__impl_compareCells.f k l c.f0 c.f1) (bsB l c) := by
  unfold impl_Cell_136__impl_compareCells.f
  have key : ∀ (n i j : Nat), j - i ≤ n → i ≤ lowB l c → lowB l c ≤ j → j ≤ l.length → Ev (fun k => impl_Cell_136__impl_compareCells.l0 k l (l.length : Int) (i : Int) (j : Int) c.f0 c.f1) (bsB l c) := by
    intro n
    induction n with
    | zero =>
      intro i j h0 h1 h2 h3
      obtain rfl : i = j := by omega
      obtain rfl : i = lowB l c := by omega
      refine Ev.succ ?_
      simp only [impl_Cell_136__impl_compareCells.l0]
      refine Ev.neg (by omega) ?_
      by_cases hlt : lowB l c < l.length
      · refine Ev.pos (by omega) (Ev.pos (by omega) (Ev.pos (by omega) ?_))
        have e := List.getElem?_eq_getElem hlt
        simp only [rd_some e, compareCells_eq, Option.bind_some]
        refine Ev.of_eq (Ev.now _) ?_
        refine Prod.ext rfl ?_
        show (cmpC l[lowB l c] c == 0) = decide (l[lowB l c]? = some c)
        rw [e, Bool.eq_iff_iff, beq_iff_eq, decide_eq_true_eq, cmpC_zero]
        simp
      · refine Ev.neg (by omega) (Ev.of_eq (Ev.now _) ?_)
        refine Prod.ext rfl ?_
        show false = decide (l[lowB l c]? = some c)
        rw [List.getElem?_eq_none (by omega)]
        simp
    | succ n ih =>
      intro i j h0 h1 h2 h3
      by_cases hij : i < j
      · refine Ev.succ ?_
        simp only [impl_Cell_136__impl_compareCells.l0, half_eq (i := i) (j := j) (by omega) (by omega)]
        have hh : (i + j) / 2 < l.length := by omega
        have e := List.getElem?_eq_getElem hh
        refine Ev.pos (by omega) (Ev.pos (by omega) (Ev.pos (by omega) ?_))
        simp only [rd_some e, compareCells_eq, Option.bind_some]
        by_cases hc : ltC l[(i + j) / 2] c
        · refine Ev.pos (cmpC_lt.2 hc) ?_
          have e1 : wrap64 ((((i + j) / 2 : Nat) : Int) + 1) = (((i + j) / 2 + 1 : Nat) : Int) := by rw [w64 (by omega) (by omega)]; rfl
          simp only [e1]
          refine ih _ _ (by omega) ?_ h2 h3
          rcases Nat.lt_or_ge ((i + j) / 2) (lowB l c) with h | h
          · omega
          · exact absurd hc (lowB_ge l c hp _ _ h e)
        · refine Ev.neg (fun h => hc (cmpC_lt.1 h)) ?_
          refine ih _ _ (by omega) h1 ?_ (by omega)
          rcases Nat.lt_or_ge ((i + j) / 2) (lowB l c) with h | h
          · exact absurd (lowB_lt l c _ _ h e) hc
          · exact h
      · exact ih i j (by omega) h1 h2 h3
  have := key l.length 0 l.length (by omega) (Nat.zero_le _) (lowB_le l c) (Nat.le_refl _)
  exact this
def setF (l : List Cell) : List Cell → List Int → List Int × Bool
  | [], acc => (acc, true)
  | c :: r, acc => if idxC l c < 0 then ([], false) else setF l r (acc ++ [idxC l c])
theorem setF_len (l : List Cell) : ∀ (r : List Cell) (acc : List Int), (setF l r acc).1.length ≤ acc.length + r.length
  | [], acc => by simp [setF]
  | c :: r, acc => by
    unfold setF
    split
    · simp
    · have := setF_len l r (acc ++ [idxC l c])
      simp only [List.length_append, List.length_cons, List.length_nil] at this ⊢
      omega
theorem implSet_ev (l r : List Cell) (hl : l.length ≤ 1048576) (hr : r.length ≤ 1048576) (hp : l.Pairwise ltC) : Ev (fun k => impl_cellsToSet.f k l r) (setF l r []) := by
  have hs : small r := by unfold small; omega
  unfold impl_cellsToSet.f
  refine loop_list r (fun k i (s : List Int) => impl_cellsToSet.l0 k l s r (r.length : Int) i) (fun pre suf s => setF l suf s) (fun pre s => s.length ≤ pre.length) ?_ ?_ [] (Nat.le_refl _)
  · intro s _
    simp only [impl_cellsToSet.l0, len_lt, if_false]
    exact Ev.now _
  · intro pre c suf s hx hi ih
    have hpl := pre_len hx
    simp only [impl_cellsToSet.l0, pre_lt hx, pre_0, if_true, at_pre hx, pre_w hx hs]
    refine Ev.bind (bsearch_ev l c hl hp) ?_
    have hb := bsB_idx l c hp
    unfold setF
    by_cases hn : idxC l c < 0
    · rw [if_pos hn] at hb
      rw [if_pos hn]
      exact Ev.neg (by simp [hb]) (Ev.now _)
    · rw [if_neg hn] at hb
      rw [if_neg hn, hb]
      exact Ev.pos rfl (Ev.pos (by omega) (ih _ (by simp; omega)))
def moveL (l : List Cell) (x y : Int) : List Cell := l.map fun c => ⟨wrap64 (c.f0 + x), wrap64 (c.f1 + y)⟩
theorem moveL_len (l : List Cell) (x y : Int) : (moveL l x y).length = l.length := by simp [moveL]
theorem specMove_ev (l : List Cell) (x y : Int) (hl : l.length ≤ 1048576) : Ev (fun k => spec_l02Move.f k l x y) (moveL l x y) := by
  have hs : small l := by unfold small; omega
  unfold spec_l02Move.f
  have := loop_list l (fun k i (s : List Cell) => spec_l02Move.l0 k l x y s i) (fun pre suf s => s ++ moveL suf x y) (fun pre s => s.length = pre.length) ?_ ?_ [] rfl
  · simpa using this
  · intro s _
    simp only [spec_l02Move.l0, len_lt, if_false]
    exact Ev.of_eq (Ev.now _) (by simp [moveL])
  · intro pre c suf s hx hi ih
    have hp := pre_len hx
    simp only [spec_l02Move.l0, pre_lt hx, pre_0, if_true, at_pre hx, pre_w hx hs]
    refine Ev.pos (by omega) (Ev.of_eq (ih _ (by simp [hi])) ?_)
    simp [moveL]
theorem implMoved_ev (l : List Cell) (x y : Int) (hl : l.length ≤ 1048576) : Ev (fun k => impl_moved.f k l x y) (moveL l x y) := by
  have hs : small l := by unfold small; omega
  unfold impl_moved.f
  refine Ev.pos (by omega) (Ev.pos (by omega) ?_)
  have := loop_list l (fun k i (s : List Cell) => impl_moved.l0 k x y s l (l.length : Int) i) (fun pre suf s => s ++ moveL suf x y) (fun pre s => s.length = pre.length) ?_ ?_ [] rfl
  · simpa using this
  · intro s _
    simp only [impl_moved.l0, len_lt, if_false]
    exact Ev.of_eq (Ev.now _) (by simp [moveL])
  · intro pre c suf s hx hi ih
    have hp := pre_len hx
    simp only [impl_moved.l0, pre_lt hx, pre_0, if_true, at_pre hx, pre_w hx hs]
    refine Ev.pos (by omega) (Ev.of_eq (ih _ (by simp [hi])) ?_)
    simp [moveL]
def normalL (l : List Cell) : List Cell := moveL l (wrap64 (-(leastOf l).1)) (wrap64 (-(leastOf l).2))
theorem normalL_len (l : List Cell) : (normalL l).length = l.length := moveL_len _ _ _
theorem specNormal_ev (l : List Cell) (hl : l.length ≤ 1048576) (h0 : 0 < l.length) : Ev (fun k => spec_l02Normal.f k l) (normalL l) := by
  unfold spec_l02Normal.f
  refine Ev.bind (specLeast_ev l (by unfold small; omega) h0) (Ev.bind (specMove_ev l _ _ hl) (Ev.now _))
theorem implNormal_ev (l : List Cell) (hl : l.length ≤ 1048576) (h0 : 0 < l.length) : Ev (fun k => impl_normal.f k l) (normalL l) := by
  unfold impl_normal.f
  refine Ev.bind (implCorner_ev l (by unfold small; omega) h0) (Ev.bind (implMoved_ev l _ _ hl) (Ev.now _))
def rotP : Nat → Int × Int → Int × Int
  | 0, p => p
  | n + 1, p => rotP n (wrap64 (-p.2), p.1)
def turnC (c : Cell) (t : Int) : Int × Int := rotP (t % 4).toNat (if t ≥ 4 then (wrap64 (-c.f0), c.f1) else (c.f0, c.f1))
theorem specTurn_l (n : Nat) (hn : n ≤ 1048576) : ∀ p : Int × Int, Ev (fun k => spec_l03Turn.l0 k (n : Int) p.1 p.2) (rotP n p) := by
  induction n with
  | zero =>
    intro p
    refine Ev.succ ?_
    simp only [spec_l03Turn.l0]
    exact Ev.neg (by simp) (Ev.now _)
  | succ n ih =>
    intro p
    refine Ev.succ ?_
    simp only [spec_l03Turn.l0]
    have e1 : wrap64 (((n + 1 : Nat) : Int) - 1) = (n : Int) := by rw [w64 (by omega) (by omega)]; omega
    refine Ev.pos (by omega) ?_
    simp only [e1]
    exact ih (by omega) (wrap64 (-p.2), p.1)
theorem implTurn_l (m : Nat) (hm : m ≤ 1048576) (n : Nat) : ∀ (i : Nat) (p : Int × Int), i + n = m → Ev (fun k => impl_turnCell.l0 k (m : Int) (i : Int) p.1 p.2) (rotP n p) := by
  induction n with
  | zero =>
    intro i p hi
    refine Ev.succ ?_
    simp only [impl_turnCell.l0]
    exact Ev.neg (by omega) (Ev.now _)
  | succ n ih =>
    intro i p hi
    refine Ev.succ ?_
    simp only [impl_turnCell.l0]
    have e1 : wrap64 ((i : Int) + 1) = ((i + 1 : Nat) : Int) := by rw [w64 (by omega) (by omega)]; omega
    refine Ev.pos (by omega) ?_
    simp only [e1]
    exact ih (i + 1) (wrap64 (-p.2), p.1) (by omega)
theorem tmod4 {t : Int} (h : 0 ≤ t) : Int.tmod t 4 = ((t % 4).toNat : Int) := by
  rw [Int.tmod_eq_emod_of_nonneg h]
  omega
theorem specTurn_ev (c : Cell) (t : Int) (h : 0 ≤ t) : Ev (fun k => spec_l03Turn.f k c.f0 c.f1 t) (turnC c t) := by
  unfold spec_l03Turn.f turnC
  have := specTurn_l (t % 4).toNat (by omega)
  by_cases h4 : t ≥ 4
  · rw [if_pos h4]
    refine Ev.pos h4 (Ev.step (fun k => spec_l03Turn.j0.eq_2 _ _ _ _) ?_)
    simp only [tmod4 h]
    exact this (wrap64 (-c.f0), c.f1)
  · rw [if_neg h4]
    refine Ev.neg h4 (Ev.step (fun k => spec_l03Turn.j0.eq_2 _ _ _ _) ?_)
    simp only [tmod4 h]
    exact this (c.f0, c.f1)
theorem implTurn_ev (c : Cell) (t : Int) (h : 0 ≤ t) : Ev (fun k => impl_turnCell.f k c.f0 c.f1 t) (turnC c t) := by
  unfold impl_turnCell.f turnC
  have := implTurn_l (t % 4).toNat (by omega) (t % 4).toNat 0
  by_cases h4 : t ≥ 4
  · rw [if_pos h4]
    refine Ev.pos h4 (Ev.step (fun k => impl_turnCell.j0.eq_2 _ _ _ _) ?_)
    simp only [tmod4 h]
    exact this (wrap64 (-c.f0), c.f1) (by omega)
  · rw [if_neg h4]
    refine Ev.neg h4 (Ev.step (fun k => impl_turnCell.j0.eq_2 _ _ _ _) ?_)
    simp only [tmod4 h]
    exact this (c.f0, c.f1) (by omega)
def turnD (t : Int) (c : Cell) : Cell := ⟨(turnC c t).1, (turnC c t).2⟩
end Go.Proofs.Ytfdfdifjkaaeoaa.L
end
section
namespace Go.Proofs.Ytfdfdifjkaaeoaa.L
open Go.RowKit Go.Proofs.YtfdfdifjkaaeoaaW.PrintWords Go.Proofs.YtfdfdifjkaaeoaaW.PrintLast Go.Proofs.YtfdfdifjkaaeoaaW.PrintMore Go.Proofs.Ytfdfdifjkaaeoaa.F
set_option linter.unusedVariables false
set_option linter.unusedSimpArgs false
def turnNums (l : List Cell) (t : Int) : List Int × Bool := setF l (normalL (l.map (turnD t))) []
theorem region_sorted' {l : List Cell} (h : regionB l = true) : l.Pairwise ltC ∧ 0 < l.length ∧ l.length ≤ 40 := by
  unfold regionB at h
  rw [Bool.and_eq_true] at h
  have := shapeB_iff.1 h.1
  exact ⟨this.2.1, by omega, this.2.2.2⟩
theorem specNumbers_ev (l : List Cell) (t : Int) (ht : 0 ≤ t) (hl : l.length ≤ 1048576) (h0 : 0 < l.length) : Ev (fun k => spec_l10Numbers.f k l t) (turnNums l t) := by
  have hs : small l := by unfold small; omega
  unfold spec_l10Numbers.f turnNums
  refine loop_list l (fun k i (s : List Cell) => spec_l10Numbers.l0 k l t s i) (fun pre suf s => setF l (normalL (s ++ suf.map (turnD t))) []) (fun pre s => s.length = pre.length) ?_ ?_ [] rfl
  · intro s hi
    have hi' : s.length = l.length := hi
    have hsl : s.length ≤ 1048576 := by omega
    simp only [spec_l10Numbers.l0, len_lt, if_false]
    refine Ev.bind (specLeast_ev s (by unfold small; omega) (by omega)) (Ev.bind (specMove_ev s _ _ hsl) ?_)
    have hm := moveL_len s (wrap64 (-(leastOf s).1)) (wrap64 (-(leastOf s).2))
    have hms : small (normalL s) := by unfold small; rw [normalL_len]; omega
    refine Ev.of_eq (r := setF l (normalL s) []) ?_ (by simp)
    refine loop_list (normalL s) (fun k i (q : List Int) => spec_l10Numbers.l1 k l (normalL s) q i) (fun pre suf q => setF l suf q) (fun pre q => q.length ≤ pre.length) ?_ ?_ [] (Nat.le_refl _)
    · intro q _
      simp only [spec_l10Numbers.l1, len_lt, if_false]
      exact Ev.now _
    · intro pre c suf q hx hq ih
      have hp := pre_len hx
      rw [normalL_len] at hp
      simp only [spec_l10Numbers.l1, pre_lt hx, pre_0, if_true, at_pre hx, pre_w hx hms]
      refine Ev.bind (specIndex_ev l c hs) ?_
      unfold setF
      refine Ev.if_ (fun _ => Ev.now _) (fun _ => Ev.pos (by omega) (ih _ (by simp; omega)))
  · intro pre c suf s hx hi ih
    have hp := pre_len hx
    simp only [spec_l10Numbers.l0, pre_lt hx, pre_0, if_true, at_pre hx, pre_w hx hs]
    refine Ev.bind (specTurn_ev c t ht) (Ev.pos (by omega) (Ev.of_eq (ih (s ++ [turnD t c]) (by simp [hi])) ?_))
    simp
theorem implNumbers_ev (l : List Cell) (t : Int) (ht : 0 ≤ t) (hl : l.length ≤ 1048576) (h0 : 0 < l.length) (hp : l.Pairwise ltC) : Ev (fun k => impl_turnNumbers.f k l t) (turnNums l t) := by
  have hs : small l := by unfold small; omega
  unfold impl_turnNumbers.f turnNums
  refine loop_list l (fun k i (s : List Cell) => impl_turnNumbers.l0 k l t s l (l.length : Int) i) (fun pre suf s => setF l (normalL (s ++ suf.map (turnD t))) []) (fun pre s => s.length = pre.length) ?_ ?_ [] rfl
  · intro s hi
    have hi' : s.length = l.length := hi
    have hsl : s.length ≤ 1048576 := by omega
    simp only [impl_turnNumbers.l0, len_lt, if_false]
    refine Ev.bind (implNormal_ev s hsl (by omega)) (Ev.bind (implSet_ev l _ hl (by rw [normalL_len]; omega) hp) (Ev.of_eq (Ev.now _) ?_))
    simp
  · intro pre c suf s hx hi ih
    have hp' := pre_len hx
    simp only [impl_turnNumbers.l0, pre_lt hx, pre_0, if_true, at_pre hx, pre_w hx hs]
    refine Ev.bind (implTurn_ev c t ht) (Ev.pos (by omega) (Ev.of_eq (ih (s ++ [turnD t c]) (by simp [hi])) ?_))
    simp
def turnNumbers (l : List Cell) (t : Int) : List Int × Int := if regionB l = true then (if 0 ≤ t ∧ t ≤ 7 then (if (turnNums l t).2 = true then ((turnNums l t).1, 0) else ([], 5)) else ([], 2)) else ([], 1)
theorem turnNumbers_len (l : List Cell) (t : Int) : (turnNumbers l t).1.length ≤ l.length := by
  unfold turnNumbers
  have h := setF_len l (normalL (l.map (turnD t))) []
  rw [normalL_len] at h
  split
  · split
    · split
      · unfold turnNums; simpa using h
      · simp
    · simp
  · simp
theorem specTurnNumbers_ev (l : List Cell) (t : Int) (hl : l.length ≤ 1048576) : Ev (fun k => spec_TurnNumbers.f k l t) (turnNumbers l t) := by
  have hs : small l := by unfold small; omega
  unfold spec_TurnNumbers.f turnNumbers
  refine Ev.bind (specIsRegion_ev l hs) (Ev.if_ (fun hr => ?_) (fun _ => Ev.now _))
  have h1 : spec_l03Is.f t = some (decide (0 ≤ t ∧ t ≤ 7)) := by unfold spec_l03Is.f; rw [in_eq]; rfl
  simp only [h1, Option.bind_some, decide_eq_true_eq]
  refine Ev.if_ (fun ht => ?_) (fun _ => Ev.now _)
  exact Ev.bind (specNumbers_ev l t ht.1 hl (region_sorted' hr).2.1) (Ev.if_ (fun _ => Ev.now _) (fun _ => Ev.now _))
theorem implTurnNumbers_ev (l : List Cell) (t : Int) (hl : l.length ≤ 1048576) : Ev (fun k => impl_TurnNumbers.f k l t) (turnNumbers l t) := by
  have hs : small l := by unfold small; omega
  unfold impl_TurnNumbers.f turnNumbers
  refine Ev.bind (implIsRegion_ev l hs) (Ev.if_ (fun hr => ?_) (fun _ => Ev.now _))
  have h1 : impl_isTurn.f t = some (decide (0 ≤ t ∧ t ≤ 7)) := by unfold impl_isTurn.f; rw [within_eq]; rfl
  simp only [h1, Option.bind_some, decide_eq_true_eq]
  refine Ev.if_ (fun ht => ?_) (fun _ => Ev.now _)
  exact Ev.bind (implNumbers_ev l t ht.1 hl (region_sorted' hr).2.1 (region_sorted' hr).1) (Ev.if_ (fun _ => Ev.now _) (fun _ => Ev.now _))
end Go.Proofs.Ytfdfdifjkaaeoaa.L
end
section
namespace Go.Proofs.Ytfdfdifjkaaeoaa.L
open Go.RowKit Go.Proofs.YtfdfdifjkaaeoaaW.PrintWords Go.Proofs.YtfdfdifjkaaeoaaW.PrintLast Go.Proofs.YtfdfdifjkaaeoaaW.PrintMore Go.Proofs.Ytfdfdifjkaaeoaa.F
set_option linter.unusedVariables false
set_option linter.unusedSimpArgs false
theorem implIndex_ev (l : List Cell) (c : Cell) (hs : small l) : Ev (fun k => impl_Cell_104.f k l c.f0 c.f1) (idxC l c) := by
  unfold impl_Cell_104.f
  refine loop_list l (fun k i (_ : Unit) => impl_Cell_104.l0 k l (l.length : Int) i c.f0 c.f1) (fun pre suf _ => idxF suf c (pre.length : Int)) (fun _ _ => True) ?_ ?_ () trivial
  · intro _ _
    simp only [impl_Cell_104.l0, len_lt, if_false]
    exact Ev.now _
  · intro pre d suf _ hx _ ih
    simp only [impl_Cell_104.l0, pre_lt hx, pre_0, if_true, at_pre hx, pre_w hx hs, idxF]
    have e : (c.f0 == d.f0 && c.f1 == d.f1) = sameC d c := by
      rw [Bool.eq_iff_iff]
      simp only [sameC, Bool.and_eq_true, beq_iff_eq, decide_eq_true_eq]
      constructor <;> (rintro ⟨h, h'⟩; exact ⟨h.symm, h'.symm⟩)
    rw [e]
    refine Ev.if_ (fun _ => Ev.now _) (fun _ => Ev.of_eq (ih () trivial) ?_)
    simp
theorem implContains_ev (l : List Cell) (c : Cell) (hs : small l) : Ev (fun k => impl_Cell_65.f k l c.f0 c.f1) (decide (idxC l c ≥ 0)) := by
  unfold impl_Cell_65.f
  exact Ev.bind (implIndex_ev l c hs) (Ev.now _)
end Go.Proofs.Ytfdfdifjkaaeoaa.L
end
section
namespace Go.Proofs.Ytfdfdifjkaaeoaa.L
open Go.RowKit Go.Proofs.YtfdfdifjkaaeoaaW.PrintWords Go.Proofs.YtfdfdifjkaaeoaaW.PrintLast Go.Proofs.YtfdfdifjkaaeoaaW.PrintMore Go.Proofs.Ytfdfdifjkaaeoaa.F
set_option linter.unusedVariables false
def aroundC (c : Cell) : List Cell := [⟨c.f0, wrap64 (c.f1 - 1)⟩, ⟨wrap64 (c.f0 - 1), c.f1⟩, ⟨wrap64 (c.f0 + 1), c.f1⟩, ⟨c.f0, wrap64 (c.f1 + 1)⟩]
theorem specAround_eq (c : Cell) : spec_l02Around.f c.f0 c.f1 = some (aroundC c) := rfl
theorem implAround_eq (c : Cell) : impl_around.f c.f0 c.f1 = some (aroundC c) := rfl
end Go.Proofs.Ytfdfdifjkaaeoaa.L
end
section
namespace Go.Proofs.Ytfdfdifjkaaeoaa.L
open Go.RowKit Go.Proofs.YtfdfdifjkaaeoaaW.PrintWords Go.Proofs.YtfdfdifjkaaeoaaW.PrintLast Go.Proofs.YtfdfdifjkaaeoaaW.PrintMore Go.Proofs.Ytfdfdifjkaaeoaa.F
set_option linter.unusedVariables false
set_option linter.unusedSimpArgs false
def innerB (l : List Cell) (c : Cell) : Bool := (aroundC c).all fun d => decide (idxC l d ≥ 0)
def borderF (l : List Cell) : Int → List Cell → List Int
  | _, [] => []
  | i, c :: r => if innerB l c = true then borderF l (i + 1) r else i :: borderF l (i + 1) r
def borderOf (l : List Cell) : List Int × Int := if regionB l = true then (borderF l 0 l, 0) else ([], 1)
theorem borderF_len (l : List Cell) : ∀ (r : List Cell) (i : Int), (borderF l i r).length ≤ r.length
  | [], _ => Nat.le_refl _
  | c :: r, i => by
    have := borderF_len l r (i + 1)
    unfold borderF
    split <;> simp only [List.length_cons] <;> omega
theorem borderOf_len (l : List Cell) : (borderOf l).1.length ≤ l.length := by
  unfold borderOf
  split
  · exact borderF_len l l 0
  · simp
def cntI (l : List Cell) (r : List Cell) : Nat := r.countP fun d => decide (idxC l d ≥ 0)
theorem specBorder_ev (l : List Cell) (hl : l.length ≤ 1048576) : Ev (fun k => spec_BorderCells.f k l) (borderOf l) := by
  have hs : small l := by unfold small; omega
  unfold spec_BorderCells.f borderOf
  refine Ev.bind (specIsRegion_ev l hs) (Ev.if_ (fun _ => ?_) (fun _ => Ev.now _))
  have := loop_list l (fun k i (s : List Int) => spec_BorderCells.l0 k l s i) (fun pre suf s => (s ++ borderF l (pre.length : Int) suf, (0 : Int))) (fun pre s => s.length ≤ pre.length) ?_ ?_ [] (Nat.le_refl _)
  · simpa using this
  · intro s _
    simp only [spec_BorderCells.l0, len_lt, if_false]
    exact Ev.of_eq (Ev.now _) (by simp [borderF])
  · intro pre c suf s hx hi ih
    have hp := pre_len hx
    simp only [spec_BorderCells.l0, pre_lt hx, pre_0, if_true, at_pre hx, specAround_eq, Option.bind_some]
    have h4 : ((aroundC c).length : Int) = 4 := rfl
    have := loop_list (aroundC c) (fun k i (n : Int) => spec_BorderCells.l1 k l s (pre.length : Int) (aroundC c) n i) (fun q r n => (s ++ borderF l (pre.length : Int) (c :: suf), (0 : Int)))
      (fun q n => n = (cntI l q : Int)) ?_ ?_ 0 rfl
    · exact this
    · rintro n rfl
      have e0 : ¬ (((aroundC c).length : Int) < 4) := by rw [h4]; decide
      simp only [spec_BorderCells.l1, e0, if_false, pre_w hx hs]
      have hle : cntI l (aroundC c) ≤ 4 := List.countP_le_length
      have hc : ((cntI l (aroundC c) : Int) < 4) ↔ ¬ innerB l c = true := by
        have h1 : innerB l c = true ↔ cntI l (aroundC c) = (aroundC c).length := by
          unfold innerB cntI
          rw [List.countP_eq_length, List.all_eq_true]
        rw [h1]
        have : (aroundC c).length = 4 := rfl
        omega
      by_cases hb : innerB l c = true
      · refine Ev.neg (fun h => hc.1 h hb) ?_
        refine Ev.of_eq (ih s (by simp; omega)) ?_
        simp [borderF, hb]
      · refine Ev.pos (hc.2 hb) (Ev.pos (by omega) ?_)
        refine Ev.of_eq (ih (s ++ [(pre.length : Int)]) (by simp; omega)) ?_
        simp [borderF, hb]
    · rintro q d r n hq rfl ihq
      have hq4 : ((q.length : Int) < 4) = True := by
        have := pre_len hq
        have h5 : (aroundC c).length = 4 := rfl
        simp; omega
      have hsm : small (aroundC c) := by unfold small; have h5 : (aroundC c).length = 4 := rfl; omega
      simp only [spec_BorderCells.l1, hq4, pre_0, if_true, pre_lt hq, at_pre hq, pre_w hq hsm]
      refine Ev.bind (specIndex_ev l d hs) ?_
      have hle : cntI l q ≤ 4 := by
        have := List.countP_le_length (p := fun d => decide (idxC l d ≥ 0)) (l := q)
        have h5 := pre_len hq
        have h6 : (aroundC c).length = 4 := rfl
        unfold cntI; omega
      by_cases hd : idxC l d ≥ 0
      · refine Ev.pos hd ?_
        have e1 : wrap64 ((cntI l q : Int) + 1) = (cntI l q : Int) + 1 := w64 (by omega) (by omega)
        simp only [e1]
        exact ihq _ (by simp [cntI, List.countP_append, hd])
      · exact Ev.neg hd (ihq _ (by simp [cntI, List.countP_append, hd]))
theorem implBorder_ev (l : List Cell) (hl : l.length ≤ 1048576) : Ev (fun k => impl_BorderCells.f k l) (borderOf l) := by
  have hs : small l := by unfold small; omega
  unfold impl_BorderCells.f borderOf
  refine Ev.bind (implIsRegion_ev l hs) (Ev.if_ (fun _ => ?_) (fun _ => Ev.now _))
  have := loop_list l (fun k i (s : List Int) => impl_BorderCells.l0 k l s l (l.length : Int) i) (fun pre suf s => (s ++ borderF l (pre.length : Int) suf, (0 : Int))) (fun pre s => s.length ≤ pre.length) ?_ ?_ [] (Nat.le_refl _)
  · simpa using this
  · intro s _
    simp only [impl_BorderCells.l0, len_lt, if_false]
    exact Ev.of_eq (Ev.now _) (by simp [borderF])
  · intro pre c suf s hx hi ih
    have hp := pre_len hx
    simp only [impl_BorderCells.l0, pre_lt hx, pre_0, if_true, at_pre hx, implAround_eq, Option.bind_some]
    have := loop_list (aroundC c) (fun k i (_ : Unit) => impl_BorderCells.l1 k l s (pre.length : Int) l (l.length : Int) (pre.length : Int) (aroundC c) ((aroundC c).length : Int) i)
      (fun q r _ => (s ++ (if (r.all fun d => decide (idxC l d ≥ 0)) = true then borderF l ((pre.length : Int) + 1) suf else (pre.length : Int) :: borderF l ((pre.length : Int) + 1) suf), (0 : Int)))
      (fun q _ => True) ?_ ?_ () trivial
    · refine Ev.of_eq this ?_
      rfl
    · intro _ _
      simp only [impl_BorderCells.l1, len_lt, if_false, pre_w hx hs]
      refine Ev.of_eq (ih s (by simp; omega)) ?_
      simp
    · intro q d r _ hq _ ihq
      have hsm : small (aroundC c) := by unfold small; have h5 : (aroundC c).length = 4 := rfl; omega
      simp only [impl_BorderCells.l1, pre_lt hq, pre_0, if_true, at_pre hq, pre_w hq hsm]
      refine Ev.bind (implContains_ev l d hs) ?_
      by_cases hd : idxC l d ≥ 0
      · refine Ev.pos (by simpa using hd) (Ev.of_eq (ihq () trivial) ?_)
        simp [hd]
      · refine Ev.neg (by simpa using hd) (Ev.pos (by omega) ?_)
        simp only [pre_w hx hs]
        refine Ev.of_eq (ih (s ++ [(pre.length : Int)]) (by simp; omega)) ?_
        simp [hd]
end Go.Proofs.Ytfdfdifjkaaeoaa.L
end
section
namespace Go.Proofs.Ytfdfdifjkaaeoaa.L
open Go.RowKit Go.Proofs.YtfdfdifjkaaeoaaW.PrintWords Go.Proofs.YtfdfdifjkaaeoaaW.PrintLast Go.Proofs.YtfdfdifjkaaeoaaW.PrintMore Go.Proofs.Ytfdfdifjkaaeoaa.F
set_option linter.unusedVariables false
set_option linter.unusedSimpArgs false
def shiftC (a b : Int) (c : Cell) : Cell := ⟨c.f0 - a, c.f1 - b⟩
theorem normalL_shift {l : List Cell} (h0 : l ≠ []) (ho : ∀ c ∈ l, okC c) : normalL l = l.map (shiftC (leastOf l).1 (leastOf l).2) := by
  have hb := least_ok h0 ho
  unfold normalL moveL
  refine List.map_congr_left fun c hc => ?_
  have h := ho c hc
  unfold okC ok1 at h
  unfold ok1 at hb
  unfold shiftC
  rw [w64 (n := -(leastOf l).1) (by omega) (by omega), w64 (n := -(leastOf l).2) (by omega) (by omega), w64 (by omega) (by omega), w64 (by omega) (by omega)]
  simp only [S59.mk.injEq]
  omega
theorem sorted_le (x y : Cell) : (!Go.Proofs.ltOf cmpV y x) = decide (¬ ltC y x) := by
  rw [ltV]
  by_cases h : ltC y x
  · have h' : y.f1 < x.f1 ∨ y.f1 = x.f1 ∧ y.f0 < x.f0 := h
    simp [h, h']
  · have h' : ¬ (y.f1 < x.f1 ∨ y.f1 = x.f1 ∧ y.f0 < x.f0) := h
    simp only [h, h', decide_false]
    rfl
theorem sortC_perm (l : List Cell) : (sortC l).Perm l := List.mergeSort_perm _ _
theorem sortC_len (l : List Cell) : (sortC l).length = l.length := (sortC_perm l).length_eq
theorem sortC_mem {l : List Cell} {c : Cell} : c ∈ sortC l ↔ c ∈ l := (sortC_perm l).mem_iff
theorem sortC_sorted (l : List Cell) : (sortC l).Pairwise fun a b => ¬ ltC b a := by
  have := List.pairwise_mergeSort (le := fun x y : Cell => !Go.Proofs.ltOf cmpV y x) (fun a b c h1 h2 => by
    rw [sorted_le, decide_eq_true_eq] at *
    unfold ltC at *
    omega) (fun a b => by
    rw [sorted_le, sorted_le, Bool.or_eq_true, decide_eq_true_eq, decide_eq_true_eq]
    unfold ltC
    omega) l
  exact this.imp fun h => by rw [sorted_le, decide_eq_true_eq] at h; exact h
theorem eq_of_sorted : ∀ (l l' : List Cell), l.Perm l' → (l.Pairwise fun a b => ¬ ltC b a) → (l'.Pairwise fun a b => ¬ ltC b a) → l = l'
  | [], l', hp, _, _ => (List.Perm.nil_eq hp)
  | a :: r, [], hp, _, _ => absurd hp.symm (by simp)
  | a :: r, b :: s, hp, h1, h2 => by
    obtain ⟨h3, h4⟩ := List.pairwise_cons.1 h1
    obtain ⟨h5, h6⟩ := List.pairwise_cons.1 h2
    have hab : a = b := by
      have ha : a ∈ b :: s := hp.mem_iff.1 List.mem_cons_self
      have hb : b ∈ a :: r := hp.mem_iff.2 List.mem_cons_self
      have n1 : ¬ ltC b a := by
        rcases List.mem_cons.1 hb with e | e
        · rw [e]; unfold ltC; omega
        · exact h3 b e
      have n2 : ¬ ltC a b := by
        rcases List.mem_cons.1 ha with e | e
        · rw [e]; unfold ltC; omega
        · exact h5 a e
      obtain ⟨a0, a1⟩ := a
      obtain ⟨b0, b1⟩ := b
      unfold ltC at n1 n2
      simp only at n1 n2
      simp only [S59.mk.injEq]
      omega
    subst hab
    rw [eq_of_sorted r s (List.Perm.cons_inv hp) h4 h6]
theorem implSorted_eq (l : List Cell) (h0 : 0 < l.length) (h1 : l.length ≤ 1000000000000) : impl_sorted.f l = some (sortC l) := by
  unfold impl_sorted.f impl_Cell_58.f impl_Cell_100__impl_compareCells.f
  rw [if_pos h1, Option.bind_some, if_pos ⟨h0, by omega⟩]
  rfl
def okP (p : Int × Int) : Prop := ok1 p.1 ∧ ok1 p.2
theorem rotP_ok : ∀ (n : Nat) (p : Int × Int), okP p → okP (rotP n p)
  | 0, p, h => h
  | n + 1, p, h => by
    have e : wrap64 (-p.2) = -p.2 := w64 (by unfold okP ok1 at h; omega) (by unfold okP ok1 at h; omega)
    unfold rotP
    rw [e]
    exact rotP_ok n _ (by unfold okP ok1 at *; simp only; omega)
theorem rotP_inj : ∀ (n : Nat) (p q : Int × Int), okP p → okP q → rotP n p = rotP n q → p = q
  | 0, p, q, _, _, h => h
  | n + 1, p, q, hp, hq, h => by
    have e : wrap64 (-p.2) = -p.2 := w64 (by unfold okP ok1 at hp; omega) (by unfold okP ok1 at hp; omega)
    have e' : wrap64 (-q.2) = -q.2 := w64 (by unfold okP ok1 at hq; omega) (by unfold okP ok1 at hq; omega)
    unfold rotP at h
    rw [e, e'] at h
    have := rotP_inj n _ _ (by unfold okP ok1 at *; simp only; omega) (by unfold okP ok1 at *; simp only; omega) h
    simp only [Prod.mk.injEq] at this
    exact Prod.ext (by omega) (by omega)
theorem turnD_ok {t : Int} {c : Cell} (h : okC c) : okC (turnD t c) := by
  have e : wrap64 (-c.f0) = -c.f0 := w64 (by unfold okC ok1 at h; omega) (by unfold okC ok1 at h; omega)
  have := rotP_ok (t % 4).toNat (if t ≥ 4 then (wrap64 (-c.f0), c.f1) else (c.f0, c.f1)) (by
    unfold okC ok1 at h
    split
    · rw [e]; unfold okP ok1; simp only; omega
    · unfold okP ok1; simp only; omega)
  exact this
theorem turnD_inj {t : Int} {c d : Cell} (hc : okC c) (hd : okC d) (h : turnD t c = turnD t d) : c = d := by
  have e : wrap64 (-c.f0) = -c.f0 := w64 (by unfold okC ok1 at hc; omega) (by unfold okC ok1 at hc; omega)
  have e' : wrap64 (-d.f0) = -d.f0 := w64 (by unfold okC ok1 at hd; omega) (by unfold okC ok1 at hd; omega)
  unfold turnD at h
  simp only [S59.mk.injEq] at h
  have hp := rotP_inj (t % 4).toNat _ _ (by
    unfold okC ok1 at hc
    split
    · rw [e]; unfold okP ok1; simp only; omega
    · unfold okP ok1; simp only; omega) (by
    unfold okC ok1 at hd
    split
    · rw [e']; unfold okP ok1; simp only; omega
    · unfold okP ok1; simp only; omega) (Prod.ext h.1 h.2 : turnC c t = turnC d t)
  obtain ⟨c0, c1⟩ := c
  obtain ⟨d0, d1⟩ := d
  simp only [S59.mk.injEq]
  simp only at hp e e'
  split at hp
  · simp only [Prod.mk.injEq] at hp; omega
  · simp only [Prod.mk.injEq] at hp; omega
theorem least_unique {l l' : List Cell} (hp : l.Perm l') (h0 : l ≠ []) : leastOf l = leastOf l' := by
  have h0' : l' ≠ [] := fun e => h0 (by rw [e] at hp; exact List.Perm.eq_nil hp)
  obtain ⟨⟨c, hc, ec⟩, ⟨d, hd, ed⟩⟩ := least_mem h0
  obtain ⟨⟨c', hc', ec'⟩, ⟨d', hd', ed'⟩⟩ := least_mem h0'
  have a1 := (least_le (hp.mem_iff.1 hc)).1
  have a2 := (least_le (hp.mem_iff.1 hd)).2
  have a3 := (least_le (hp.mem_iff.2 hc')).1
  have a4 := (least_le (hp.mem_iff.2 hd')).2
  exact Prod.ext (by omega) (by omega)
theorem perm_of_subset : ∀ (m l : List Cell), m.Nodup → (∀ c ∈ m, c ∈ l) → l.length ≤ m.length → m.Perm l
  | [], l, _, _, h => by
    have : l = [] := List.length_eq_zero_iff.1 (by simpa using h)
    rw [this]
  | a :: m, l, hn, hs, h => by
    obtain ⟨h1, h2⟩ := List.nodup_cons.1 hn
    have ha := hs a List.mem_cons_self
    have hp := List.perm_cons_erase ha
    have hl := hp.length_eq
    rw [List.length_cons] at hl
    have := perm_of_subset m (l.erase a) h2 (fun c hc => by
      have hne : c ≠ a := fun e => h1 (e ▸ hc)
      exact (List.mem_erase_of_ne hne).2 (hs c (List.mem_cons_of_mem _ hc))) (by rw [List.length_cons] at h; omega)
    exact (this.cons a).trans hp.symm
def formC (l : List Cell) (t : Int) : List Cell := normalL (sortC (l.map (turnD t)))
theorem setF_ok (l : List Cell) : ∀ (r : List Cell) (acc : List Int), (setF l r acc).2 = true ↔ ∀ c ∈ r, c ∈ l
  | [], acc => by simp [setF]
  | c :: r, acc => by
    unfold setF
    by_cases h : idxC l c < 0
    · rw [if_pos h]
      have : c ∉ l := fun e => by have := (idxC_mem l c).2 e; omega
      simp [this]
    · rw [if_neg h, setF_ok l r]
      have : c ∈ l := (idxC_mem l c).1 (by omega)
      simp [this]
theorem symm_iff {l : List Cell} (h0 : l ≠ []) (ho : ∀ c ∈ l, okC c) (hs : l.Pairwise ltC) (t : Int) : formC l t = l ↔ (setF l (normalL (l.map (turnD t))) []).2 = true := by
  have hX0 : l.map (turnD t) ≠ [] := by simpa using h0
  have hXo : ∀ c ∈ l.map (turnD t), okC c := by
    intro c hc
    obtain ⟨d, hd, rfl⟩ := List.mem_map.1 hc
    exact turnD_ok (ho d hd)
  have hp := sortC_perm (l.map (turnD t))
  have hS0 : sortC (l.map (turnD t)) ≠ [] := fun e => hX0 (by rw [e] at hp; exact List.Perm.eq_nil hp.symm)
  have hSo : ∀ c ∈ sortC (l.map (turnD t)), okC c := fun c hc => hXo c (sortC_mem.1 hc)
  have hle := least_unique hp hS0
  have hF : formC l t = (sortC (l.map (turnD t))).map (shiftC (leastOf (l.map (turnD t))).1 (leastOf (l.map (turnD t))).2) := by
    unfold formC
    rw [normalL_shift hS0 hSo, hle]
  have hM := normalL_shift hX0 hXo
  have hFM : (formC l t).Perm (normalL (l.map (turnD t))) := by
    rw [hF, hM]
    exact hp.map _
  rw [setF_ok]
  constructor
  · intro h c hc
    have := hFM.mem_iff.2 hc
    rwa [h] at this
  · intro h
    have hn : (normalL (l.map (turnD t))).Nodup := by
      rw [hM, List.map_map]
      refine List.pairwise_map.2 (hs.imp_of_mem fun {a b} ha hb hab e => ?_)
      have e' : turnD t a = turnD t b := by
        have : shiftC (leastOf (l.map (turnD t))).1 (leastOf (l.map (turnD t))).2 (turnD t a) = shiftC (leastOf (l.map (turnD t))).1 (leastOf (l.map (turnD t))).2 (turnD t b) := e
        generalize turnD t a = x at this
        generalize turnD t b = y at this
        obtain ⟨x0, x1⟩ := x
        obtain ⟨y0, y1⟩ := y
        unfold shiftC at this
        simp only [S59.mk.injEq] at this ⊢
        omega
      have := turnD_inj (ho a ha) (ho b hb) e'
      subst this
      exact ltC_irrefl a hab
    have hpl := perm_of_subset _ l hn h (by rw [normalL_len]; simp)
    refine eq_of_sorted _ _ (hFM.trans hpl) ?_ (hs.imp fun {a b} hab hba => ltC_irrefl a (ltC_trans hab hba))
    rw [hF]
    refine List.pairwise_map.2 ((sortC_sorted _).imp fun {a b} hab => ?_)
    unfold ltC shiftC at *
    simp only
    omega
theorem equalC_ev (a b : List Cell) (ha : small a) : Ev (fun k => impl_Cell_116.f k a b) (decide (a = b)) := by
  unfold impl_Cell_116.f
  by_cases hl : a.length = b.length
  · refine Ev.pos (by omega) ?_
    refine loop_list a (fun k i (_ : Unit) => impl_Cell_116.l0 k a b (a.length : Int) i) (fun pre suf _ => decide (suf = b.drop pre.length)) (fun _ _ => True) ?_ ?_ () trivial
    · intro _ _
      simp only [impl_Cell_116.l0, len_lt, if_false]
      refine Ev.of_eq (Ev.now _) ?_
      rw [hl, List.drop_length]
      simp
    · intro pre c suf _ hx _ ih
      have hp := pre_len hx
      have hpb : pre.length < b.length := by omega
      have hlt : ((pre.length : Int) < (b.length : Int)) = True := by simp; omega
      have eb : rd_T59 b (pre.length : Int) = b[pre.length] := by
        unfold rd_T59
        rw [List.getD_eq_getElem?_getD, Int.toNat_natCast, List.getElem?_eq_getElem hpb]
        rfl
      simp only [impl_Cell_116.l0, pre_lt hx, pre_0, if_true, hlt, at_pre hx, pre_w hx ha, eb]
      rw [List.drop_eq_getElem_cons hpb]
      by_cases he : c = b[pre.length]
      · refine Ev.neg (by rw [← he]; simp) (Ev.of_eq (ih () trivial) ?_)
        rw [List.length_append, List.length_singleton]
        generalize b.drop (pre.length + 1) = R
        rw [← he]
        simp only [List.cons.injEq, true_and]
      · refine Ev.pos ?_ (Ev.of_eq (Ev.now _) ?_)
        · refine Decidable.byContradiction fun h => he ?_
          generalize b[pre.length] = d at h
          obtain ⟨c0, c1⟩ := c
          obtain ⟨d0, d1⟩ := d
          simp at h
          simp [h]
        · generalize b.drop (pre.length + 1) = R
          simp only [List.cons.injEq, he, false_and, decide_false]
  · refine Ev.neg (by omega) (Ev.of_eq (Ev.now _) ?_)
    have : a ≠ b := fun e => hl (by rw [e])
    simp [this]
end Go.Proofs.Ytfdfdifjkaaeoaa.L
end
section
namespace Go.Proofs.Ytfdfdifjkaaeoaa.L
open Go.RowKit Go.Proofs.YtfdfdifjkaaeoaaW.PrintWords Go.Proofs.YtfdfdifjkaaeoaaW.PrintLast Go.Proofs.YtfdfdifjkaaeoaaW.PrintMore Go.Proofs.Ytfdfdifjkaaeoaa.F
set_option linter.unusedVariables false
set_option linter.unusedSimpArgs false
theorem implForm_ev (l : List Cell) (t : Int) (ht : 0 ≤ t) (hl : l.length ≤ 1048576) (h0 : 0 < l.length) : Ev (fun k => impl_form.f k l t) (formC l t) := by
  have hs : small l := by unfold small; omega
  unfold impl_form.f formC
  refine Ev.pos (by omega) (Ev.pos (by omega) ?_)
  have := loop_list l (fun k i (s : List Cell) => impl_form.l0 k t s l (l.length : Int) i) (fun pre suf s => normalL (sortC (s ++ suf.map (turnD t)))) (fun pre s => s.length = pre.length) ?_ ?_ [] rfl
  · simpa using this
  · intro s hi
    have hi' : s.length = l.length := hi
    simp only [impl_form.l0, len_lt, if_false, implSorted_eq s (by omega) (by omega), Option.bind_some]
    exact Ev.bind (implNormal_ev _ (by rw [sortC_len]; omega) (by rw [sortC_len]; omega)) (Ev.of_eq (Ev.now _) (by simp))
  · intro pre c suf s hx hi ih
    have hp := pre_len hx
    simp only [impl_form.l0, pre_lt hx, pre_0, if_true, at_pre hx, pre_w hx hs]
    refine Ev.bind (implTurn_ev c t ht) (Ev.pos (by omega) (Ev.of_eq (ih (s ++ [turnD t c]) (by simp [hi])) (by simp)))
def symF (l : List Cell) : Nat → Int → List Int
  | 0, _ => []
  | n + 1, t => if (turnNums l t).2 = true then t :: symF l n (t + 1) else symF l n (t + 1)
theorem symF_len (l : List Cell) : ∀ (n : Nat) (t : Int), (symF l n t).length ≤ n
  | 0, _ => Nat.le_refl _
  | n + 1, t => by
    have := symF_len l n (t + 1)
    unfold symF
    split
    · rw [List.length_cons]; omega
    · omega
theorem specSym_l (l : List Cell) (hl : l.length ≤ 1048576) (h0 : 0 < l.length) : ∀ (n : Nat) (t : Int) (s : List Int), 0 ≤ t → t + (n : Int) = 8 → s.length + n ≤ 8 → Ev (fun k => spec_l10Symmetries.l0 k l s t) (s ++ symF l n t)
  | 0, t, s, h1, h2, h3 => by
    refine Ev.succ ?_
    simp only [spec_l10Symmetries.l0]
    exact Ev.neg (by omega) (Ev.of_eq (Ev.now _) (by simp [symF]))
  | n + 1, t, s, h1, h2, h3 => by
    refine Ev.succ ?_
    simp only [spec_l10Symmetries.l0]
    have ew : wrap64 (t + 1) = t + 1 := w64 (by omega) (by omega)
    refine Ev.pos (by omega) (Ev.bind (specNumbers_ev l t h1 hl h0) ?_)
    simp only [ew]
    unfold symF
    by_cases h : (turnNums l t).2 = true
    · rw [if_pos h]
      refine Ev.pos h (Ev.pos (by omega) (Ev.of_eq (specSym_l l hl h0 n (t + 1) (s ++ [t]) (by omega) (by omega) (by simp; omega)) (by simp)))
    · rw [if_neg h]
      exact Ev.neg h (specSym_l l hl h0 n (t + 1) s (by omega) (by omega) (by omega))
theorem implSym_l (l : List Cell) (hl : l.length ≤ 1048576) (h0 : l ≠ []) (ho : ∀ c ∈ l, okC c) (hs : l.Pairwise ltC) : ∀ (n : Nat) (t : Int) (s : List Int), 0 ≤ t → t + (n : Int) = 8 → s.length + n ≤ 8 → Ev (fun k => impl_symmetries.l0 k l s l t) (s ++ symF l n t)
  | 0, t, s, h1, h2, h3 => by
    refine Ev.succ ?_
    simp only [impl_symmetries.l0]
    exact Ev.neg (by omega) (Ev.of_eq (Ev.now _) (by simp [symF]))
  | n + 1, t, s, h1, h2, h3 => by
    refine Ev.succ ?_
    simp only [impl_symmetries.l0]
    have ew : wrap64 (t + 1) = t + 1 := w64 (by omega) (by omega)
    have hfl : (formC l t).length ≤ 1048576 := by unfold formC; rw [normalL_len, sortC_len]; simpa using hl
    refine Ev.pos (by omega) (Ev.bind (implForm_ev l t h1 hl (List.length_pos_iff.2 h0)) (Ev.bind (equalC_ev _ l (by unfold small; omega)) ?_))
    simp only [ew, decide_eq_true_eq]
    have hi := symm_iff h0 ho hs t
    unfold symF
    by_cases h : formC l t = l
    · have h' : (turnNums l t).2 = true := hi.1 h
      rw [if_pos h']
      refine Ev.pos h (Ev.pos (by omega) (Ev.of_eq (implSym_l l hl h0 ho hs n (t + 1) (s ++ [t]) (by omega) (by omega) (by simp; omega)) (by simp)))
    · have h' : ¬ (turnNums l t).2 = true := fun e => h (hi.2 e)
      rw [if_neg h']
      exact Ev.neg h (implSym_l l hl h0 ho hs n (t + 1) s (by omega) (by omega) (by omega))
def symR (l : List Cell) : List Int × Int := if regionB l = true then (symF l 8 0, 0) else ([], 1)
theorem symR_len (l : List Cell) : (symR l).1.length ≤ 8 := by
  unfold symR
  split
  · exact symF_len l 8 0
  · simp
theorem specSymR_ev (l : List Cell) (hl : l.length ≤ 1048576) : Ev (fun k => spec_RegionSymmetries.f k l) (symR l) := by
  have hs : small l := by unfold small; omega
  unfold spec_RegionSymmetries.f symR
  refine Ev.bind (specIsRegion_ev l hs) (Ev.if_ (fun hr => ?_) (fun _ => Ev.now _))
  unfold spec_l10Symmetries.f
  exact Ev.bind (specSym_l l hl (region_sorted' hr).2.1 8 0 [] (by omega) (by omega) (by simp)) (Ev.now _)
theorem region_own {l : List Cell} (hr : regionB l = true) : normalL l = l := by
  have hsh : shapeB l = true := by unfold regionB at hr; rw [Bool.and_eq_true] at hr; exact hr.1
  have ho := (shapeB_iff.1 hsh).1
  rw [normalL_shift (shape_ne hsh) ho]
  unfold regionB at hr
  simp only [Bool.and_eq_true, decide_eq_true_eq] at hr
  rw [hr.2.1, hr.2.2.1]
  have : shiftC 0 0 = id := by funext c; obtain ⟨c0, c1⟩ := c; simp [shiftC]
  rw [this, List.map_id]
theorem implSymR_ev (l : List Cell) (hl : l.length ≤ 1048576) : Ev (fun k => impl_RegionSymmetries.f k l) (symR l) := by
  have hs : small l := by unfold small; omega
  unfold impl_RegionSymmetries.f symR
  refine Ev.bind (implIsRegion_ev l hs) (Ev.if_ (fun hr => ?_) (fun _ => Ev.now _))
  have hsh : shapeB l = true := by unfold regionB at hr; rw [Bool.and_eq_true] at hr; exact hr.1
  have h1 := shapeB_iff.1 hsh
  have e : Ev (fun k => impl_symmetries.f k l) (symF l 8 0) := by
    unfold impl_symmetries.f
    refine Ev.bind (Ev.of_eq (implNormal_ev l hl (region_sorted' hr).2.1) (region_own hr)) ?_
    exact implSym_l l hl (shape_ne hsh) h1.1 h1.2.1 8 0 [] (by omega) (by omega) (by simp)
  exact Ev.bind e (Ev.now _)
end Go.Proofs.Ytfdfdifjkaaeoaa.L
end
section
namespace Go.Proofs.Ytfdfdifjkaaeoaa.L
open Go.RowKit Go.Proofs.YtfdfdifjkaaeoaaW.PrintWords Go.Proofs.YtfdfdifjkaaeoaaW.PrintLast Go.Proofs.YtfdfdifjkaaeoaaW.PrintMore Go.Proofs.Ytfdfdifjkaaeoaa.F
set_option linter.unusedVariables false
set_option linter.unusedSimpArgs false
theorem hasInt_ev (s : List Int) (x : Int) (hs : small s) : Ev (fun k => laws_hasInt.f k s x) (decide (x ∈ s)) := by
  unfold laws_hasInt.f
  refine loop_list s (fun k i (_ : Unit) => laws_hasInt.l0 k s x i) (fun _ suf _ => decide (x ∈ suf)) (fun _ _ => True) ?_ ?_ () trivial
  · intro _ _
    simp only [laws_hasInt.l0, len_lt, if_false]
    exact Ev.of_eq (Ev.now _) (by simp)
  · intro pre c suf _ hx _ ih
    have e : rd s (pre.length : Int) = c := by rw [hx]; exact getD_at pre suf c _
    simp only [laws_hasInt.l0, pre_lt hx, pre_0, if_true, pre_w hx hs, e]
    by_cases h : c = x
    · exact Ev.pos h (Ev.of_eq (Ev.now _) (by simp [h]))
    · have h' : ¬ x = c := fun k => h k.symm
      exact Ev.neg h (Ev.of_eq (ih () trivial) (by simp [h']))
theorem permL_true (n : Int) : ∀ (l : List Int) (seen : List Bool), (∀ k ∈ l, 0 ≤ k ∧ k ≤ n - 1) → l.Nodup → (∀ k ∈ l, seen.getD k.toNat false = false) → permL n l seen = true
  | [], _, _, _, _ => rfl
  | k :: r, seen, h1, h2, h3 => by
    obtain ⟨n1, n2⟩ := List.nodup_cons.1 h2
    have g1 := h1 k List.mem_cons_self
    rw [permL, if_pos g1, if_neg (by rw [h3 k List.mem_cons_self]; simp)]
    refine permL_true n r _ (fun x hx => h1 x (List.mem_cons_of_mem _ hx)) n2 fun x hx => ?_
    have g2 := h1 x (List.mem_cons_of_mem _ hx)
    have hne : k ≠ x := fun e => n1 (e ▸ hx)
    have h4 := h3 x (List.mem_cons_of_mem _ hx)
    rw [List.getD_eq_getElem?_getD] at h4 ⊢
    rw [List.getElem?_set_ne (by omega)]
    exact h4
theorem isPerm_true {p : List Int} (h : p.length ≤ 64) (h1 : ∀ k ∈ p, 0 ≤ k ∧ k ≤ (p.length : Int) - 1) (h2 : p.Nodup) : impl_IsPermutation.f p = some true := by
  unfold impl_IsPermutation.f
  rw [if_neg (by omega), permL_true _ p _ h1 h2 (fun k _ => by
    rw [List.getD_eq_getElem?_getD, List.getElem?_replicate]
    split <;> rfl)]
theorem setF_list (l : List Cell) : ∀ (r : List Cell) (acc : List Int), (setF l r acc).2 = true → (setF l r acc).1 = acc ++ r.map (idxC l) ∧ ∀ c ∈ r, c ∈ l
  | [], acc, _ => by simp [setF]
  | c :: r, acc, h => by
    unfold setF at h ⊢
    by_cases g : idxC l c < 0
    · rw [if_pos g] at h; simp at h
    · rw [if_neg g] at h ⊢
      obtain ⟨h1, h2⟩ := setF_list l r _ h
      refine ⟨by rw [h1]; simp, fun d hd => ?_⟩
      rcases List.mem_cons.1 hd with rfl | hd
      · exact (idxC_mem l d).1 (by omega)
      · exact h2 d hd
theorem symF_mem (l : List Cell) : ∀ (n : Nat) (t x : Int), x ∈ symF l n t ↔ t ≤ x ∧ x < t + (n : Int) ∧ (turnNums l x).2 = true
  | 0, t, x => by
    simp only [symF, List.not_mem_nil, false_iff]
    intro h; omega
  | n + 1, t, x => by
    unfold symF
    by_cases g : (turnNums l t).2 = true
    · rw [if_pos g, List.mem_cons, symF_mem l n (t + 1) x]
      constructor
      · rintro (rfl | h)
        · exact ⟨by omega, by omega, g⟩
        · exact ⟨by omega, by omega, h.2.2⟩
      · intro h
        by_cases e : x = t
        · exact .inl e
        · exact .inr ⟨by omega, by omega, h.2.2⟩
    · rw [if_neg g, symF_mem l n (t + 1) x]
      constructor
      · exact fun h => ⟨by omega, by omega, h.2.2⟩
      · intro h
        have : x ≠ t := fun e => g (e ▸ h.2.2)
        exact ⟨by omega, by omega, h.2.2⟩
def Turns (φ : Cell → Cell) (e f : Int) : Prop := (∀ c, okC c → φ c = ⟨e * c.f0, f * c.f1⟩) ∨ (∀ c, okC c → φ c = ⟨e * c.f1, f * c.f0⟩)
def sgn (e : Int) : Prop := e = 1 ∨ e = -1
theorem turn_forms {t : Int} (h : 0 ≤ t ∧ t ≤ 7) : ∃ e f : Int, sgn e ∧ sgn f ∧ Turns (turnD t) e f := by
  have hc : t = 0 ∨ t = 1 ∨ t = 2 ∨ t = 3 ∨ t = 4 ∨ t = 5 ∨ t = 6 ∨ t = 7 := by omega
  have ww (x : Int) (hx : -100 ≤ x ∧ x ≤ 100) : wrap64 (-x) = -x := w64 (by omega) (by omega)
  rcases hc with rfl | rfl | rfl | rfl | rfl | rfl | rfl | rfl
  · refine ⟨1, 1, .inl rfl, .inl rfl, .inl fun c hc => ?_⟩
    obtain ⟨x, y⟩ := c
    show (⟨x, y⟩ : Cell) = _
    simp only [S59.mk.injEq]; omega
  · refine ⟨-1, 1, .inr rfl, .inl rfl, .inr fun c hc => ?_⟩
    obtain ⟨x, y⟩ := c
    obtain ⟨h1, h2⟩ := hc
    unfold ok1 at h1 h2
    simp only at h1 h2
    show (⟨wrap64 (-y), x⟩ : Cell) = _
    rw [ww y h2]
    simp only [S59.mk.injEq]; omega
  · refine ⟨-1, -1, .inr rfl, .inr rfl, .inl fun c hc => ?_⟩
    obtain ⟨x, y⟩ := c
    obtain ⟨h1, h2⟩ := hc
    unfold ok1 at h1 h2
    simp only at h1 h2
    show (⟨wrap64 (-x), wrap64 (-y)⟩ : Cell) = _
    rw [ww y h2, ww x h1]
    simp only [S59.mk.injEq]; omega
  · refine ⟨1, -1, .inl rfl, .inr rfl, .inr fun c hc => ?_⟩
    obtain ⟨x, y⟩ := c
    obtain ⟨h1, h2⟩ := hc
    unfold ok1 at h1 h2
    simp only at h1 h2
    show (⟨wrap64 (-(wrap64 (-y))), wrap64 (-x)⟩ : Cell) = _
    rw [ww y h2, ww x h1, ww (-y) (by omega)]
    simp only [S59.mk.injEq]; omega
  · refine ⟨-1, 1, .inr rfl, .inl rfl, .inl fun c hc => ?_⟩
    obtain ⟨x, y⟩ := c
    obtain ⟨h1, h2⟩ := hc
    unfold ok1 at h1 h2
    simp only at h1 h2
    show (⟨wrap64 (-x), y⟩ : Cell) = _
    rw [ww x h1]
    simp only [S59.mk.injEq]; omega
  · refine ⟨-1, -1, .inr rfl, .inr rfl, .inr fun c hc => ?_⟩
    obtain ⟨x, y⟩ := c
    obtain ⟨h1, h2⟩ := hc
    unfold ok1 at h1 h2
    simp only at h1 h2
    show (⟨wrap64 (-y), wrap64 (-x)⟩ : Cell) = _
    rw [ww y h2, ww x h1]
    simp only [S59.mk.injEq]; omega
  · refine ⟨1, -1, .inl rfl, .inr rfl, .inl fun c hc => ?_⟩
    obtain ⟨x, y⟩ := c
    obtain ⟨h1, h2⟩ := hc
    unfold ok1 at h1 h2
    simp only at h1 h2
    show (⟨wrap64 (-(wrap64 (-x))), wrap64 (-y)⟩ : Cell) = _
    rw [ww y h2, ww x h1, ww (-x) (by omega)]
    simp only [S59.mk.injEq]; omega
  · refine ⟨1, 1, .inl rfl, .inl rfl, .inr fun c hc => ?_⟩
    obtain ⟨x, y⟩ := c
    obtain ⟨h1, h2⟩ := hc
    unfold ok1 at h1 h2
    simp only at h1 h2
    show (⟨wrap64 (-(wrap64 (-y))), wrap64 (-(wrap64 (-x)))⟩ : Cell) = _
    rw [ww y h2, ww x h1, ww (-x) (by omega), ww (-y) (by omega)]
    simp only [S59.mk.injEq]; omega
def Goes (φ : Cell → Cell) (e f a b : Int) : Prop := (∀ c, okC c → φ c = ⟨e * c.f0 - a, f * c.f1 - b⟩) ∨ (∀ c, okC c → φ c = ⟨e * c.f1 - a, f * c.f0 - b⟩)
theorem sym_map {l : List Cell} (hr : regionB l = true) {t : Int} (ht : 0 ≤ t ∧ t ≤ 7) (h : (turnNums l t).2 = true) : ∃ (φ : Cell → Cell) (e f a b : Int), sgn e ∧ sgn f ∧ Goes φ e f a b ∧ (turnNums l t).1 = l.map (fun c => idxC l (φ c)) ∧ ∀ c ∈ l, φ c ∈ l := by
  have hsh : shapeB l = true := by unfold regionB at hr; rw [Bool.and_eq_true] at hr; exact hr.1
  obtain ⟨ho, _⟩ := shapeB_iff.1 hsh
  have hX0 : l.map (turnD t) ≠ [] := by simpa using shape_ne hsh
  have hXo : ∀ c ∈ l.map (turnD t), okC c := by
    intro c hc
    obtain ⟨d, hd, rfl⟩ := List.mem_map.1 hc
    exact turnD_ok (ho d hd)
  obtain ⟨e, f, he, hf, hT⟩ := turn_forms ht
  have hN := normalL_shift hX0 hXo
  unfold turnNums at h ⊢
  obtain ⟨g1, g2⟩ := setF_list l _ [] h
  refine ⟨fun c => shiftC (leastOf (l.map (turnD t))).1 (leastOf (l.map (turnD t))).2 (turnD t c), e, f, (leastOf (l.map (turnD t))).1, (leastOf (l.map (turnD t))).2, he, hf, ?_, ?_, ?_⟩
  · rcases hT with hT | hT
    · exact .inl fun c hc => by show shiftC _ _ (turnD t c) = _; rw [hT c hc]; rfl
    · exact .inr fun c hc => by show shiftC _ _ (turnD t c) = _; rw [hT c hc]; rfl
  · rw [g1, hN, List.map_map, List.map_map]
    rfl
  · intro c hc
    refine g2 _ ?_
    rw [hN, List.map_map]
    exact List.mem_map.2 ⟨c, hc, rfl⟩
section
variable {φ : Cell → Cell} {e f a b : Int} (he : sgn e) (hf : sgn f) (hG : Goes φ e f a b)
include he hf hG
theorem goes_inj {c d : Cell} (hc : okC c) (hd : okC d) (h : φ c = φ d) : c = d := by
  obtain ⟨c0, c1⟩ := c
  obtain ⟨d0, d1⟩ := d
  rcases hG with hG | hG
  · rw [hG _ hc, hG _ hd] at h
    simp only [S59.mk.injEq] at h ⊢
    rcases he with rfl | rfl <;> rcases hf with rfl | rfl <;> omega
  · rw [hG _ hc, hG _ hd] at h
    simp only [S59.mk.injEq] at h ⊢
    rcases he with rfl | rfl <;> rcases hf with rfl | rfl <;> omega
theorem goes_near {c d : Cell} (hc : okC c) (hd : okC d) : laws_near.f (φ c).f0 (φ c).f1 (φ d).f0 (φ d).f1 = laws_near.f c.f0 c.f1 d.f0 d.f1 := by
  have hc' := hc
  have hd' := hd
  unfold okC ok1 at hc' hd'
  have w0 : wrap64 (c.f0 - d.f0) = c.f0 - d.f0 := w64 (by omega) (by omega)
  have w1 : wrap64 (c.f1 - d.f1) = c.f1 - d.f1 := w64 (by omega) (by omega)
  have key (g x y z : Int) (hg : sgn g) (hx : -100 ≤ x ∧ x ≤ 100) (hy : -100 ≤ y ∧ y ≤ 100) : wrap64 ((g * x - z) - (g * y - z)) * wrap64 ((g * x - z) - (g * y - z)) = (x - y) * (x - y) := by
    rcases hg with rfl | rfl
    · rw [show 1 * x - z - (1 * y - z) = x - y by omega, w64 (by omega) (by omega)]
    · rw [show -1 * x - z - (-1 * y - z) = -(x - y) by omega, w64 (by omega) (by omega), Int.neg_mul_neg]
  unfold laws_near.f
  rcases hG with hG | hG
  · rw [hG _ hc, hG _ hd]
    simp only [key e _ _ _ he hc'.1 hd'.1, key f _ _ _ hf hc'.2 hd'.2, w0, w1]
  · rw [hG _ hc, hG _ hd]
    simp only [key e _ _ _ he hc'.2 hd'.2, key f _ _ _ hf hc'.1 hd'.1, w0, w1]
    rw [Int.add_comm]
variable {l : List Cell} (ho : ∀ c ∈ l, okC c) (hp : l.Pairwise ltC)
include ho hp
theorem goes_nodup : (l.map φ).Nodup :=
  List.pairwise_map.2 (hp.imp_of_mem fun {x y} hx hy hxy he_ => by
    have := goes_inj he hf hG (ho x hx) (ho y hy) he_
    subst this
    unfold ltC at hxy
    omega)
variable (hin : ∀ c ∈ l, φ c ∈ l)
include hin
theorem goes_iff {d : Cell} (hd : okC d) : φ d ∈ l ↔ d ∈ l := by
  constructor
  · intro h
    have hperm := perm_of_subset (l.map φ) l (goes_nodup he hf hG ho hp) (fun c hc => by
      obtain ⟨x, hx, rfl⟩ := List.mem_map.1 hc
      exact hin x hx) (by simp)
    obtain ⟨x, hx, e1⟩ := List.mem_map.1 (hperm.mem_iff.2 h)
    rw [← goes_inj he hf hG (ho x hx) hd e1]
    exact hx
  · exact hin d
end
end Go.Proofs.Ytfdfdifjkaaeoaa.L
end
section
namespace Go.Proofs.Ytfdfdifjkaaeoaa.L
open Go.RowKit Go.Proofs.YtfdfdifjkaaeoaaW.PrintWords Go.Proofs.YtfdfdifjkaaeoaaW.PrintLast Go.Proofs.YtfdfdifjkaaeoaaW.PrintMore Go.Proofs.Ytfdfdifjkaaeoaa.F
set_option linter.unusedVariables false
set_option linter.unusedSimpArgs false
structure Src (cs : List Int) (a s : Int) : Prop where
  at0 : 0 ≤ a
  at1 : a ≤ (cs.length : Int)
  sd0 : 0 ≤ s
  sd1 : s < 2147483647
  len : cs.length ≤ 1000000000000000000
  byte : ∀ x ∈ cs, 0 ≤ x ∧ x ≤ 255
theorem rd_byte {cs : List Int} {a s : Int} (h : Src cs a s) (i : Int) (h0 : 0 ≤ i) (h1 : i < (cs.length : Int)) : 0 ≤ rd cs i ∧ rd cs i ≤ 255 := by
  unfold rd
  obtain ⟨n, rfl⟩ : ∃ n : Nat, i = (n : Int) := ⟨i.toNat, by omega⟩
  have hn : n < cs.length := by omega
  have e : cs.getD (n : Int).toNat 0 = cs[n] := by simp [List.getD, hn]
  rw [e]
  exact h.byte _ (List.getElem_mem hn)
theorem next_ex {cs : List Int} {a s : Int} (h : Src cs a s) (n : Int) (hn : n ≤ 1000000000000) : ∃ v a' s', spec_l01Next.f cs a s n = some (v, a', s') ∧ Src cs a' s' ∧ 0 ≤ v ∧ (1 ≤ n → v < n) := by
  have ⟨h0, h1, h2, h3, h4, h5⟩ := h
  unfold spec_l01Next.f
  by_cases hn1 : n ≤ 1
  · rw [if_pos hn1]
    exact ⟨_, _, _, rfl, h, by omega, by omega⟩
  · rw [if_neg hn1]
    have ew : wrap64 ((wrap64 (s * 48271)) + 29) = s * 48271 + 29 := by rw [w64 (n := s * 48271) (by omega) (by omega), w64 (by omega) (by omega)]
    have em : Int.tmod (s * 48271 + 29) 2147483647 = (s * 48271 + 29) % 2147483647 := Int.tmod_eq_emod_of_nonneg (by omega)
    have hs0 : 0 ≤ (s * 48271 + 29) % 2147483647 := Int.emod_nonneg _ (by omega)
    have hs1 : (s * 48271 + 29) % 2147483647 < 2147483647 := Int.emod_lt_of_pos _ (by omega)
    rw [ew, em]
    generalize (s * 48271 + 29) % 2147483647 = s' at hs0 hs1 ⊢
    have et : Int.tdiv s' 31 = s' / 31 := Int.tdiv_eq_ediv_of_nonneg hs0
    rw [et, w64 (n := s' / 31) (by omega) (by omega)]
    have tm (x : Int) (hx : 0 ≤ x) : 0 ≤ Int.tmod x n ∧ Int.tmod x n < n := by
      rw [Int.tmod_eq_emod_of_nonneg hx]
      exact ⟨Int.emod_nonneg _ (by omega), Int.emod_lt_of_pos _ (by omega)⟩
    by_cases ha : a < (cs.length : Int)
    · have ea : wrap64 (a + 1) = a + 1 := w64 (by omega) (by omega)
      have hr := rd_byte h a h0 ha
      have e1 : wrap64 (rd cs a) = rd cs a := w64 (by omega) (by omega)
      have e2 : wrap64 (a + 1 - 1) = a := by rw [w64 (by omega) (by omega)]; omega
      have e3 : wrap64 (s' / 31 + rd cs a) = s' / 31 + rd cs a := w64 (by omega) (by omega)
      have hS : Src cs (a + 1) s' := ⟨by omega, by omega, hs0, hs1, h4, h5⟩
      rw [if_pos ha, if_pos h0, ea, e1, e2, e1, e3, if_pos h0, if_pos ha, if_neg (by omega : ¬ n = 0)]
      repeat' split
      all_goals first
        | exact ⟨_, _, _, rfl, hS, (tm _ (by omega)).1, fun _ => (tm _ (by omega)).2⟩
        | omega
    · have hS : Src cs a s' := ⟨by omega, by omega, hs0, hs1, h4, h5⟩
      rw [if_neg ha, if_neg (by omega : ¬ n = 0)]
      have := tm (s' / 31) (by omega)
      exact ⟨_, _, _, rfl, hS, this.1, fun _ => this.2⟩
def Ex {α : Type} (g : Nat → Option α) (P : α → Prop) : Prop := ∃ r, Ev g r ∧ P r
theorem Ex.now {α : Type} {P : α → Prop} {r : α} (h : P r) : Ex (fun _ => some r) P := ⟨r, Ev.now _, h⟩
theorem Ex.mono {α : Type} {g : Nat → Option α} {P Q : α → Prop} (h : Ex g P) (hi : ∀ r, P r → Q r) : Ex g Q := by
  obtain ⟨r, h1, h2⟩ := h
  exact ⟨r, h1, hi r h2⟩
theorem Ex.bind {α β : Type} {g : Nat → Option α} {f : Nat → α → Option β} {P : α → Prop} {Q : β → Prop} (h : Ex g P) (k : ∀ a, P a → Ex (fun n => f n a) Q) : Ex (fun n => (g n).bind (f n)) Q := by
  obtain ⟨a, h1, h2⟩ := h
  obtain ⟨b, h3, h4⟩ := k a h2
  exact ⟨b, Ev.bind h1 h3, h4⟩
theorem Ex.bindE {α β : Type} {g : Nat → Option α} {f : Nat → α → Option β} {a : α} {Q : β → Prop} (h : Ev g a) (k : Ex (fun n => f n a) Q) : Ex (fun n => (g n).bind (f n)) Q := by
  obtain ⟨b, h3, h4⟩ := k
  exact ⟨b, Ev.bind h h3, h4⟩
theorem Ex.bind0 {α β : Type} {o : Option α} {f : Nat → α → Option β} {a : α} {Q : β → Prop} (h : o = some a) (k : Ex (fun n => f n a) Q) : Ex (fun n => o.bind (f n)) Q := by
  subst h
  exact k
theorem Ex.pos {α : Type} {c : Prop} [Decidable c] {f g : Nat → Option α} {P : α → Prop} (h : c) (e : Ex f P) : Ex (fun k => if c then f k else g k) P := by
  obtain ⟨r, h1, h2⟩ := e
  exact ⟨r, Ev.pos h h1, h2⟩
theorem Ex.neg {α : Type} {c : Prop} [Decidable c] {f g : Nat → Option α} {P : α → Prop} (h : ¬ c) (e : Ex g P) : Ex (fun k => if c then f k else g k) P := by
  obtain ⟨r, h1, h2⟩ := e
  exact ⟨r, Ev.neg h h1, h2⟩
theorem Ex.if_ {α : Type} {c : Prop} [Decidable c] {f g : Nat → Option α} {P : α → Prop} (h : c → Ex f P) (h' : ¬ c → Ex g P) : Ex (fun k => if c then f k else g k) P := by
  by_cases hc : c
  · exact Ex.pos hc (h hc)
  · exact Ex.neg hc (h' hc)
theorem Ex.succ {α : Type} {g : Nat → Option α} {P : α → Prop} (h : Ex (fun k => g (k + 1)) P) : Ex g P := by
  obtain ⟨r, h1, h2⟩ := h
  exact ⟨r, Ev.succ h1, h2⟩
theorem Ex.next {β : Type} {cs : List Int} {a s : Int} (h : Src cs a s) (n : Int) (hn : n ≤ 1000000000000) {f : Nat → Int × Int × Int → Option β} {Q : β → Prop}
    (k : ∀ v a' s', Src cs a' s' → 0 ≤ v → (1 ≤ n → v < n) → Ex (fun q => f q (v, a', s')) Q) : Ex (fun q => (spec_l01Next.f cs a s n).bind (f q)) Q := by
  obtain ⟨v, a', s', e, h1, h2, h3⟩ := next_ex h n hn
  exact Ex.bind0 e (k v a' s' h1 h2 h3)
theorem from_l (cs : List Int) (hl : cs.length ≤ 1000000000000000000) (hb : ∀ x ∈ cs, 0 ≤ x ∧ x ≤ 255) : ∀ (q i : Nat) (s : Int), i + q = min cs.length 64 → 0 ≤ s → s < 2147483647 →
    Ex (fun k => spec_l01From.l0 k cs (i : Int) cs 0 s) fun r => r.1 = cs ∧ r.2.1 = 0 ∧ Src cs 0 r.2.2
  | 0, i, s, hi, h0, h1 => by
    refine Ex.succ ?_
    simp only [spec_l01From.l0]
    have hS : Src cs 0 s := ⟨by omega, by omega, h0, h1, hl, hb⟩
    refine Ex.if_ (fun _ => Ex.neg (by omega) (Ex.now ⟨rfl, rfl, hS⟩)) (fun _ => Ex.now ⟨rfl, rfl, hS⟩)
  | q + 1, i, s, hi, h0, h1 => by
    refine Ex.succ ?_
    simp only [spec_l01From.l0]
    have hS : Src cs 0 s := ⟨by omega, by omega, h0, h1, hl, hb⟩
    have hr := rd_byte hS (i : Int) (by omega) (by omega)
    have ei : wrap64 ((i : Int) + 1) = ((i + 1 : Nat) : Int) := by rw [w64 (by omega) (by omega)]; omega
    have es : Int.tmod (wrap64 ((wrap64 (s * 47)) + (wrap64 (rd cs (i : Int))))) 2147483647 = (s * 47 + rd cs (i : Int)) % 2147483647 := by
      rw [w64 (n := s * 47) (by omega) (by omega), w64 (n := rd cs (i : Int)) (by omega) (by omega), w64 (by omega) (by omega), Int.tmod_eq_emod_of_nonneg (by omega)]
    rw [ei, es]
    exact Ex.pos (by omega) (Ex.pos (by omega) (Ex.pos (by omega) (from_l cs hl hb q (i + 1) _ (by omega) (Int.emod_nonneg _ (by omega)) (Int.emod_lt_of_pos _ (by omega)))))
theorem from_ex (cs : List Int) (hl : cs.length ≤ 1000000000000000000) (hb : ∀ x ∈ cs, 0 ≤ x ∧ x ≤ 255) : Ex (fun k => spec_l01From.f k cs) fun r => r.1 = cs ∧ r.2.1 = 0 ∧ Src cs 0 r.2.2 := by
  unfold spec_l01From.f
  exact from_l cs hl hb (min cs.length 64) 0 61003 (by omega) (by omega) (by omega)
def insC (c : Cell) : List Cell → List Cell
  | [] => [c]
  | a :: r => if ltC c a then c :: a :: r else a :: insC c r
theorem insC_perm (c : Cell) : ∀ l : List Cell, (insC c l).Perm (c :: l)
  | [] => List.Perm.refl _
  | a :: r => by
    unfold insC
    split
    · exact List.Perm.refl _
    · exact ((insC_perm c r).cons a).trans (List.Perm.swap c a r)
theorem insC_sorted (c : Cell) : ∀ l : List Cell, (l.Pairwise fun a b => ¬ ltC b a) → (insC c l).Pairwise fun a b => ¬ ltC b a
  | [], _ => by simp [insC]
  | a :: r, h => by
    obtain ⟨h1, h2⟩ := List.pairwise_cons.1 h
    unfold insC
    split
    · rename_i hc
      refine List.pairwise_cons.2 ⟨fun b hb => ?_, h⟩
      rcases List.mem_cons.1 hb with rfl | hb
      · unfold ltC at *; omega
      · have := h1 b hb
        unfold ltC at *; omega
    · rename_i hc
      refine List.pairwise_cons.2 ⟨fun b hb => ?_, insC_sorted c r h2⟩
      rcases List.mem_cons.1 ((insC_perm c r).mem_iff.1 hb) with rfl | hb
      · exact hc
      · exact h1 b hb
theorem specInsert_ev (l : List Cell) (c : Cell) (hl : l.length ≤ 1048576) : Ev (fun k => spec_l02Insert.f k l c.f0 c.f1) (insC c l) := by
  have hs : small l := by unfold small; omega
  unfold spec_l02Insert.f
  have := loop_list l (fun k i (s : List Cell × Bool) => spec_l02Insert.l0 k l s.1 s.2 i c.f0 c.f1) (fun pre suf s => if s.2 = true then s.1 ++ suf else s.1 ++ insC c suf) (fun pre s => s.1.length ≤ pre.length + 1 ∧ (s.2 = false → s.1.length = pre.length)) ?_ ?_ ([], false) ⟨by simp, fun _ => rfl⟩
  · simpa using this
  · rintro ⟨s, b⟩ ⟨h1, h2⟩
    simp only at h1 h2
    simp only [spec_l02Insert.l0, len_lt, if_false]
    cases b
    · refine Ev.neg (by simp) (Ev.pos (by omega) (Ev.of_eq (Ev.now _) ?_))
      simp [insC]
    · refine Ev.pos rfl (Ev.of_eq (Ev.now _) ?_)
      simp
  · rintro pre d suf ⟨s, b⟩ hx ⟨h1, h2⟩ ih
    have hp := pre_len hx
    simp only at h1 h2
    simp only [spec_l02Insert.l0, pre_lt hx, pre_0, if_true, at_pre hx, pre_w hx hs]
    cases b
    · refine Ev.neg (by simp) ?_
      simp only [l02Less_eq, Option.bind_some]
      have h2' := h2 rfl
      by_cases hd : ltC c d
      · have hd' : c.f1 < d.f1 ∨ c.f1 = d.f1 ∧ c.f0 < d.f0 := hd
        refine Ev.pos (by simpa using hd') (Ev.pos (by omega) ?_)
        refine Ev.pos (by simp; omega) (Ev.of_eq (ih ((s ++ [(⟨c.f0, c.f1⟩ : Cell)]) ++ [(⟨d.f0, d.f1⟩ : Cell)], true) ⟨by simp; omega, fun h => by cases h⟩) ?_)
        simp [insC, hd]
      · have hd' : ¬ (c.f1 < d.f1 ∨ c.f1 = d.f1 ∧ c.f0 < d.f0) := hd
        refine Ev.neg (by simpa using hd') (Ev.pos (by omega) (Ev.of_eq (ih (s ++ [(⟨d.f0, d.f1⟩ : Cell)], false) ⟨by simp; omega, fun _ => by simp; omega⟩) ?_))
        simp [insC, hd]
    · refine Ev.pos rfl (Ev.pos (by omega) (Ev.of_eq (ih (s ++ [(⟨d.f0, d.f1⟩ : Cell)], true) ⟨by simp; omega, fun h => by cases h⟩) ?_))
      simp
def insAll : List Cell → List Cell → List Cell
  | acc, [] => acc
  | acc, c :: r => insAll (insC c acc) r
theorem insAll_spec : ∀ (l acc : List Cell), (acc.Pairwise fun a b => ¬ ltC b a) → (insAll acc l).Perm (acc ++ l) ∧ (insAll acc l).Pairwise fun a b => ¬ ltC b a
  | [], acc, h => ⟨by simp [insAll], h⟩
  | c :: r, acc, h => by
    obtain ⟨h1, h2⟩ := insAll_spec r (insC c acc) (insC_sorted c acc h)
    refine ⟨h1.trans ?_, h2⟩
    refine ((insC_perm c acc).append_right r).trans ?_
    exact List.perm_middle.symm
theorem specSortI_ev (l : List Cell) (hl : l.length ≤ 1048576) : Ev (fun k => spec_l02Sort.f k l) (insAll [] l) := by
  have hs : small l := by unfold small; omega
  unfold spec_l02Sort.f
  refine loop_list l (fun k i (s : List Cell) => spec_l02Sort.l0 k l s i) (fun pre suf s => insAll s suf) (fun pre s => s.length = pre.length) ?_ ?_ [] rfl
  · intro s _
    simp only [spec_l02Sort.l0, len_lt, if_false]
    exact Ev.now _
  · intro pre c suf s hx hi ih
    have hp := pre_len hx
    simp only [spec_l02Sort.l0, pre_lt hx, pre_0, if_true, at_pre hx, pre_w hx hs]
    refine Ev.bind (specInsert_ev s c (by omega)) (ih _ ?_)
    rw [(insC_perm c s).length_eq]
    simp [hi]
theorem insP_mem {c d : Cell} {s : List Cell} : c ∈ insC d s ↔ c = d ∨ c ∈ s := by
  rw [(insC_perm d s).mem_iff, List.mem_cons]
theorem nbs_l1 (s : List Cell) (hs : s.length ≤ 64) (i : Int) (arr : List Cell) (ha : arr.length = 4) {Q : List Cell → Prop} : ∀ (suf pre acc : List Cell), arr = pre ++ suf → acc.length + suf.length ≤ 1000 →
    (∀ acc' : List Cell, acc'.length ≤ acc.length + suf.length → (∀ d ∈ acc', d ∈ acc ∨ d ∈ suf) → (∀ d ∈ acc, d ∈ acc') → (∀ d ∈ suf, d ∉ s → d ∈ acc') → Ex (fun k => spec_l02Neighbours.l0 k s acc' (wrap64 (i + 1))) Q) →
    Ex (fun k => spec_l02Neighbours.l1 k s acc i arr (pre.length : Int)) Q
  | [], pre, acc, hx, hl, hc => by
    refine Ex.succ ?_
    rw [List.append_nil] at hx
    subst hx
    simp only [spec_l02Neighbours.l1]
    exact Ex.neg (by omega) (hc acc (by simp) (fun d h => .inl h) (fun d h => h) (fun d h => by simp at h))
  | d :: suf, pre, acc, hx, hl, hc => by
    refine Ex.succ ?_
    have hsm : small arr := by unfold small; omega
    have hp := pre_len hx
    simp only [List.length_cons] at hl hc
    have h4 : ((pre.length : Int) < 4) := by omega
    simp only [spec_l02Neighbours.l1, pre_lt hx, pre_0, if_true, at_pre hx, pre_w hx hsm]
    refine Ex.pos h4 (Ex.bindE (specIndex_ev s d (by unfold small; omega)) ?_)
    have next (acc2 : List Cell) (h1 : acc2.length ≤ acc.length + 1) (h2 : ∀ x ∈ acc2, x ∈ acc ∨ x = d) (h3 : ∀ x ∈ acc, x ∈ acc2) (h5 : d ∉ s → d ∈ acc2) : Ex (fun k => spec_l02Neighbours.l1 k s acc2 i arr ((pre.length : Int) + 1)) Q := by
      have := nbs_l1 s hs i arr ha suf (pre ++ [d]) acc2 (by rw [hx]; simp) (by omega) (fun acc' g1 g2 g3 g4 => hc acc' (by omega) (fun x hx' => by
        rcases g2 x hx' with g | g
        · rcases h2 x g with g | rfl
          · exact .inl g
          · exact .inr List.mem_cons_self
        · exact .inr (List.mem_cons_of_mem _ g)) (fun x hx' => g3 x (h3 x hx')) (fun x hx' hn => by
        rcases List.mem_cons.1 hx' with rfl | hx'
        · exact g3 _ (h5 hn)
        · exact g4 x hx' hn))
      simpa using this
    by_cases hm : d ∈ s
    · have h := (idxC_mem s d).2 hm
      exact Ex.neg (by omega) (next acc (by omega) (fun x h => .inl h) (fun x h => h) (fun h => absurd hm h))
    · have h : ¬ idxC s d ≥ 0 := fun h => hm ((idxC_mem s d).1 h)
      refine Ex.pos (by omega) (Ex.bindE (specIndex_ev acc d (by unfold small; omega)) ?_)
      by_cases hm2 : d ∈ acc
      · have h := (idxC_mem acc d).2 hm2
        exact Ex.neg (by omega) (next acc (by omega) (fun x h => .inl h) (fun x h => h) (fun _ => hm2))
      · have h : ¬ idxC acc d ≥ 0 := fun h => hm2 ((idxC_mem acc d).1 h)
        refine Ex.pos (by omega) (Ex.bindE (specInsert_ev acc d (by omega)) (next (insC d acc) ?_ (fun x h => ?_) (fun x h => insP_mem.2 (.inr h)) (fun _ => insP_mem.2 (.inl rfl))))
        · rw [(insC_perm d acc).length_eq, List.length_cons]; omega
        · rcases insP_mem.1 h with h | h
          · exact .inr h
          · exact .inl h
theorem nbs_l0 (s : List Cell) (hs : s.length ≤ 64) : ∀ (suf pre acc : List Cell), s = pre ++ suf → acc.length ≤ 4 * pre.length → (∀ d ∈ acc, ∃ c ∈ s, d ∈ aroundC c) → (∀ c ∈ pre, ∀ d ∈ aroundC c, d ∉ s → d ∈ acc) →
    Ex (fun k => spec_l02Neighbours.l0 k s acc (pre.length : Int)) fun r => r.length ≤ 4 * s.length ∧ (∀ d ∈ r, ∃ c ∈ s, d ∈ aroundC c) ∧ ∀ c ∈ s, ∀ d ∈ aroundC c, d ∉ s → d ∈ r
  | [], pre, acc, hx, h1, h2, h3 => by
    refine Ex.succ ?_
    rw [List.append_nil] at hx
    subst hx
    simp only [spec_l02Neighbours.l0]
    exact Ex.neg (by omega) (Ex.now ⟨h1, h2, h3⟩)
  | c :: suf, pre, acc, hx, h1, h2, h3 => by
    refine Ex.succ ?_
    have hsm : small s := by unfold small; omega
    have hp := pre_len hx
    have h4 : (aroundC c).length = 4 := rfl
    simp only [spec_l02Neighbours.l0, pre_lt hx, pre_0, if_true, at_pre hx]
    refine Ex.bind0 (specAround_eq c) ?_
    refine nbs_l1 s hs (pre.length : Int) (aroundC c) h4 (aroundC c) [] acc rfl (by omega) (fun acc' g1 g2 g3 g4 => ?_)
    rw [pre_w hx hsm]
    have := nbs_l0 s hs suf (pre ++ [c]) acc' (by rw [hx]; simp) (by simp; omega) (fun d hd => by
      rcases g2 d hd with g | g
      · exact h2 d g
      · exact ⟨c, by rw [hx]; simp, g⟩) (fun e he d hd hn => by
      rcases List.mem_append.1 he with he | he
      · exact g3 d (h3 e he d hd hn)
      · simp at he
        subst he
        exact g4 d hd hn)
    simpa using this
theorem nbs_ex (s : List Cell) (hs : s.length ≤ 64) : Ex (fun k => spec_l02Neighbours.f k s) fun r => r.length ≤ 4 * s.length ∧ (∀ d ∈ r, ∃ c ∈ s, d ∈ aroundC c) ∧ ∀ c ∈ s, ∀ d ∈ aroundC c, d ∉ s → d ∈ r := by
  unfold spec_l02Neighbours.f
  exact nbs_l0 s hs s [] [] rfl (by simp) (by simp) (by simp)
def inBox (m : Int) (s : List Cell) : Prop := ∀ c ∈ s, -m ≤ c.f0 ∧ c.f0 ≤ m ∧ -m ≤ c.f1 ∧ c.f1 ≤ m
theorem nbs_pos {s r : List Cell} (h0 : 0 < s.length) (hb : inBox 1000 s) (h : ∀ c ∈ s, ∀ d ∈ aroundC c, d ∉ s → d ∈ r) : 0 < r.length := by
  have hne : s ≠ [] := by intro e; rw [e] at h0; simp at h0
  obtain ⟨_, ⟨c, hc, ec⟩⟩ := least_mem hne
  have hbc := hb c hc
  refine List.length_pos_of_mem (a := ⟨c.f0, wrap64 (c.f1 - 1)⟩) (h c hc _ (by simp [aroundC]) fun hm => ?_)
  have := (least_le hm).2
  simp only at this
  rw [w64 (by omega) (by omega)] at this
  omega
theorem around_box {m : Int} {c d : Cell} (hm : 0 ≤ m ∧ m ≤ 1000) (hc : -m ≤ c.f0 ∧ c.f0 ≤ m ∧ -m ≤ c.f1 ∧ c.f1 ≤ m) (hd : d ∈ aroundC c) : -(m + 1) ≤ d.f0 ∧ d.f0 ≤ m + 1 ∧ -(m + 1) ≤ d.f1 ∧ d.f1 ≤ m + 1 := by
  simp only [aroundC, List.mem_cons, List.not_mem_nil, or_false] at hd
  have w (n : Int) (h0 : -3000 ≤ n) (h1 : n ≤ 3000) : wrap64 n = n := w64 (by omega) (by omega)
  rw [w _ (by omega) (by omega), w _ (by omega) (by omega), w _ (by omega) (by omega), w _ (by omega) (by omega)] at hd
  rcases hd with rfl | rfl | rfl | rfl <;> (simp only; omega)
theorem poly_l (cs : List Int) : ∀ (q n : Nat) (s : List Cell) (a sd : Int), q + n ≤ 40 → s.length = n → 1 ≤ n → inBox (n : Int) s → Src cs a sd →
    Ex (fun k => spec_l02DrawPoly.l0 k s (q : Int) cs a sd) fun r => 1 ≤ r.1.length ∧ r.1.length ≤ 40 ∧ Src cs r.2.1 r.2.2
  | 0, n, s, a, sd, hq, hl, hn, hb, hS => by
    refine Ex.succ ?_
    simp only [spec_l02DrawPoly.l0]
    refine Ex.neg (by omega) (Ex.bindE (specNormal_ev s (by omega) (by omega)) (Ex.now ?_))
    have := normalL_len s
    exact ⟨by simp only; omega, by simp only; omega, hS⟩
  | q + 1, n, s, a, sd, hq, hl, hn, hb, hS => by
    refine Ex.succ ?_
    simp only [spec_l02DrawPoly.l0]
    refine Ex.pos (by omega) (Ex.bind (nbs_ex s (by omega)) fun r ⟨h1, h2, h3⟩ => ?_)
    have hr : 0 < r.length := nbs_pos (by omega) (fun c hc => by have := hb c hc; omega) h3
    refine Ex.next hS (r.length : Int) (by omega) fun v a' s' hS' hv0 hv1 => ?_
    have hv2 := hv1 (by omega)
    obtain ⟨j, rfl⟩ : ∃ j : Nat, v = (j : Int) := ⟨v.toNat, by omega⟩
    have hj : j < r.length := by omega
    have er : rd_T59 r (j : Int) = r[j] := by
      have : r = r.take j ++ r[j] :: r.drop (j + 1) := by rw [List.getElem_cons_drop, List.take_append_drop]
      have e2 := at_pre this
      rw [List.length_take, Nat.min_eq_left (by omega)] at e2
      exact e2
    have hd : r[j] ∈ r := List.getElem_mem hj
    obtain ⟨c, hc, hdc⟩ := h2 _ hd
    have hbd := around_box (m := (n : Int)) (by omega) (hb c hc) hdc
    simp only [er]
    refine Ex.pos (by omega) (Ex.pos (by omega) (Ex.bindE (specInsert_ev s r[j] (by omega)) ?_))
    have ew : wrap64 (((q + 1 : Nat) : Int) - 1) = (q : Int) := by rw [w64 (by omega) (by omega)]; omega
    rw [ew]
    refine poly_l cs q (n + 1) (insC r[j] s) a' s' (by omega) (by rw [(insC_perm _ s).length_eq, List.length_cons]; omega) (by omega) (fun x hx => ?_) hS'
    rcases insP_mem.1 hx with rfl | hx
    · omega
    · have := hb x hx; omega
theorem poly_ex {cs : List Int} {a s : Int} (h : Src cs a s) (n : Int) (h0 : 1 ≤ n) (h1 : n ≤ 39) : Ex (fun k => spec_l02DrawPoly.f k cs a s n) fun r => 1 ≤ r.1.length ∧ r.1.length ≤ 40 ∧ Src cs r.2.1 r.2.2 := by
  unfold spec_l02DrawPoly.f
  refine Ex.next h n (by omega) fun v a' s' hS hv0 hv1 => ?_
  have := hv1 h0
  obtain ⟨q, rfl⟩ : ∃ q : Nat, v = (q : Int) := ⟨v.toNat, by omega⟩
  exact poly_l cs q 1 [⟨0, 0⟩] a' s' (by omega) rfl (by omega) (fun c hc => by simp at hc; subst hc; simp) hS
theorem draw_l (cs : List Int) : ∀ (q i : Nat) (l : List Cell) (a s : Int), i + q = 42 → l.length = i → Src cs a s → Ex (fun k => spec_l02Draw.l0 k l (i : Int) cs a s) fun r => r.1.length ≤ 100 ∧ Src cs r.2.1 r.2.2
  | q, i, l, a, s, hi, hl, hS => by
    refine Ex.succ ?_
    simp only [spec_l02Draw.l0]
    refine Ex.next hS 2 (by omega) fun v a' s' hS' hv0 hv1 => ?_
    have hv := hv1 (by omega)
    have ew : wrap64 (40 + v) = 40 + v := w64 (by omega) (by omega)
    have ei : wrap64 ((i : Int) + 1) = ((i + 1 : Nat) : Int) := by rw [w64 (by omega) (by omega)]; omega
    simp only [ew, ei]
    match q, hi with
    | 0, hi => exact Ex.neg (by omega) (Ex.now ⟨by simp only; omega, hS'⟩)
    | q + 1, hi =>
      exact Ex.if_ (fun _ => Ex.pos (by omega) (draw_l cs q (i + 1) _ a' s' (by omega) (by simp [hl]) hS')) (fun _ => Ex.now ⟨by simp only; omega, hS'⟩)
theorem insAll_len (l : List Cell) : (insAll [] l).length = l.length := by
  have := (insAll_spec l [] List.Pairwise.nil).1.length_eq
  simpa using this
theorem draw_ex {cs : List Int} {a s : Int} (h : Src cs a s) : Ex (fun k => spec_l02Draw.f k cs a s) fun r => r.1.length ≤ 100 ∧ Src cs r.2.1 r.2.2 := by
  unfold spec_l02Draw.f
  refine Ex.bind (poly_ex h 8 (by omega) (by omega)) fun p ⟨p0, p1, p2⟩ => ?_
  refine Ex.next p2 9 (by omega) fun v1 a1 s1 h1 _ _ => ?_
  refine Ex.next h1 9 (by omega) fun v2 a2 s2 h2 _ _ => ?_
  refine Ex.bindE (specMove_ev p.1 _ _ (by omega)) ?_
  have hml := moveL_len p.1 (wrap64 (v1 - 4)) (wrap64 (v2 - 4))
  generalize moveL p.1 (wrap64 (v1 - 4)) (wrap64 (v2 - 4)) = t at hml ⊢
  refine Ex.next h2 (t.length : Int) (by omega) fun v3 a3 s3 h3 g0 g1 => ?_
  have g2 := g1 (by omega)
  refine Ex.next h3 24 (by omega) fun v4 a4 s4 h4 _ _ => ?_
  simp only
  have ew : wrap64 ((t.length : Int) - 1) = (t.length : Int) - 1 := w64 (by omega) (by omega)
  refine Ex.if_ (fun _ => ?_) (fun _ => ?_)
  · refine Ex.bind0 rfl (Ex.next h4 3 (by omega) fun v5 a5 s5 h5 q0 q1 => ?_)
    have q2 := q1 (by omega)
    have e3 : (([(-100), 100, 101] : List Int).length : Int) = 3 := rfl
    refine Ex.pos q0 (Ex.pos (by rw [e3]; exact q2) (Ex.pos g0 (Ex.pos g2 (Ex.bindE (specSortI_ev _ (by rw [List.length_set]; omega)) (Ex.now ?_)))))
    exact ⟨by simp only; rw [insAll_len, List.length_set]; omega, h5⟩
  refine Ex.if_ (fun _ => ?_) (fun _ => ?_)
  · exact Ex.pos g0 (Ex.pos g2 (Ex.pos (by omega) (Ex.now ⟨by simp; omega, h4⟩)))
  refine Ex.if_ (fun _ => Ex.now ⟨by simp, h4⟩) (fun _ => ?_)
  refine Ex.if_ (fun _ => draw_l cs 42 0 [] a4 s4 (by omega) rfl h4) (fun _ => ?_)
  rw [ew]
  refine Ex.if_ (fun _ => ?_) (fun _ => ?_)
  · exact Ex.pos (by omega) (Ex.pos (by omega) (Ex.pos (by omega) (Ex.pos (by omega) (Ex.now ⟨by simp; omega, h4⟩))))
  refine Ex.if_ (fun _ => ?_) (fun _ => Ex.now ⟨by simp only; omega, h4⟩)
  exact Ex.pos (by omega) (Ex.pos (by omega) (Ex.pos (by omega) (Ex.pos (by omega) (Ex.now ⟨by simp; omega, h4⟩))))
theorem rect_l (x0 x1 : Int) (M : Nat) (hM : wrap64 (x0 * x1) = (M : Int)) (hx : x0 ≠ 0) (hM1 : M ≤ 1000) : ∀ (q i : Nat) (acc : List Cell), i + q = M → acc.length = i →
    Ex (fun k => spec_l10Rectangle.l0 k x0 x1 acc (i : Int)) fun r => r.length = M
  | 0, i, acc, hi, hl => by
    refine Ex.succ ?_
    simp only [spec_l10Rectangle.l0, hM]
    exact Ex.neg (by omega) (Ex.now (by omega))
  | q + 1, i, acc, hi, hl => by
    refine Ex.succ ?_
    have ei : wrap64 ((i : Int) + 1) = ((i + 1 : Nat) : Int) := by rw [w64 (by omega) (by omega)]; omega
    simp only [spec_l10Rectangle.l0, hM, ei]
    exact Ex.pos (by omega) (Ex.neg hx (Ex.pos (by omega) (rect_l x0 x1 M hM hx hM1 q (i + 1) _ (by omega) (by simp [hl]))))
theorem rect_ex (x0 x1 : Int) (M : Nat) (hM : wrap64 (x0 * x1) = (M : Int)) (hx : x0 ≠ 0) (hM1 : M ≤ 1000) : Ex (fun k => spec_l10Rectangle.f k x0 x1) fun r => r.length = M := by
  unfold spec_l10Rectangle.f
  exact rect_l x0 x1 M hM hx hM1 M 0 [] (by omega) rfl
theorem without_eq (l : List Cell) (i : Int) (h0 : 0 ≤ i) (h1 : i < (l.length : Int)) (hl : l.length ≤ 1000) : ∃ r, spec_l05Without.f l i = some r ∧ r.length + 1 = l.length := by
  have ew : wrap64 (i + 1) = i + 1 := w64 (by omega) (by omega)
  unfold spec_l05Without.f
  simp only [Option.bind_some, ew, List.nil_append, List.length_nil, List.length_take, List.length_drop]
  rw [if_pos h0, if_pos (by omega), if_pos (by omega), if_pos (by omega), if_pos (by omega), if_pos (by omega)]
  refine ⟨_, rfl, ?_⟩
  simp
  omega
def smallY : List (List Int) := [[3, 4], [4, 3], [2, 5], [5, 2], [3, 3], [6, 2], [4, 2]]
theorem smallY_at {v : Int} (h0 : 0 ≤ v) (h1 : v < 7) : ∃ p q : Int, rd_L6 smallY v = [p, q] ∧ 2 ≤ p ∧ p ≤ 6 ∧ 2 ≤ q ∧ q ≤ 5 ∧ ∃ M : Nat, p * q = (M : Int) ∧ 8 ≤ M ∧ M ≤ 12 := by
  have : v = 0 ∨ v = 1 ∨ v = 2 ∨ v = 3 ∨ v = 4 ∨ v = 5 ∨ v = 6 := by omega
  rcases this with rfl | rfl | rfl | rfl | rfl | rfl | rfl
  · exact ⟨3, 4, rfl, by omega, by omega, by omega, by omega, 12, rfl, by omega, by omega⟩
  · exact ⟨4, 3, rfl, by omega, by omega, by omega, by omega, 12, rfl, by omega, by omega⟩
  · exact ⟨2, 5, rfl, by omega, by omega, by omega, by omega, 10, rfl, by omega, by omega⟩
  · exact ⟨5, 2, rfl, by omega, by omega, by omega, by omega, 10, rfl, by omega, by omega⟩
  · exact ⟨3, 3, rfl, by omega, by omega, by omega, by omega, 9, rfl, by omega, by omega⟩
  · exact ⟨6, 2, rfl, by omega, by omega, by omega, by omega, 12, rfl, by omega, by omega⟩
  · exact ⟨4, 2, rfl, by omega, by omega, by omega, by omega, 8, rfl, by omega, by omega⟩
theorem small_ex {cs : List Int} {a s : Int} (h : Src cs a s) : Ex (fun k => spec_l10DrawSmall.f k cs a s) fun r => r.1.length ≤ 100 ∧ Src cs r.2.1 r.2.2 := by
  unfold spec_l10DrawSmall.f
  refine Ex.bind0 (a := smallY) rfl (Ex.next h 7 (by omega) fun v a1 s1 h1 g0 g1 => ?_)
  have g2 := g1 (by omega)
  obtain ⟨p, q, e, p0, p1, q0, q1, M, eM, M0, M1⟩ := smallY_at g0 g2
  have e7 : (smallY.length : Int) = 7 := rfl
  simp only [e]
  have ep : rd [p, q] 0 = p := rfl
  have eq : rd [p, q] 1 = q := rfl
  refine Ex.pos g0 (Ex.pos (by rw [e7]; exact g2) (Ex.pos (by simp) (Ex.pos (by simp) ?_)))
  rw [ep, eq]
  refine Ex.bind (rect_ex p q M (by rw [eM]; exact w64 (by omega) (by omega)) (by omega) (by omega)) fun t ht => ?_
  refine Ex.next h1 3 (by omega) fun v2 a2 s2 h2 _ _ => Ex.if_ (fun _ => ?_) (fun _ => Ex.now ⟨by simp only; omega, h2⟩)
  refine Ex.next h2 (t.length : Int) (by omega) fun v3 a3 s3 h3 f0 f1 => ?_
  obtain ⟨r, er, hr⟩ := without_eq t v3 f0 (f1 (by omega)) (by omega)
  have hn := normalL_len r
  exact Ex.bind0 er (Ex.bindE (specNormal_ev r (by omega) (by omega)) (Ex.now ⟨by simp only; omega, h3⟩))
theorem region_ex {cs : List Int} {a s : Int} (h : Src cs a s) : Ex (fun k => spec_l10Draw.f k cs a s) fun r => r.1.length ≤ 100 ∧ Src cs r.2.1 r.2.2 := by
  unfold spec_l10Draw.f
  refine Ex.next h 24 (by omega) fun v a1 s1 h1 _ _ => ?_
  have hj (b : Bool) : Ex (fun k => spec_l10Draw.j0 k b cs a1 s1) fun r => r.1.length ≤ 100 ∧ Src cs r.2.1 r.2.2 := by
    refine Ex.succ ?_
    simp only [spec_l10Draw.j0]
    refine Ex.if_ (fun _ => Ex.bind (poly_ex h1 9 (by omega) (by omega)) fun r ⟨r0, r1, r2⟩ => Ex.now ⟨by simp only; omega, r2⟩) (fun _ => Ex.bind (small_ex h1) fun r ⟨r1, r2⟩ => Ex.now ⟨r1, r2⟩)
  refine Ex.if_ (fun _ => Ex.bind (draw_ex h1) fun r ⟨r1, r2⟩ => Ex.now ⟨r1, r2⟩) (fun _ => ?_)
  refine Ex.if_ (fun _ => Ex.bind (rect_ex 20 2 40 (by rw [w64 (by omega) (by omega)]; rfl) (by omega) (by omega)) fun r hr => Ex.now ⟨by simp only; omega, h1⟩) (fun _ => ?_)
  refine Ex.if_ (fun _ => Ex.next h1 2 (by omega) fun v2 a2 s2 h2 _ _ => Ex.now ⟨by simp, h2⟩) (fun _ => ?_)
  exact Ex.if_ (fun _ => hj _) (fun _ => hj _)
end Go.Proofs.Ytfdfdifjkaaeoaa.L
end
section
namespace Go.Proofs.Ytfdfdifjkaaeoaa.L
open Go.RowKit Go.Proofs.YtfdfdifjkaaeoaaW.PrintWords Go.Proofs.YtfdfdifjkaaeoaaW.PrintLast Go.Proofs.YtfdfdifjkaaeoaaW.PrintMore Go.Proofs.Ytfdfdifjkaaeoaa.F
set_option linter.unusedVariables false
set_option linter.unusedSimpArgs false
theorem likeSelf_ev (a : List Int) (hs : small a) : Ev (fun k => laws_likeInts.f k a a) true := by
  unfold laws_likeInts.f
  refine Ev.pos rfl ?_
  refine loop_list a (fun k i (_ : Unit) => laws_likeInts.l0 k a a i) (fun _ _ _ => true) (fun _ _ => True) ?_ ?_ () trivial
  · intro _ _
    simp only [laws_likeInts.l0, len_lt, if_false]
    exact Ev.now _
  · intro pre c suf _ hx _ ih
    simp only [laws_likeInts.l0, pre_lt hx, pre_0, if_true, pre_w hx hs]
    exact ih () trivial
theorem mem_of {l : List Cell} {x y x' y' : Int} (h : (⟨x, y⟩ : Cell) ∈ l) (e : x = x') (e' : y = y') : (⟨x', y'⟩ : Cell) ∈ l := by
  subst e e'
  exact h
theorem inner_iff {l : List Cell} {c : Cell} (hc : okC c) : innerB l c = true ↔ ((⟨c.f0, c.f1 - 1⟩ : Cell) ∈ l ∧ (⟨c.f0 - 1, c.f1⟩ : Cell) ∈ l ∧ (⟨c.f0 + 1, c.f1⟩ : Cell) ∈ l ∧ (⟨c.f0, c.f1 + 1⟩ : Cell) ∈ l) := by
  unfold okC ok1 at hc
  unfold innerB aroundC
  rw [w64 (n := c.f1 - 1) (by omega) (by omega), w64 (n := c.f0 - 1) (by omega) (by omega), w64 (n := c.f0 + 1) (by omega) (by omega), w64 (n := c.f1 + 1) (by omega) (by omega)]
  simp only [List.all_cons, List.all_nil, Bool.and_true, Bool.and_eq_true, decide_eq_true_iff, idxC_mem]
theorem region_box {l : List Cell} (hr : regionB l = true) : ∀ c ∈ l, 0 ≤ c.f0 ∧ c.f0 ≤ 19 ∧ 0 ≤ c.f1 ∧ c.f1 ≤ 19 := by
  intro c hc
  unfold regionB at hr
  simp only [Bool.and_eq_true, decide_eq_true_iff] at hr
  obtain ⟨_, h1, h2, h3, h4⟩ := hr
  have := least_le hc
  have := reach_ge hc
  omega
section
variable {φ : Cell → Cell} {e f a b : Int} (he : sgn e) (hf : sgn f) (hG : Goes φ e f a b)
variable {l : List Cell} (ho : ∀ c ∈ l, okC c) (hp : l.Pairwise ltC) (hin : ∀ c ∈ l, φ c ∈ l) (hx : ∀ c ∈ l, 0 ≤ c.f0 ∧ c.f0 ≤ 19 ∧ 0 ≤ c.f1 ∧ c.f1 ≤ 19)
include he hf hG ho hp hin hx
theorem goes_inner {c : Cell} (hc : c ∈ l) : innerB l (φ c) = innerB l c := by
  have h0 := hx c hc
  have hk (d : Cell) (hd : okC d) : d ∈ l ↔ φ d ∈ l := (goes_iff he hf hG ho hp hin hd).symm
  rw [Bool.eq_iff_iff, inner_iff (ho _ (hin c hc)), inner_iff (ho c hc)]
  have o1 : okC (⟨c.f0, c.f1 - 1⟩ : Cell) := by unfold okC ok1; simp only; omega
  have o2 : okC (⟨c.f0 - 1, c.f1⟩ : Cell) := by unfold okC ok1; simp only; omega
  have o3 : okC (⟨c.f0 + 1, c.f1⟩ : Cell) := by unfold okC ok1; simp only; omega
  have o4 : okC (⟨c.f0, c.f1 + 1⟩ : Cell) := by unfold okC ok1; simp only; omega
  rw [hk _ o1, hk _ o2, hk _ o3, hk _ o4]
  rcases hG with hG | hG
  · rw [hG _ (ho c hc), hG _ o1, hG _ o2, hG _ o3, hG _ o4]
    simp only
    rcases he with rfl | rfl <;> rcases hf with rfl | rfl <;>
      (constructor <;> rintro ⟨h1, h2, h3, h4⟩ <;> refine ⟨?_, ?_, ?_, ?_⟩ <;> first | exact mem_of h1 (by omega) (by omega) | exact mem_of h2 (by omega) (by omega) | exact mem_of h3 (by omega) (by omega) | exact mem_of h4 (by omega) (by omega))
  · rw [hG _ (ho c hc), hG _ o1, hG _ o2, hG _ o3, hG _ o4]
    simp only
    rcases he with rfl | rfl <;> rcases hf with rfl | rfl <;>
      (constructor <;> rintro ⟨h1, h2, h3, h4⟩ <;> refine ⟨?_, ?_, ?_, ?_⟩ <;> first | exact mem_of h1 (by omega) (by omega) | exact mem_of h2 (by omega) (by omega) | exact mem_of h3 (by omega) (by omega) | exact mem_of h4 (by omega) (by omega))
end
theorem borderF_mem (l : List Cell) : ∀ (r : List Cell) (i x : Int), x ∈ borderF l i r ↔ ∃ (j : Nat) (c : Cell), r[j]? = some c ∧ x = i + (j : Int) ∧ innerB l c = false
  | [], i, x => by simp [borderF]
  | d :: r, i, x => by
    unfold borderF
    have ih := borderF_mem l r (i + 1) x
    have key : (∃ (j : Nat) (c : Cell), (d :: r)[j]? = some c ∧ x = i + (j : Int) ∧ innerB l c = false) ↔ (x = i ∧ innerB l d = false) ∨ ∃ (j : Nat) (c : Cell), r[j]? = some c ∧ x = i + 1 + (j : Int) ∧ innerB l c = false := by
      constructor
      · rintro ⟨j, c, h1, h2, h3⟩
        cases j with
        | zero =>
          simp only [List.getElem?_cons_zero, Option.some.injEq] at h1
          subst h1
          exact .inl ⟨by omega, h3⟩
        | succ j =>
          rw [List.getElem?_cons_succ] at h1
          exact .inr ⟨j, c, h1, by omega, h3⟩
      · rintro (⟨h1, h2⟩ | ⟨j, c, h1, h2, h3⟩)
        · exact ⟨0, d, rfl, by omega, h2⟩
        · exact ⟨j + 1, c, by rw [List.getElem?_cons_succ]; exact h1, by omega, h3⟩
    rw [key]
    by_cases g : innerB l d = true
    · rw [if_pos g, ih, g]
      simp
    · have g' : innerB l d = false := by simpa using g
      rw [if_neg g, List.mem_cons, ih, g']
      simp
theorem border_at {l : List Cell} {i : Nat} {c : Cell} (h : l[i]? = some c) : decide ((i : Int) ∈ borderF l 0 l) = !innerB l c := by
  cases g : innerB l c with
  | false =>
    rw [Bool.not_false, decide_eq_true_iff, borderF_mem]
    exact ⟨i, c, h, by omega, g⟩
  | true =>
    rw [Bool.not_true, decide_eq_false_iff_not, borderF_mem]
    rintro ⟨j, d, h1, h2, h3⟩
    have : j = i := by omega
    subst this
    rw [h] at h1
    injection h1 with h1
    subst h1
    rw [g] at h3
    simp at h3
theorem rdC_at {l : List Cell} {j : Nat} {x : Cell} (h : l[j]? = some x) : rd_T59 l (j : Int) = x := by
  obtain ⟨hj, e⟩ := List.getElem?_eq_some_iff.1 h
  have : l = l.take j ++ l[j] :: l.drop (j + 1) := by rw [List.getElem_cons_drop, List.take_append_drop]
  have e2 := at_pre this
  rw [List.length_take, Nat.min_eq_left (by omega)] at e2
  rw [e2, e]
theorem perm_at {φ : Cell → Cell} {l : List Cell} (hin : ∀ c ∈ l, φ c ∈ l) {j : Nat} {x : Cell} (h : l[j]? = some x) : ∃ q : Nat, rd (l.map fun c => idxC l (φ c)) (j : Int) = (q : Int) ∧ q < l.length ∧ l[q]? = some (φ x) := by
  have hm := hin x (List.mem_of_getElem? h)
  rcases idxC_spec l (φ x) with ⟨_, h2⟩ | ⟨q, h1, h2, h3, _⟩
  · exact absurd hm h2
  · refine ⟨q, ?_, h1, h3⟩
    rw [← h2]
    simp [rd, List.getD, List.getElem?_map, h]
section
variable {φ : Cell → Cell} {e f a b : Int} (he : sgn e) (hf : sgn f) (hG : Goes φ e f a b)
variable {l : List Cell} (ho : ∀ c ∈ l, okC c) (hp : l.Pairwise ltC) (hin : ∀ c ∈ l, φ c ∈ l) (hx : ∀ c ∈ l, 0 ≤ c.f0 ∧ c.f0 ≤ 19 ∧ 0 ≤ c.f1 ∧ c.f1 ≤ 19) (hl : l.length ≤ 40)
include he hf hG ho hp hin hx hl
omit hx in
theorem tn_perm : impl_IsPermutation.f (l.map fun c => idxC l (φ c)) = some true := by
  refine isPerm_true (by simp; omega) ?_ ?_
  · intro k hk
    obtain ⟨c, hc, rfl⟩ := List.mem_map.1 hk
    rcases idxC_spec l (φ c) with ⟨_, h2⟩ | ⟨q, h1, h2, h3, _⟩
    · exact absurd (hin c hc) h2
    · simp only [List.length_map]; omega
  · have h0 := goes_nodup he hf hG ho hp
    refine List.pairwise_map.2 ((List.pairwise_map.1 h0).imp_of_mem fun {x y} hx' hy' hxy e1 => hxy ?_)
    rcases idxC_spec l (φ x) with ⟨_, h2⟩ | ⟨q, h1, h2, h3, _⟩
    · exact absurd (hin x hx') h2
    · rcases idxC_spec l (φ y) with ⟨_, g2⟩ | ⟨q', g1, g2, g3, _⟩
      · exact absurd (hin y hy') g2
      · have : q = q' := by omega
        subst this
        rw [h3] at g3
        exact Option.some.inj g3
omit hp hx in
theorem tn_l1 (t : Int) (s bd : List Int) {r : Bool} (i : Nat) (c : Cell) (hi : l[i]? = some c)
    (hc : Ev (fun k => laws_FnTurnNumbers.l0 k l t (l.map fun c => idxC l (φ c)) (l.map fun c => idxC l (φ c)) s bd (wrap64 ((i : Int) + 1))) r) : ∀ (n j : Nat), j + n = i →
    Ev (fun k => laws_FnTurnNumbers.l1 k l t (l.map fun c => idxC l (φ c)) (l.map fun c => idxC l (φ c)) s bd (i : Int) (j : Int)) r
  | 0, j, hj => by
    refine Ev.succ ?_
    simp only [laws_FnTurnNumbers.l1]
    exact Ev.neg (by omega) hc
  | n + 1, j, hj => by
    refine Ev.succ ?_
    obtain ⟨hil, _⟩ := List.getElem?_eq_some_iff.1 hi
    have hjl : j < l.length := by omega
    have hd := List.getElem?_eq_getElem hjl
    generalize l[j] = d at hd
    have hcm := List.mem_of_getElem? hi
    have hdm := List.mem_of_getElem? hd
    obtain ⟨q, q1, q2, q3⟩ := perm_at hin hi
    obtain ⟨p, p1, p2, p3⟩ := perm_at hin hd
    have hn := goes_near he hf hG (ho c hcm) (ho d hdm)
    obtain ⟨v, hv⟩ : ∃ v, laws_near.f c.f0 c.f1 d.f0 d.f1 = some v := ⟨_, rfl⟩
    rw [hv] at hn
    have hw : wrap64 ((j : Int) + 1) = ((j + 1 : Nat) : Int) := by rw [w64 (by omega) (by omega)]; omega
    simp only [laws_FnTurnNumbers.l1, rdC_at hi, rdC_at hd, q1, p1, rdC_at q3, rdC_at p3, hw, List.length_map]
    refine Ev.pos (by omega) (Ev.pos (by omega) (Ev.pos (by omega) (Ev.pos (by omega) (Ev.pos (by omega) (Ev.bind0 hv (Ev.pos (by omega) (Ev.pos (by omega) (Ev.pos (by omega) (Ev.pos (by omega) (Ev.pos (by omega) (Ev.pos (by omega) (Ev.bind0 hn (Ev.neg (by simp) ?_)))))))))))))
    exact tn_l1 t s bd i c hi hc n (j + 1) (by omega)
theorem tn_l0 (t : Int) (s : List Int) (hs : small s) (ht : t ∈ s) : ∀ (suf pre : List Cell), l = pre ++ suf →
    Ev (fun k => laws_FnTurnNumbers.l0 k l t (l.map fun c => idxC l (φ c)) (l.map fun c => idxC l (φ c)) s (borderF l 0 l) (pre.length : Int)) true
  | [], pre, hx' => by
    refine Ev.succ ?_
    have hq := congrArg List.length hx'
    simp only [List.length_append, List.length_nil] at hq
    simp only [laws_FnTurnNumbers.l0]
    refine Ev.neg (by omega) (Ev.bind0 (tn_perm he hf hG ho hp hin hl) (Ev.pos rfl (Ev.bind (hasInt_ev s t hs) (Ev.of_eq (Ev.now _) (by simpa using ht)))))
  | c :: suf, pre, hx' => by
    refine Ev.succ ?_
    have hsm : small l := by unfold small; omega
    have hi := pre_get hx'
    obtain ⟨hil, _⟩ := List.getElem?_eq_some_iff.1 hi
    have hcm := List.mem_of_getElem? hi
    obtain ⟨q, q1, q2, q3⟩ := perm_at hin hi
    have hbs : small (borderF l 0 l) := by have := borderF_len l l 0; unfold small; omega
    have hE : decide ((pre.length : Int) ∈ borderF l 0 l) = decide ((q : Int) ∈ borderF l 0 l) := by
      rw [border_at hi, border_at q3, goes_inner he hf hG ho hp hin hx hcm]
    simp only [laws_FnTurnNumbers.l0, pre_lt hx', pre_0, if_true, q1, List.length_map]
    refine Ev.bind (hasInt_ev _ _ hbs) (Ev.bind (hasInt_ev _ _ hbs) ?_)
    rw [hE]
    refine Ev.neg (by simp) ?_
    refine tn_l1 he hf hG ho hin hl t s _ pre.length c hi ?_ pre.length 0 (by omega)
    rw [pre_w hx' hsm]
    have := tn_l0 t s hs ht suf (pre ++ [c]) (by rw [hx']; simp)
    simpa using this
end
theorem sym0 {l : List Cell} (hr : regionB l = true) : (0 : Int) ∈ symF l 8 0 := by
  rw [symF_mem]
  refine ⟨by omega, by omega, ?_⟩
  unfold turnNums
  have : l.map (turnD 0) = l := by
    conv => rhs; rw [← List.map_id l]
    exact List.map_congr_left fun c _ => rfl
  rw [this, region_own hr, setF_ok]
  exact fun c hc => hc
theorem tnDraw_ex (cs : List Int) (hl : cs.length ≤ 1000000000000000000) (hb : ∀ x ∈ cs, 0 ≤ x ∧ x ≤ 255) : Ex (fun k => spec_DrawTurnNumbers.f k cs) fun r => r.1.length ≤ 100 := by
  unfold spec_DrawTurnNumbers.f
  refine Ex.bind (from_ex cs hl hb) fun ⟨c1, a1, s1⟩ ⟨e1, e2, h1⟩ => ?_
  simp only at e1 e2 h1
  subst e1 e2
  refine Ex.bind (region_ex h1) fun r ⟨r1, r2⟩ => ?_
  have hsm : small r.1 := by unfold small; omega
  have turn {a s : Int} (h : Src c1 a s) : Ex (fun k => spec_DrawTurnNumbers.j0 k r.1 false c1 a s) fun r => r.1.length ≤ 100 := by
    refine Ex.succ ?_
    simp only [spec_DrawTurnNumbers.j0]
    refine Ex.neg (by simp) ?_
    unfold spec_l03DrawTurn.f
    have hT : Ex (fun _ : Nat => (spec_l01Next.f c1 a s 16).bind fun bt1025 => (if bt1025.1 = 0 then ((some (([(-1), 8] : List Int) : List Int)).bind fun y1028 => ((spec_l01Next.f c1 bt1025.2.1 bt1025.2.2 2).bind fun bt1031 => (if 0 ≤ bt1031.1 then (if bt1031.1 < (y1028.length : Int) then (some (rd y1028 bt1031.1, bt1031.2.1, bt1031.2.2)) else (none)) else (none)))) else ((spec_l01Next.f c1 bt1025.2.1 bt1025.2.2 8).bind fun bt1035 => (some (bt1035.1, bt1035.2.1, bt1035.2.2))))) fun _ => True := by
      refine Ex.next h 16 (by omega) fun v a' s' h' _ _ => ?_
      refine Ex.if_ (fun _ => ?_) (fun _ => ?_)
      · refine Ex.bind0 rfl ?_
        refine Ex.next h' 2 (by omega) fun v a' s' h' g1 g2 => ?_
        have := g2 (by omega)
        exact Ex.pos g1 (Ex.pos (by simp; omega) (Ex.now trivial))
      · exact Ex.next h' 8 (by omega) fun v a' s' h' _ _ => Ex.now trivial
    exact Ex.bind hT fun x _ => Ex.now r1
  refine Ex.bindE (specIsRegion_ev r.1 hsm) ?_
  by_cases hr : regionB r.1 = true
  · refine Ex.pos hr (Ex.next r2 3 (by omega) fun v a' s' h' _ _ => ?_)
    by_cases hv : v > 0
    · rw [decide_eq_true hv]
      refine Ex.succ ?_
      simp only [spec_DrawTurnNumbers.j0]
      refine Ex.pos trivial ?_
      obtain ⟨_, h2, _⟩ := region_sorted' hr
      have hS : Ev (fun k => spec_l10Symmetries.f k r.1) (symF r.1 8 0) := by
        unfold spec_l10Symmetries.f
        exact Ev.of_eq (specSym_l r.1 (by omega) h2 8 0 [] (by omega) (by omega) (by simp)) (by simp)
      refine Ex.bindE hS ?_
      have h3 := symF_len r.1 8 0
      have h4 : 0 < (symF r.1 8 0).length := List.length_pos_of_mem (sym0 hr)
      refine Ex.next h' _ (by omega) fun v a' s' h' g1 g2 => ?_
      have := g2 (by omega)
      exact Ex.pos g1 (Ex.pos this (Ex.now r1))
    · rw [decide_eq_false hv]
      exact turn h'
  · exact Ex.neg hr (turn r2)
end Go.Proofs.Ytfdfdifjkaaeoaa.L
namespace Go.Proofs.Ytfdfdifjkaaeoaa.Pure
open Go.RowKit Go.Proofs.YtfdfdifjkaaeoaaW.PrintWords Go.Proofs.Ytfdfdifjkaaeoaa.F Go.Proofs.Ytfdfdifjkaaeoaa.L
set_option linter.unusedVariables false
theorem FnTurnNumbers (l0 : List Int) (hv0 : l0.length ≤ 9223372036854775807 ∧ ∀ x ∈ l0, (Lit.int .u8 x).wf = true) : ∃ k, laws_FnTurnNumbers.f k l0 = some true := by
  refine Ev.rounds ?_
  obtain ⟨hm, hv⟩ := hv0
  have hb : ∀ x ∈ l0, 0 ≤ x ∧ x ≤ 255 := fun x hx => by
    have := hv x hx
    have m0 : IntKind.u8.min = 0 := by decide
    have m1 : IntKind.u8.max = 255 := by decide
    simp [Lit.wf, m0, m1] at this
    omega
  unfold laws_FnTurnNumbers.f
  refine Ev.bind0 rfl ?_
  by_cases hbig : (l0.length : Int) > 4096
  · exact Ev.pos (by simpa using hbig) (Ev.now _)
  refine Ev.neg (by simpa using hbig) ?_
  obtain ⟨⟨l, t⟩, e1, hl⟩ := tnDraw_ex l0 (by omega) hb
  simp only at hl
  have hl' : l.length ≤ 1048576 := by omega
  have b1 := turnNumbers_len l t
  have b2 := symR_len l
  have b3 := borderOf_len l
  refine Ev.bind e1 (Ev.bind (implTurnNumbers_ev l t hl') (Ev.bind (specTurnNumbers_ev l t hl') (Ev.bind (implSymR_ev l hl') (Ev.bind (specSymR_ev l hl') (Ev.bind (implBorder_ev l hl') (Ev.bind (specBorder_ev l hl') (Ev.pos rfl (Ev.bind (likeSelf_ev _ (by unfold small; omega)) (Ev.pos rfl (Ev.pos rfl (Ev.bind (likeSelf_ev _ (by unfold small; omega)) (Ev.pos rfl (Ev.pos rfl (Ev.bind (likeSelf_ev _ (by unfold small; omega)) ?_))))))))))))))
  refine Ev.step (fun k => laws_FnTurnNumbers.j0.eq_2 _ _ _ _ _ _ _ _ _) (Ev.neg (by simp) ?_)
  by_cases hr : regionB l = true
  · have hS : symR l = (symF l 8 0, 0) := by unfold symR; rw [if_pos hr]
    have hB : borderOf l = (borderF l 0 l, 0) := by unfold borderOf; rw [if_pos hr]
    have hss : small (symF l 8 0) := by have := symF_len l 8 0; unfold small; omega
    by_cases ht : 0 ≤ t ∧ t ≤ 7
    · by_cases h : (turnNums l t).2 = true
      · have hT : turnNumbers l t = ((turnNums l t).1, 0) := by unfold turnNumbers; rw [if_pos hr, if_pos ht, if_pos h]
        obtain ⟨φ, e, f, a, b, he, hf, hG, hq, hin⟩ := sym_map hr ht h
        have hsh : shapeB l = true := by unfold regionB at hr; rw [Bool.and_eq_true] at hr; exact hr.1
        obtain ⟨ho, hp, _, h40⟩ := shapeB_iff.1 hsh
        rw [hT, hS, hB]
        simp only
        rw [hq]
        refine Ev.pos trivial ?_
        exact tn_l0 he hf hG ho hp hin (region_box hr) h40 t _ hss ((symF_mem l 8 0 t).2 ⟨ht.1, by omega, h⟩) l [] rfl
      · have hT : turnNumbers l t = ([], 5) := by unfold turnNumbers; rw [if_pos hr, if_pos ht, if_neg h]
        rw [hT, hS]
        refine Ev.neg (by simp) (Ev.pos rfl (Ev.bind (hasInt_ev _ t hss) (Ev.of_eq (Ev.now _) ?_)))
        have : t ∉ symF l 8 0 := fun k => h ((symF_mem l 8 0 t).1 k).2.2
        simpa using this
    · have hT : turnNumbers l t = ([], 2) := by unfold turnNumbers; rw [if_pos hr, if_neg ht]
      rw [hT]
      exact Ev.neg (by simp) (Ev.neg (by simp) (Ev.now _))
  · have hT : turnNumbers l t = ([], 1) := by unfold turnNumbers; rw [if_neg hr]
    rw [hT]
    exact Ev.neg (by simp) (Ev.neg (by simp) (Ev.now _))
end Go.Proofs.Ytfdfdifjkaaeoaa.Pure
end
