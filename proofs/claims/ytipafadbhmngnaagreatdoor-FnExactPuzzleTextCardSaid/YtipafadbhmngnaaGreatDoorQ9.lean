/- The row of FnExactPuzzleText, with what it needs: text 10 of 11. -/
import Derived.Test.YtipafadbhmngnaaGreatDoorQ8
set_option maxHeartbeats 8000000
set_option maxRecDepth 100000
section
namespace Go.Proofs.YtipafadbhmngnaaGreatDoor.L
open Go.RowKit Go.Proofs.YtipafadbhmngnaaGreatDoorW.PrintWords Go.Proofs.YtipafadbhmngnaaGreatDoorW.PrintLast Go.Proofs.YtipafadbhmngnaaGreatDoorW.PrintMore Go.Proofs.YtipafadbhmngnaaGreatDoor.F
set_option linter.unusedVariables false
set_option linter.unusedSimpArgs false
theorem specLeast_ev (l : List Cell) (hs : small l) (h0 : 0 < l.length) : Ev (fun k => spec_l02Least.f k l) (leastOf l) := by
  unfold spec_l02Least.f
  obtain ⟨c, r, rfl⟩ : ∃ c r, l = c :: r := by cases l with | nil => simp at h0 | cons c r => exact ⟨c, r, rfl⟩
  refine Ev.pos (by simp <;> omega) ?_
  have h1 : rd_T82 (c :: r) 0 = c := rfl
  rw [h1]
  refine loop_tail c r (fun k i (s : Int × Int) => spec_l02Least.l0 k (c :: r) s.1 s.2 i) (fun _ suf s => (minX s.1 suf, minY s.2 suf)) (fun _ _ => True) ?_ ?_ (c.f0, c.f1) trivial
  · rintro s _
    simp only [spec_l02Least.l0, len_lt, if_false]
    exact Ev.now _
  · rintro pre d suf s hx _ _ ih
    simp only [spec_l02Least.l0, pre_lt hx, pre_0, if_true, at_pre hx, pre_w hx hs]
    exact ih (mn s.1 d.f0, mn s.2 d.f1) trivial
theorem minX_le : ∀ (l : List Cell) (z : Int), minX z l ≤ z ∧ (∀ c ∈ l, minX z l ≤ c.f0) ∧ (minX z l = z ∨ ∃ c ∈ l, minX z l = c.f0)
  | [], z => ⟨Int.le_refl _, fun c h => by simp at h, .inl rfl⟩
  | a :: r, z => by
    obtain ⟨h1, h2, h3⟩ := minX_le r (mn z a.f0)
    have h4 : mn z a.f0 ≤ z ∧ mn z a.f0 ≤ a.f0 ∧ (mn z a.f0 = z ∨ mn z a.f0 = a.f0) := by unfold mn; split <;> omega
    have e : minX z (a :: r) = minX (mn z a.f0) r := rfl
    rw [e]
    refine ⟨by omega, fun c hc => ?_, ?_⟩
    · rcases List.mem_cons.1 hc with rfl | hc
      · omega
      · exact h2 c hc
    · rcases h3 with h3 | ⟨c, hc, h3⟩
      · rcases h4.2.2 with h5 | h5
        · exact .inl (h3.trans h5)
        · exact .inr ⟨a, List.mem_cons_self, h3.trans h5⟩
      · exact .inr ⟨c, List.mem_cons_of_mem _ hc, h3⟩
theorem minY_le : ∀ (l : List Cell) (z : Int), minY z l ≤ z ∧ (∀ c ∈ l, minY z l ≤ c.f1) ∧ (minY z l = z ∨ ∃ c ∈ l, minY z l = c.f1)
  | [], z => ⟨Int.le_refl _, fun c h => by simp at h, .inl rfl⟩
  | a :: r, z => by
    obtain ⟨h1, h2, h3⟩ := minY_le r (mn z a.f1)
    have h4 : mn z a.f1 ≤ z ∧ mn z a.f1 ≤ a.f1 ∧ (mn z a.f1 = z ∨ mn z a.f1 = a.f1) := by unfold mn; split <;> omega
    have e : minY z (a :: r) = minY (mn z a.f1) r := rfl
    rw [e]
    refine ⟨by omega, fun c hc => ?_, ?_⟩
    · rcases List.mem_cons.1 hc with rfl | hc
      · omega
      · exact h2 c hc
    · rcases h3 with h3 | ⟨c, hc, h3⟩
      · rcases h4.2.2 with h5 | h5
        · exact .inl (h3.trans h5)
        · exact .inr ⟨a, List.mem_cons_self, h3.trans h5⟩
      · exact .inr ⟨c, List.mem_cons_of_mem _ hc, h3⟩
theorem maxX_ge : ∀ (l : List Cell) (z : Int), z ≤ maxX z l ∧ (∀ c ∈ l, c.f0 ≤ maxX z l) ∧ (maxX z l = z ∨ ∃ c ∈ l, maxX z l = c.f0)
  | [], z => ⟨Int.le_refl _, fun c h => by simp at h, .inl rfl⟩
  | a :: r, z => by
    obtain ⟨h1, h2, h3⟩ := maxX_ge r (mx z a.f0)
    have h4 : z ≤ mx z a.f0 ∧ a.f0 ≤ mx z a.f0 ∧ (mx z a.f0 = z ∨ mx z a.f0 = a.f0) := by unfold mx; split <;> omega
    have e : maxX z (a :: r) = maxX (mx z a.f0) r := rfl
    rw [e]
    refine ⟨by omega, fun c hc => ?_, ?_⟩
    · rcases List.mem_cons.1 hc with rfl | hc
      · omega
      · exact h2 c hc
    · rcases h3 with h3 | ⟨c, hc, h3⟩
      · rcases h4.2.2 with h5 | h5
        · exact .inl (h3.trans h5)
        · exact .inr ⟨a, List.mem_cons_self, h3.trans h5⟩
      · exact .inr ⟨c, List.mem_cons_of_mem _ hc, h3⟩
theorem maxY_ge : ∀ (l : List Cell) (z : Int), z ≤ maxY z l ∧ (∀ c ∈ l, c.f1 ≤ maxY z l) ∧ (maxY z l = z ∨ ∃ c ∈ l, maxY z l = c.f1)
  | [], z => ⟨Int.le_refl _, fun c h => by simp at h, .inl rfl⟩
  | a :: r, z => by
    obtain ⟨h1, h2, h3⟩ := maxY_ge r (mx z a.f1)
    have h4 : z ≤ mx z a.f1 ∧ a.f1 ≤ mx z a.f1 ∧ (mx z a.f1 = z ∨ mx z a.f1 = a.f1) := by unfold mx; split <;> omega
    have e : maxY z (a :: r) = maxY (mx z a.f1) r := rfl
    rw [e]
    refine ⟨by omega, fun c hc => ?_, ?_⟩
    · rcases List.mem_cons.1 hc with rfl | hc
      · omega
      · exact h2 c hc
    · rcases h3 with h3 | ⟨c, hc, h3⟩
      · rcases h4.2.2 with h5 | h5
        · exact .inl (h3.trans h5)
        · exact .inr ⟨a, List.mem_cons_self, h3.trans h5⟩
      · exact .inr ⟨c, List.mem_cons_of_mem _ hc, h3⟩
theorem least_le {l : List Cell} {c : Cell} (h : c ∈ l) : (leastOf l).1 ≤ c.f0 ∧ (leastOf l).2 ≤ c.f1 := by
  cases l with
  | nil => simp at h
  | cons a r =>
    have hx := minX_le r a.f0
    have hy := minY_le r a.f1
    show minX a.f0 r ≤ c.f0 ∧ minY a.f1 r ≤ c.f1
    rcases List.mem_cons.1 h with rfl | h
    · exact ⟨hx.1, hy.1⟩
    · exact ⟨hx.2.1 c h, hy.2.1 c h⟩
theorem reach_ge {l : List Cell} {c : Cell} (h : c ∈ l) : c.f0 ≤ (reachOf l).1 ∧ c.f1 ≤ (reachOf l).2 := by
  cases l with
  | nil => simp at h
  | cons a r =>
    have hx := maxX_ge r a.f0
    have hy := maxY_ge r a.f1
    show c.f0 ≤ maxX a.f0 r ∧ c.f1 ≤ maxY a.f1 r
    rcases List.mem_cons.1 h with rfl | h
    · exact ⟨hx.1, hy.1⟩
    · exact ⟨hx.2.1 c h, hy.2.1 c h⟩
theorem least_mem {l : List Cell} (h : l ≠ []) : (∃ c ∈ l, (leastOf l).1 = c.f0) ∧ (∃ c ∈ l, (leastOf l).2 = c.f1) := by
  cases l with
  | nil => exact absurd rfl h
  | cons a r =>
    refine ⟨?_, ?_⟩
    · rcases (minX_le r a.f0).2.2 with e | ⟨c, hc, e⟩
      · exact ⟨a, List.mem_cons_self, e⟩
      · exact ⟨c, List.mem_cons_of_mem _ hc, e⟩
    · rcases (minY_le r a.f1).2.2 with e | ⟨c, hc, e⟩
      · exact ⟨a, List.mem_cons_self, e⟩
      · exact ⟨c, List.mem_cons_of_mem _ hc, e⟩
theorem reach_mem {l : List Cell} (h : l ≠ []) : (∃ c ∈ l, (reachOf l).1 = c.f0) ∧ (∃ c ∈ l, (reachOf l).2 = c.f1) := by
  cases l with
  | nil => exact absurd rfl h
  | cons a r =>
    refine ⟨?_, ?_⟩
    · rcases (maxX_ge r a.f0).2.2 with e | ⟨c, hc, e⟩
      · exact ⟨a, List.mem_cons_self, e⟩
      · exact ⟨c, List.mem_cons_of_mem _ hc, e⟩
    · rcases (maxY_ge r a.f1).2.2 with e | ⟨c, hc, e⟩
      · exact ⟨a, List.mem_cons_self, e⟩
      · exact ⟨c, List.mem_cons_of_mem _ hc, e⟩
theorem least_ok {l : List Cell} (h : l ≠ []) (ho : ∀ c ∈ l, okC c) : ok1 (leastOf l).1 ∧ ok1 (leastOf l).2 := by
  obtain ⟨⟨c, hc, e⟩, ⟨d, hd, e'⟩⟩ := least_mem h
  rw [e, e']
  exact ⟨(ho c hc).1, (ho d hd).2⟩
def sizeOf_ (l : List Cell) : Int × Int := ((reachOf l).1 - (leastOf l).1 + 1, (reachOf l).2 - (leastOf l).2 + 1)
theorem foldW (x : Int) : ∀ (l : List Cell) (m : Int), l.foldl (fun m c => mx m (c.f0 - x + 1)) (m - x + 1) = maxX m l - x + 1
  | [], m => rfl
  | a :: r, m => by
    have : mx (m - x + 1) (a.f0 - x + 1) = mx m a.f0 - x + 1 := by unfold mx; split <;> split <;> omega
    simp only [List.foldl_cons, this, foldW x r]
    rfl
theorem foldH (x : Int) : ∀ (l : List Cell) (m : Int), l.foldl (fun m c => mx m (c.f1 - x + 1)) (m - x + 1) = maxY m l - x + 1
  | [], m => rfl
  | a :: r, m => by
    have : mx (m - x + 1) (a.f1 - x + 1) = mx m a.f1 - x + 1 := by unfold mx; split <;> split <;> omega
    simp only [List.foldl_cons, this, foldH x r]
    rfl
theorem specSize_ev (l : List Cell) (hs : small l) (h0 : l ≠ []) (ho : ∀ c ∈ l, okC c) : Ev (fun k => spec_l04Size.f k l) (sizeOf_ l) := by
  unfold spec_l04Size.f
  refine Ev.bind (specLeast_ev l hs (List.length_pos_iff.2 h0)) ?_
  have hb := least_ok h0 ho
  have := loop_list l (fun k i (s : Int × Int) => spec_l04Size.l0 k l (leastOf l).1 (leastOf l).2 s.1 s.2 i)
    (fun _ suf s => (suf.foldl (fun m c => mx m (c.f0 - (leastOf l).1 + 1)) s.1, suf.foldl (fun m c => mx m (c.f1 - (leastOf l).2 + 1)) s.2)) (fun _ _ => True) ?_ ?_ (0, 0) trivial
  · refine Ev.of_eq this ?_
    obtain ⟨a, r, rfl⟩ : ∃ a r, l = a :: r := by cases l with | nil => exact absurd rfl h0 | cons a r => exact ⟨a, r, rfl⟩
    have hl := least_le (l := a :: r) (c := a) List.mem_cons_self
    have e1 : mx 0 (a.f0 - (leastOf (a :: r)).1 + 1) = a.f0 - (leastOf (a :: r)).1 + 1 := by unfold mx; split <;> omega
    have e2 : mx 0 (a.f1 - (leastOf (a :: r)).2 + 1) = a.f1 - (leastOf (a :: r)).2 + 1 := by unfold mx; split <;> omega
    simp only [List.foldl_cons, e1, e2, foldW, foldH]
    rfl
  · rintro s _
    simp only [spec_l04Size.l0, len_lt, if_false]
    exact Ev.now _
  · rintro pre d suf s hx _ ih
    have hd := ho d (by rw [hx]; simp)
    unfold okC ok1 at hd
    unfold ok1 at hb
    have e1 : wrap64 (wrap64 (d.f0 - (leastOf l).1) + 1) = d.f0 - (leastOf l).1 + 1 := by rw [w64 (n := d.f0 - (leastOf l).1) (by omega) (by omega), w64 (by omega) (by omega)]
    have e2 : wrap64 (wrap64 (d.f1 - (leastOf l).2) + 1) = d.f1 - (leastOf l).2 + 1 := by rw [w64 (n := d.f1 - (leastOf l).2) (by omega) (by omega), w64 (by omega) (by omega)]
    simp only [spec_l04Size.l0, pre_lt hx, pre_0, if_true, at_pre hx, pre_w hx hs, e1, e2]
    exact ih (mx s.1 (d.f0 - (leastOf l).1 + 1), mx s.2 (d.f1 - (leastOf l).2 + 1)) trivial
def regionB (l : List Cell) : Bool := shapeB l && (decide ((leastOf l).1 = 0) && (decide ((leastOf l).2 = 0) && (decide ((reachOf l).1 < 20) && decide ((reachOf l).2 < 20))))
theorem shape_ne {l : List Cell} (h : shapeB l = true) : l ≠ [] := by
  have := (shapeB_iff.1 h).2.2.1
  intro e
  rw [e] at this
  simp at this
theorem specIsRegion_ev (l : List Cell) (hs : small l) : Ev (fun k => spec_IsRegion.f k l) (regionB l) := by
  unfold spec_IsRegion.f
  refine Ev.bind (specIsShape_ev l hs) ?_
  unfold regionB
  by_cases h : shapeB l = true
  · have hn := shape_ne h
    have ho := (shapeB_iff.1 h).1
    refine Ev.pos h (Ev.bind (specSize_ev l hs hn ho) (Ev.bind (specLeast_ev l hs (List.length_pos_iff.2 hn)) ?_))
    rw [h, Bool.true_and]
    by_cases h1 : (leastOf l).1 = 0
    · refine Ev.pos h1 ?_
      by_cases h2 : (leastOf l).2 = 0
      · refine Ev.pos h2 ?_
        simp only [sizeOf_, h1, h2, decide_true, Bool.true_and]
        by_cases h3 : (reachOf l).1 < 20
        · refine Ev.pos (by omega) (Ev.of_eq (Ev.now _) ?_)
          simp [h3]; omega
        · refine Ev.neg (by omega) (Ev.of_eq (Ev.now _) ?_)
          simp [h3]
      · exact Ev.neg h2 (Ev.of_eq (Ev.now _) (by simp [h2]))
    · exact Ev.neg h1 (Ev.of_eq (Ev.now _) (by simp [h1]))
  · exact Ev.neg h (Ev.of_eq (Ev.now _) (by simp [h]))
theorem implIsRegion_ev (l : List Cell) (hs : small l) : Ev (fun k => impl_IsRegion.f k l) (regionB l) := by
  unfold impl_IsRegion.f
  refine Ev.bind (implIsShape_ev l hs) ?_
  unfold regionB
  by_cases h : shapeB l = true
  · have hn := shape_ne h
    refine Ev.pos h (Ev.bind (implCorner_ev l hs (List.length_pos_iff.2 hn)) ?_)
    rw [h, Bool.true_and]
    by_cases h1 : (leastOf l).1 = 0
    · by_cases h2 : (leastOf l).2 = 0
      · refine Ev.neg (by simp [h1, h2]) (Ev.bind (implReach_ev l hs (List.length_pos_iff.2 hn)) ?_)
        simp only [h1, h2, decide_true, Bool.true_and]
        by_cases h3 : (reachOf l).1 < 20
        · exact Ev.pos h3 (Ev.of_eq (Ev.now _) (by simp [h3]))
        · exact Ev.neg h3 (Ev.of_eq (Ev.now _) (by simp [h3]))
      · exact Ev.pos (by simp [h2]) (Ev.of_eq (Ev.now _) (by simp [h2]))
    · exact Ev.pos (by simp [h1]) (Ev.of_eq (Ev.now _) (by simp [h1]))
  · exact Ev.neg h (Ev.of_eq (Ev.now _) (by simp [h]))
def moveL (l : List Cell) (x y : Int) : List Cell := l.map fun c => ⟨wrap64 (c.f0 + x), wrap64 (c.f1 + y)⟩
theorem moveL_len (l : List Cell) (x y : Int) : (moveL l x y).length = l.length := by simp [moveL]
theorem specMove_ev (l : List Cell) (x y : Int) (hl : l.length ≤ 1048576) : Ev (fun k => spec_l02Move.f k l x y) (moveL l x y) := by
  have hs : small l := by unfold small; omega
  unfold spec_l02Move.f
  have := loop_list l (fun k i (s : List Cell) => spec_l02Move.l0 k l x y s i) (fun pre suf s => s ++ moveL suf x y) (fun pre s => s.length = pre.length) ?_ ?_ [] rfl
  · simpa using this
  · intro s _
    simp only [spec_l02Move.l0, len_lt, if_false]
    exact Ev.of_eq (Ev.now _) (by simp [moveL])
  · intro pre c suf s hx hi ih
    have hp := pre_len hx
    simp only [spec_l02Move.l0, pre_lt hx, pre_0, if_true, at_pre hx, pre_w hx hs]
    refine Ev.pos (by omega) (Ev.of_eq (ih _ (by simp [hi])) ?_)
    simp [moveL]
theorem implMoved_ev (l : List Cell) (x y : Int) (hl : l.length ≤ 1048576) : Ev (fun k => impl_moved.f k l x y) (moveL l x y) := by
  have hs : small l := by unfold small; omega
  unfold impl_moved.f
  refine Ev.pos (by omega) (Ev.pos (by omega) ?_)
  have := loop_list l (fun k i (s : List Cell) => impl_moved.l0 k x y s l (l.length : Int) i) (fun pre suf s => s ++ moveL suf x y) (fun pre s => s.length = pre.length) ?_ ?_ [] rfl
  · simpa using this
  · intro s _
    simp only [impl_moved.l0, len_lt, if_false]
    exact Ev.of_eq (Ev.now _) (by simp [moveL])
  · intro pre c suf s hx hi ih
    have hp := pre_len hx
    simp only [impl_moved.l0, pre_lt hx, pre_0, if_true, at_pre hx, pre_w hx hs]
    refine Ev.pos (by omega) (Ev.of_eq (ih _ (by simp [hi])) ?_)
    simp [moveL]
def normalL (l : List Cell) : List Cell := moveL l (wrap64 (-(leastOf l).1)) (wrap64 (-(leastOf l).2))
theorem normalL_len (l : List Cell) : (normalL l).length = l.length := moveL_len _ _ _
theorem specNormal_ev (l : List Cell) (hl : l.length ≤ 1048576) (h0 : 0 < l.length) : Ev (fun k => spec_l02Normal.f k l) (normalL l) := by
  unfold spec_l02Normal.f
  refine Ev.bind (specLeast_ev l (by unfold small; omega) h0) (Ev.bind (specMove_ev l _ _ hl) (Ev.now _))
theorem implNormal_ev (l : List Cell) (hl : l.length ≤ 1048576) (h0 : 0 < l.length) : Ev (fun k => impl_normal.f k l) (normalL l) := by
  unfold impl_normal.f
  refine Ev.bind (implCorner_ev l (by unfold small; omega) h0) (Ev.bind (implMoved_ev l _ _ hl) (Ev.now _))
def rotP : Nat → Int × Int → Int × Int
  | 0, p => p
  | n + 1, p => rotP n (wrap64 (-p.2), p.1)
def turnC (c : Cell) (t : Int) : Int × Int := rotP (t % 4).toNat (if t ≥ 4 then (wrap64 (-c.f0), c.f1) else (c.f0, c.f1))
theorem specTurn_l (n : Nat) (hn : n ≤ 1048576) : ∀ p : Int × Int, Ev (fun k => spec_l03Turn.l0 k (n : Int) p.1 p.2) (rotP n p) := by
  induction n with
  | zero =>
    intro p
    refine Ev.succ ?_
    simp only [spec_l03Turn.l0]
    exact Ev.neg (by simp) (Ev.now _)
  | succ n ih =>
    intro p
    refine Ev.succ ?_
    simp only [spec_l03Turn.l0]
    have e1 : wrap64 (((n + 1 : Nat) : Int) - 1) = (n : Int) := by rw [w64 (by omega) (by omega)]; omega
    refine Ev.pos (by omega) ?_
    simp only [e1]
    exact ih (by omega) (wrap64 (-p.2), p.1)
theorem implTurn_l (m : Nat) (hm : m ≤ 1048576) (n : Nat) : ∀ (i : Nat) (p : Int × Int), i + n = m → Ev (fun k => impl_turnCell.l0 k (m : Int) (i : Int) p.1 p.2) (rotP n p) := by
  induction n with
  | zero =>
    intro i p hi
    refine Ev.succ ?_
    simp only [impl_turnCell.l0]
    exact Ev.neg (by omega) (Ev.now _)
  | succ n ih =>
    intro i p hi
    refine Ev.succ ?_
    simp only [impl_turnCell.l0]
    have e1 : wrap64 ((i : Int) + 1) = ((i + 1 : Nat) : Int) := by rw [w64 (by omega) (by omega)]; omega
    refine Ev.pos (by omega) ?_
    simp only [e1]
    exact ih (i + 1) (wrap64 (-p.2), p.1) (by omega)
theorem tmod4 {t : Int} (h : 0 ≤ t) : Int.tmod t 4 = ((t % 4).toNat : Int) := by
  rw [Int.tmod_eq_emod_of_nonneg h]
  omega
theorem specTurn_ev (c : Cell) (t : Int) (h : 0 ≤ t) : Ev (fun k => spec_l03Turn.f k c.f0 c.f1 t) (turnC c t) := by
  unfold spec_l03Turn.f turnC
  have := specTurn_l (t % 4).toNat (by omega)
  by_cases h4 : t ≥ 4
  · rw [if_pos h4]
    refine Ev.pos h4 (Ev.step (fun k => spec_l03Turn.j0.eq_2 _ _ _ _) ?_)
    simp only [tmod4 h]
    exact this (wrap64 (-c.f0), c.f1)
  · rw [if_neg h4]
    refine Ev.neg h4 (Ev.step (fun k => spec_l03Turn.j0.eq_2 _ _ _ _) ?_)
    simp only [tmod4 h]
    exact this (c.f0, c.f1)
theorem implTurn_ev (c : Cell) (t : Int) (h : 0 ≤ t) : Ev (fun k => impl_turnCell.f k c.f0 c.f1 t) (turnC c t) := by
  unfold impl_turnCell.f turnC
  have := implTurn_l (t % 4).toNat (by omega) (t % 4).toNat 0
  by_cases h4 : t ≥ 4
  · rw [if_pos h4]
    refine Ev.pos h4 (Ev.step (fun k => impl_turnCell.j0.eq_2 _ _ _ _) ?_)
    simp only [tmod4 h]
    exact this (wrap64 (-c.f0), c.f1) (by omega)
  · rw [if_neg h4]
    refine Ev.neg h4 (Ev.step (fun k => impl_turnCell.j0.eq_2 _ _ _ _) ?_)
    simp only [tmod4 h]
    exact this (c.f0, c.f1) (by omega)
def turnD (t : Int) (c : Cell) : Cell := ⟨(turnC c t).1, (turnC c t).2⟩
def shiftC (a b : Int) (c : Cell) : Cell := ⟨c.f0 - a, c.f1 - b⟩
theorem normalL_shift {l : List Cell} (h0 : l ≠ []) (ho : ∀ c ∈ l, okC c) : normalL l = l.map (shiftC (leastOf l).1 (leastOf l).2) := by
  have hb := least_ok h0 ho
  unfold normalL moveL
  refine List.map_congr_left fun c hc => ?_
  have h := ho c hc
  unfold okC ok1 at h
  unfold ok1 at hb
  unfold shiftC
  rw [w64 (n := -(leastOf l).1) (by omega) (by omega), w64 (n := -(leastOf l).2) (by omega) (by omega), w64 (by omega) (by omega), w64 (by omega) (by omega)]
  simp only [S82.mk.injEq]
  omega
def sameC (a b : Cell) : Bool := decide (a.f0 = b.f0) && decide (a.f1 = b.f1)
theorem sameC_iff {a b : Cell} : sameC a b = true ↔ a = b := by
  obtain ⟨a0, a1⟩ := a
  obtain ⟨b0, b1⟩ := b
  simp [sameC]
def idxF : List Cell → Cell → Int → Int
  | [], _, _ => -1
  | a :: r, c, i => if sameC a c = true then i else idxF r c (i + 1)
def idxC (l : List Cell) (c : Cell) : Int := idxF l c 0
theorem specIndex_ev (l : List Cell) (c : Cell) (hs : small l) : Ev (fun k => spec_l02Index.f k l c.f0 c.f1) (idxC l c) := by
  unfold spec_l02Index.f
  refine loop_list l (fun k i (_ : Unit) => spec_l02Index.l0 k l i c.f0 c.f1) (fun pre suf _ => idxF suf c (pre.length : Int)) (fun _ _ => True) ?_ ?_ () trivial
  · intro _ _
    simp only [spec_l02Index.l0, len_lt, if_false]
    exact Ev.now _
  · intro pre d suf _ hx _ ih
    simp only [spec_l02Index.l0, pre_lt hx, pre_0, if_true, at_pre hx, pre_w hx hs, idxF]
    have e : (d.f0 == c.f0 && d.f1 == c.f1) = sameC d c := by simp [sameC, BEq.beq]
    rw [e]
    refine Ev.if_ (fun _ => Ev.now _) (fun _ => Ev.of_eq (ih () trivial) ?_)
    simp
theorem idxF_spec : ∀ (l : List Cell) (c : Cell) (i : Int), 0 ≤ i → (idxF l c i = -1 ∧ c ∉ l) ∨ (∃ j : Nat, j < l.length ∧ idxF l c i = i + (j : Int) ∧ l[j]? = some c ∧ ∀ q : Nat, q < j → l[q]? ≠ some c)
  | [], c, i, _ => .inl ⟨rfl, by simp⟩
  | a :: r, c, i, hi => by
    unfold idxF
    by_cases h : sameC a c = true
    · rw [if_pos h]
      exact .inr ⟨0, by simp, by simp, by simp [sameC_iff.1 h], fun q hq => by omega⟩
    · rw [if_neg h]
      have hne : a ≠ c := fun e => h (sameC_iff.2 e)
      rcases idxF_spec r c (i + 1) (by omega) with ⟨h1, h2⟩ | ⟨j, h1, h2, h3, h4⟩
      · exact .inl ⟨h1, by simp only [List.mem_cons, not_or]; exact ⟨fun e => hne e.symm, h2⟩⟩
      · refine .inr ⟨j + 1, by simpa using h1, by rw [h2]; simp; omega, by simpa using h3, fun q hq => ?_⟩
        cases q with
        | zero => simpa using hne
        | succ q => simpa using h4 q (by omega)
theorem idxC_spec (l : List Cell) (c : Cell) : (idxC l c = -1 ∧ c ∉ l) ∨ (∃ j : Nat, j < l.length ∧ idxC l c = (j : Int) ∧ l[j]? = some c ∧ ∀ q : Nat, q < j → l[q]? ≠ some c) := by
  rcases idxF_spec l c 0 (Int.le_refl _) with h | ⟨j, h1, h2, h3⟩
  · exact .inl h
  · exact .inr ⟨j, h1, by unfold idxC; rw [h2]; omega, h3⟩
theorem idxC_mem (l : List Cell) (c : Cell) : idxC l c ≥ 0 ↔ c ∈ l := by
  rcases idxC_spec l c with ⟨h1, h2⟩ | ⟨j, h1, h2, h3, _⟩
  · rw [h1]; constructor
    · intro h; omega
    · intro h; exact absurd h h2
  · rw [h2]; constructor
    · intro _; exact List.mem_of_getElem? h3
    · intro _; omega
theorem inC_iff (S : List Cell) (x y : Nat) : inC S x y = true ↔ (⟨(x : Int), (y : Int)⟩ : Cell) ∈ S := by
  unfold inC
  rw [List.any_eq_true]
  constructor
  · rintro ⟨q, hq, h⟩
    rw [Bool.and_eq_true, beq_iff_eq, beq_iff_eq] at h
    obtain ⟨a, b⟩ := q
    simp only at h
    obtain ⟨rfl, rfl⟩ := h
    exact hq
  · intro h
    exact ⟨_, h, by simp⟩
theorem dotI_idx (S : List Cell) (x y : Nat) : dotI S x y = if idxC S ⟨(x : Int), (y : Int)⟩ ≥ 0 then 35 else 46 := by
  unfold dotI
  by_cases h : inC S x y = true
  · rw [if_pos h, if_pos ((idxC_mem _ _).2 ((inC_iff S x y).1 h))]
  · rw [if_neg h, if_neg fun g => h ((inC_iff S x y).2 ((idxC_mem _ _).1 g))]
def textI (S : List Cell) (W : Nat) : Nat → List Int
  | 0 => []
  | n + 1 => (if 0 < n then textI S W n ++ [47] else textI S W n) ++ rowI S W n
theorem rowI_len (S : List Cell) (W y : Nat) : (rowI S W y).length = W := by simp [rowI]
theorem textI_len (S : List Cell) (W : Nat) : ∀ n, (textI S W n).length ≤ (W + 1) * n
  | 0 => Nat.zero_le _
  | n + 1 => by
    have ih := textI_len S W n
    rw [textI, List.length_append, rowI_len, Nat.mul_succ]
    split
    · rw [List.length_append, List.length_singleton]; omega
    · omega
def wideN (l : List Cell) : Nat := ((reachOf l).1 - (leastOf l).1 + 1).toNat
def highN (l : List Cell) : Nat := ((reachOf l).2 - (leastOf l).2 + 1).toNat
def textL (l : List Cell) : List Int := textI (normalL l) (wideN l) (highN l)
def textS (l : List Cell) : ByteArray := strOfNums (textL l)
theorem box_ok {l : List Cell} (h0 : l ≠ []) (ho : ∀ c ∈ l, okC c) : -100 ≤ (leastOf l).1 ∧ (leastOf l).1 ≤ (reachOf l).1 ∧ (reachOf l).1 ≤ 100 ∧ -100 ≤ (leastOf l).2 ∧ (leastOf l).2 ≤ (reachOf l).2 ∧ (reachOf l).2 ≤ 100 := by
  obtain ⟨⟨a, ha, ea⟩, ⟨b, hb, eb⟩⟩ := least_mem h0
  obtain ⟨⟨c, hc, ec⟩, ⟨d, hd, ed⟩⟩ := reach_mem h0
  have h1 := ho a ha
  have h2 := ho b hb
  have h3 := ho c hc
  have h4 := ho d hd
  have h5 := least_le hc
  have h6 := least_le hd
  unfold okC ok1 at h1 h2 h3 h4
  omega
theorem l04_l1 (S : List Cell) (hS : small S) (W H y : Nat) (hW : W ≤ 1000) {r : ByteArray} : ∀ (n x : Nat) (acc : List Int), x + n = W → acc.length + n ≤ 10000000 →
    Ev (fun k => spec_l04Text.l0 k (W : Int) (H : Int) S (acc ++ (List.range' x n).map fun x => dotI S x y) (wrap64 ((y : Int) + 1))) r → Ev (fun k => spec_l04Text.l1 k (W : Int) (H : Int) S acc (y : Int) (x : Int)) r
  | 0, x, acc, hx, ha, hc => by
    refine Ev.succ ?_
    simp only [spec_l04Text.l1]
    refine Ev.neg (by omega) ?_
    simpa using hc
  | n + 1, x, acc, hx, ha, hc => by
    refine Ev.succ ?_
    have ih := l04_l1 S hS W H y hW (r := r) n (x + 1) (acc ++ [dotI S x y]) (by omega) (by rw [List.length_append, List.length_singleton]; omega) (by
      rw [List.range'_succ, List.map_cons] at hc
      rw [List.append_assoc]
      exact hc)
    rw [dotI_idx] at ih
    have e : wrap64 ((x : Int) + 1) = ((x + 1 : Nat) : Int) := by rw [w64 (by omega) (by omega)]; omega
    simp only [spec_l04Text.l1, e]
    refine Ev.pos (by omega) (Ev.bind (specIndex_ev S ⟨(x : Int), (y : Int)⟩ hS) ?_)
    by_cases h : idxC S ⟨(x : Int), (y : Int)⟩ ≥ 0
    · rw [if_pos h] at ih
      exact Ev.pos h (Ev.pos (by omega) ih)
    · rw [if_neg h] at ih
      exact Ev.neg h (Ev.pos (by omega) ih)
theorem l04_l0 (S : List Cell) (hS : small S) (W H : Nat) (hW : W ≤ 1000) (hH : H ≤ 1000) : ∀ (n y : Nat), y + n = H → Ev (fun k => spec_l04Text.l0 k (W : Int) (H : Int) S (textI S W y) (y : Int)) (strOfNums (textI S W H))
  | 0, y, hy => by
    refine Ev.succ ?_
    simp only [spec_l04Text.l0]
    refine Ev.neg (by omega) (Ev.of_eq (Ev.now _) ?_)
    rw [show y = H by omega]
  | n + 1, y, hy => by
    refine Ev.succ ?_
    have hl := textI_len S W y
    have hb : (W + 1) * y ≤ 1001 * 1000 := Nat.mul_le_mul (by omega) (by omega)
    have ih := l04_l0 S hS W H hW hH n (y + 1) (by omega)
    have e : wrap64 ((y : Int) + 1) = ((y + 1 : Nat) : Int) := by rw [w64 (by omega) (by omega)]; omega
    have hr : ((List.range' 0 W).map fun x => dotI S x y) = rowI S W y := by unfold rowI; rw [List.range_eq_range']
    have key : ∀ acc : List Int, acc ++ rowI S W y = textI S W (y + 1) → acc.length ≤ 2000000 → Ev (fun k => spec_l04Text.j1 k (W : Int) (H : Int) S acc (y : Int)) (strOfNums (textI S W H)) := by
      intro acc ha hal
      refine Ev.succ ?_
      simp only [spec_l04Text.j1]
      refine l04_l1 S hS W H y hW W 0 acc (by omega) (by omega) ?_
      rw [hr, ha, e]
      exact ih
    simp only [spec_l04Text.l0]
    refine Ev.pos (by omega) ?_
    by_cases h : 0 < y
    · exact Ev.pos (by omega) (Ev.pos (by omega) (key _ (by rw [textI, if_pos h]) (by rw [List.length_append, List.length_singleton]; omega)))
    · exact Ev.neg (by omega) (key _ (by rw [textI, if_neg h]) (by omega))
theorem specText_ev (l : List Cell) (hl : l.length ≤ 1048576) (h0 : l ≠ []) (ho : ∀ c ∈ l, okC c) : Ev (fun k => spec_l04Text.f k l) (textS l) := by
  have hb := box_ok h0 ho
  unfold spec_l04Text.f
  refine Ev.bind (specSize_ev l (by unfold small; omega) h0 ho) (Ev.bind (specNormal_ev l hl (List.length_pos_iff.2 h0)) ?_)
  have := l04_l0 (normalL l) (by unfold small; rw [normalL_len]; omega) (wideN l) (highN l) (by unfold wideN; omega) (by unfold highN; omega) (highN l) 0 (by omega)
  have e1 : (sizeOf_ l).1 = (wideN l : Int) := by unfold sizeOf_ wideN; simp only; omega
  have e2 : (sizeOf_ l).2 = (highN l : Int) := by unfold sizeOf_ highN; simp only; omega
  rw [e1, e2]
  exact this
theorem maxX_shift (a b : Int) : ∀ (l : List Cell) (z : Int), maxX (z - a) (l.map (shiftC a b)) = maxX z l - a
  | [], z => rfl
  | c :: r, z => by
    have e : mx (z - a) (c.f0 - a) = mx z c.f0 - a := by unfold mx; split <;> split <;> omega
    show maxX (mx (z - a) (c.f0 - a)) (r.map (shiftC a b)) = maxX (mx z c.f0) r - a
    rw [e, maxX_shift a b r]
theorem maxY_shift (a b : Int) : ∀ (l : List Cell) (z : Int), maxY (z - b) (l.map (shiftC a b)) = maxY z l - b
  | [], z => rfl
  | c :: r, z => by
    have e : mx (z - b) (c.f1 - b) = mx z c.f1 - b := by unfold mx; split <;> split <;> omega
    show maxY (mx (z - b) (c.f1 - b)) (r.map (shiftC a b)) = maxY (mx z c.f1) r - b
    rw [e, maxY_shift a b r]
theorem reach_shift {l : List Cell} (h0 : l ≠ []) (a b : Int) : reachOf (l.map (shiftC a b)) = ((reachOf l).1 - a, (reachOf l).2 - b) := by
  obtain ⟨c, r, rfl⟩ : ∃ c r, l = c :: r := by cases l with | nil => exact absurd rfl h0 | cons c r => exact ⟨c, r, rfl⟩
  exact Prod.ext (maxX_shift a b r c.f0) (maxY_shift a b r c.f1)
theorem join_text (S : List Cell) (W : Nat) : ∀ n, Lib.join ((txtL S W (n + 1)).map (·.data.toList)) [47] = (textI S W (n + 1)).map fun z => UInt8.ofNat z.toNat
  | 0 => by
    have e : txtL S W 1 = [strOfNums (rowI S W 0)] := rfl
    rw [e, List.map_singleton, Lib.join_one, strOfNums_data]
    rfl
  | n + 1 => by
    have ih := join_text S W n
    have e : ∀ m, txtL S W (m + 1) = txtL S W m ++ [strOfNums (rowI S W m)] := fun m => by unfold txtL; rw [List.range_succ, List.map_append]; rfl
    have hj : ∀ (xs : List (List UInt8)) (y : List UInt8), xs ≠ [] → Lib.join (xs ++ [y]) [47] = Lib.join xs [47] ++ [47] ++ y := by
      intro xs y hne
      obtain ⟨x, r, rfl⟩ : ∃ x r, xs = x :: r := by cases xs with | nil => exact absurd rfl hne | cons x r => exact ⟨x, r, rfl⟩
      rw [List.cons_append, Lib.join_cons, Lib.join_cons]
      unfold Lib.joinTail
      rw [List.map_append, List.flatten_append]
      simp
    have ht : textI S W (n + 1 + 1) = textI S W (n + 1) ++ [47] ++ rowI S W (n + 1) := by
      show (if 0 < n + 1 then textI S W (n + 1) ++ [47] else textI S W (n + 1)) ++ rowI S W (n + 1) = _
      rw [if_pos (Nat.succ_pos n)]
    rw [e (n + 1), List.map_append, List.map_singleton, hj _ _ (by rw [e n]; simp), ih, ht, strOfNums_data]
    simp
theorem implText_ev (l : List Cell) (hl : l.length ≤ 1000000) (h0 : l ≠ []) (ho : ∀ c ∈ l, okC c) : Ev (fun k => impl_shapeText.f k l) (textS l) := by
  have hb := box_ok h0 ho
  have hN := normalL_shift h0 ho
  have hn0 : normalL l ≠ [] := by rw [hN]; simpa using h0
  have hr : reachOf (normalL l) = ((reachOf l).1 - (leastOf l).1, (reachOf l).2 - (leastOf l).2) := by rw [hN, reach_shift h0]
  unfold impl_shapeText.f
  refine Ev.bind (implNormal_ev l (by omega) (List.length_pos_iff.2 h0)) (Ev.bind (implReach_ev (normalL l) (by unfold small; rw [normalL_len]; omega) (List.length_pos_iff.2 hn0)) ?_)
  rw [hr]
  refine Ev.pos ⟨⟨by rw [normalL_len]; exact hl, by simp only; omega, by simp only; omega, by simp only; omega, by simp only; omega⟩, ?_⟩ (Ev.of_eq (Ev.now _) ?_)
  · rw [List.all_eq_true]
    intro c hc
    rw [hN] at hc
    obtain ⟨d, hd, rfl⟩ := List.mem_map.1 hc
    have h1 := least_le hd
    have h2 := reach_ge hd
    unfold inBox shiftC
    rw [decide_eq_true_iff]
    simp only
    omega
  · unfold joinT textS textL
    have e1 : ((reachOf l).1 - (leastOf l).1).toNat + 1 = wideN l := by unfold wideN; omega
    have e2 : ((reachOf l).2 - (leastOf l).2).toNat + 1 = highN l := by unfold highN; omega
    simp only [e1, e2]
    obtain ⟨n, hn⟩ : ∃ n, highN l = n + 1 := ⟨highN l - 1, by unfold highN; omega⟩
    rw [hn, join_text]
    rfl
theorem sorted_le (x y : Cell) : (!Go.Proofs.ltOf cmpV y x) = decide (¬ ltC y x) := by
  rw [ltV]
  by_cases h : ltC y x
  · have h' : y.f1 < x.f1 ∨ y.f1 = x.f1 ∧ y.f0 < x.f0 := h
    simp [h, h']
  · have h' : ¬ (y.f1 < x.f1 ∨ y.f1 = x.f1 ∧ y.f0 < x.f0) := h
    simp only [h, h', decide_false]
    rfl
theorem sortC_perm (l : List Cell) : (sortC l).Perm l := List.mergeSort_perm _ _
theorem sortC_len (l : List Cell) : (sortC l).length = l.length := (sortC_perm l).length_eq
theorem sortC_sorted (l : List Cell) : (sortC l).Pairwise fun a b => ¬ ltC b a := by
  have := List.pairwise_mergeSort (le := fun x y : Cell => !Go.Proofs.ltOf cmpV y x) (fun a b c h1 h2 => by
    rw [sorted_le, decide_eq_true_eq] at *
    unfold ltC at *
    omega) (fun a b => by
    rw [sorted_le, sorted_le, Bool.or_eq_true, decide_eq_true_eq, decide_eq_true_eq]
    unfold ltC
    omega) l
  exact this.imp fun h => by rw [sorted_le, decide_eq_true_eq] at h; exact h
theorem eq_of_sorted : ∀ (l l' : List Cell), l.Perm l' → (l.Pairwise fun a b => ¬ ltC b a) → (l'.Pairwise fun a b => ¬ ltC b a) → l = l'
  | [], l', hp, _, _ => (List.Perm.nil_eq hp)
  | a :: r, [], hp, _, _ => absurd hp.symm (by simp)
  | a :: r, b :: s, hp, h1, h2 => by
    obtain ⟨h3, h4⟩ := List.pairwise_cons.1 h1
    obtain ⟨h5, h6⟩ := List.pairwise_cons.1 h2
    have hab : a = b := by
      have ha : a ∈ b :: s := hp.mem_iff.1 List.mem_cons_self
      have hb : b ∈ a :: r := hp.mem_iff.2 List.mem_cons_self
      have n1 : ¬ ltC b a := by
        rcases List.mem_cons.1 hb with e | e
        · rw [e]; unfold ltC; omega
        · exact h3 b e
      have n2 : ¬ ltC a b := by
        rcases List.mem_cons.1 ha with e | e
        · rw [e]; unfold ltC; omega
        · exact h5 a e
      obtain ⟨a0, a1⟩ := a
      obtain ⟨b0, b1⟩ := b
      unfold ltC at n1 n2
      simp only at n1 n2
      simp only [S82.mk.injEq]
      omega
    subst hab
    rw [eq_of_sorted r s (List.Perm.cons_inv hp) h4 h6]
theorem sortC_eq {l l' : List Cell} (hp : l'.Perm l) (hs : l'.Pairwise fun a b => ¬ ltC b a) : sortC l = l' :=
  eq_of_sorted _ _ ((sortC_perm l).trans hp.symm) (sortC_sorted l) hs
theorem implSorted_eq (l : List Cell) (h0 : 0 < l.length) (h1 : l.length ≤ 1000000000000) : impl_sorted.f l = some (sortC l) := by
  unfold impl_sorted.f impl_Cell_184.f impl_Cell_185__impl_compareCells.f
  rw [if_pos h1, Option.bind_some, if_pos ⟨h0, by omega⟩]
  rfl
theorem ltC_irrefl (a : Cell) : ¬ ltC a a := by unfold ltC; omega
theorem ltC_total {a b : Cell} (h : ¬ ltC a b) (h' : ¬ ltC b a) : a = b := by
  obtain ⟨a0, a1⟩ := a
  obtain ⟨b0, b1⟩ := b
  unfold ltC at *
  simp only [S82.mk.injEq]
  simp only at h h'
  omega
instance (priority := low) : DecidableEq Cell := fun a b => decidable_of_iff (sameC a b = true) sameC_iff
def formC (l : List Cell) (t : Int) : List Cell := normalL (sortC (l.map (turnD t)))
def cmpL : List Cell → List Cell → Int
  | [], _ => 0
  | _ :: _, [] => 0
  | a :: r, b :: s => if ltC a b then -1 else if ltC b a then 1 else cmpL r s
def cmpS (a b : List Cell) : Int := if a.length = b.length then cmpL a b else if a.length < b.length then -1 else 1
theorem cmpL_zero : ∀ (a b : List Cell), a.length = b.length → (cmpL a b = 0 ↔ a = b)
  | [], b, h => by
    have : b = [] := List.length_eq_zero_iff.1 h.symm
    simp [cmpL, this]
  | a :: r, [], h => by simp at h
  | a :: r, b :: s, h => by
    unfold cmpL
    by_cases h1 : ltC a b
    · rw [if_pos h1]
      have : a ≠ b := fun e => ltC_irrefl b (e ▸ h1)
      simp [this]
    · rw [if_neg h1]
      by_cases h2 : ltC b a
      · rw [if_pos h2]
        have : a ≠ b := fun e => ltC_irrefl b (e ▸ h2)
        simp [this]
      · rw [if_neg h2, cmpL_zero r s (by simpa using h)]
        simp [ltC_total h1 h2]
theorem cmpS_zero (a b : List Cell) : cmpS a b = 0 ↔ a = b := by
  unfold cmpS
  by_cases h : a.length = b.length
  · rw [if_pos h]; exact cmpL_zero a b h
  · rw [if_neg h]
    have : a ≠ b := fun e => h (by rw [e])
    split <;> simp [this]
theorem specCompare_ev (a b : List Cell) (ha : small a) : Ev (fun k => spec_CompareShapes.f k a b) (cmpS a b) := by
  unfold spec_CompareShapes.f cmpS
  by_cases hl : a.length = b.length
  · rw [if_pos hl]
    refine Ev.pos (by omega) ?_
    refine loop_list a (fun k i (_ : Unit) => spec_CompareShapes.l0 k a b i) (fun pre suf _ => cmpL suf (b.drop pre.length)) (fun _ _ => True) ?_ ?_ () trivial
    · intro _ _
      simp only [spec_CompareShapes.l0, len_lt, if_false]
      exact Ev.of_eq (Ev.now _) (by simp [cmpL])
    · intro pre c suf _ hx _ ih
      have hp := pre_len hx
      have hpb : pre.length < b.length := by omega
      have hlt : ((pre.length : Int) < (b.length : Int)) = True := by simp; omega
      have eb : rd_T82 b (pre.length : Int) = b[pre.length] := by
        unfold rd_T82
        rw [List.getD_eq_getElem?_getD, Int.toNat_natCast, List.getElem?_eq_getElem hpb]
        rfl
      simp only [spec_CompareShapes.l0, pre_lt hx, pre_0, if_true, hlt, at_pre hx, pre_w hx ha, eb, l02Less_eq, Option.bind_some]
      rw [List.drop_eq_getElem_cons hpb, cmpL]
      have hih := ih () trivial
      rw [List.length_append, List.length_singleton] at hih
      generalize b.drop (pre.length + 1) = R at hih ⊢
      generalize b[pre.length] = d at hih ⊢
      by_cases h1 : ltC c d
      · have h1' : c.f1 < d.f1 ∨ c.f1 = d.f1 ∧ c.f0 < d.f0 := h1
        rw [if_pos h1]
        exact Ev.pos (by simpa using h1') (Ev.now _)
      · have h1' : ¬ (c.f1 < d.f1 ∨ c.f1 = d.f1 ∧ c.f0 < d.f0) := h1
        rw [if_neg h1]
        refine Ev.neg (by simpa using h1') ?_
        by_cases h2 : ltC d c
        · have h2' : d.f1 < c.f1 ∨ d.f1 = c.f1 ∧ d.f0 < c.f0 := h2
          rw [if_pos h2]
          exact Ev.pos (by simpa using h2') (Ev.now _)
        · have h2' : ¬ (d.f1 < c.f1 ∨ d.f1 = c.f1 ∧ d.f0 < c.f0) := h2
          rw [if_neg h2]
          exact Ev.neg (by simpa using h2') hih
  · rw [if_neg hl]
    refine Ev.neg (by omega) ?_
    by_cases h : a.length < b.length
    · rw [if_pos h]; exact Ev.pos (by omega) (Ev.now _)
    · rw [if_neg h]; exact Ev.neg (by omega) (Ev.now _)
theorem at_preL2 {xs pre suf : List (List Cell)} {c : List Cell} (h : xs = pre ++ c :: suf) : rd_L2 xs (pre.length : Int) = c := by
  subst h; exact getD_at pre suf c _
theorem cmpV_ltC (a b : Cell) : cmpV a b = if ltC a b then -1 else if ltC b a then 1 else 0 := by
  unfold cmpV cI ltC
  repeat' split
  all_goals omega
theorem ordL_eq : ∀ a b : List Cell, ordL a b = cmpL a b
  | [], _ => by simp [ordL, cmpL]
  | _ :: _, [] => by simp [ordL, cmpL]
  | a :: r, b :: s => by
    unfold ordL cmpL
    rw [cmpV_ltC, ordL_eq r s]
    by_cases h1 : ltC a b
    · rw [if_pos h1, if_pos h1, if_neg (by omega)]
    · rw [if_neg h1, if_neg h1]
      by_cases h2 : ltC b a
      · rw [if_pos h2, if_pos h2, if_neg (by omega)]
      · rw [if_neg h2, if_neg h2, if_pos rfl]
theorem ordS_eq (a b : List Cell) : ordS a b = cmpS a b := by unfold ordS cmpS; rw [ordL_eq]
theorem cmpS_self (a : List Cell) : cmpS a a = 0 := (cmpS_zero a a).2 rfl
theorem cmpS_anti (a b : List Cell) : cmpS b a = -cmpS a b := by rw [← ordS_eq, ← ordS_eq]; exact ordS_anti a b
theorem cmpS_trans {a b c : List Cell} (h1 : cmpS a b ≤ 0) (h2 : cmpS b c ≤ 0) : cmpS a c ≤ 0 := by
  rw [← ordS_eq] at *
  exact ordS_trans h1 h2
theorem cmpS_lt_trans {a b c : List Cell} (h1 : cmpS a b < 0) (h2 : cmpS b c < 0) : cmpS a c < 0 := by
  have h3 := cmpS_trans (a := a) (b := b) (c := c) (by omega) (by omega)
  by_cases e : cmpS a c = 0
  · have := (cmpS_zero a c).1 e
    subst this
    have := cmpS_anti a b
    omega
  · omega
def asc (l : List (List Cell)) : Prop := l.Pairwise fun a b => cmpS a b < 0
theorem asc_eq : ∀ (a b : List (List Cell)), asc a → asc b → (∀ x, x ∈ a ↔ x ∈ b) → a = b
  | [], [], _, _, _ => rfl
  | [], b :: s, _, _, h => absurd ((h b).2 List.mem_cons_self) (by simp)
  | a :: r, [], _, _, h => absurd ((h a).1 List.mem_cons_self) (by simp)
  | a :: r, b :: s, ha, hb, h => by
    obtain ⟨h1, h2⟩ := List.pairwise_cons.1 ha
    obtain ⟨h3, h4⟩ := List.pairwise_cons.1 hb
    have e : a = b := by
      rcases List.mem_cons.1 ((h a).1 List.mem_cons_self) with e | e
      · exact e
      · rcases List.mem_cons.1 ((h b).2 List.mem_cons_self) with e' | e'
        · exact e'.symm
        · have := h1 b e'
          have := h3 a e
          have := cmpS_anti a b
          omega
    subst e
    congr 1
    refine asc_eq r s h2 h4 fun x => ⟨fun hx => ?_, fun hx => ?_⟩
    · rcases List.mem_cons.1 ((h x).1 (List.mem_cons_of_mem _ hx)) with e | e
      · have := h1 x hx
        rw [e, cmpS_self] at this
        omega
      · exact e
    · rcases List.mem_cons.1 ((h x).2 (List.mem_cons_of_mem _ hx)) with e | e
      · have := h3 x hx
        rw [e, cmpS_self] at this
        omega
      · exact e
theorem sortS_sorted (l : List (List Cell)) : (sortS l).Pairwise fun a b => cmpS a b ≤ 0 := by
  have := List.pairwise_mergeSort (le := fun x y : List Cell => !Go.Proofs.ltOf ordS y x) (fun a b c h1 h2 => by
    simp only [Bool.not_eq_true'] at *
    exact swoS.ntrans c b a h2 h1) (fun a b => by
    rw [Bool.or_eq_true]
    by_cases e : Go.Proofs.ltOf ordS b a = true
    · right
      simp only [Bool.not_eq_true']
      rw [ltS_iff]
      unfold Go.Proofs.ltOf at e
      rw [decide_eq_true_eq] at e
      rw [ordS_anti]
      omega
    · left
      simpa using e) l
  refine this.imp fun {a b} h => ?_
  simp only [Bool.not_eq_true'] at h
  rw [ltS_iff, ordS_eq] at h
  have := cmpS_anti a b
  omega
theorem sortS_mem {l : List (List Cell)} {x : List Cell} : x ∈ sortS l ↔ x ∈ l := (List.mergeSort_perm _ _).mem_iff
theorem compG_mem {β : Type} [DecidableEq β] : ∀ (l : List β) (p x : β), x ∈ compG p l ∨ x = p ↔ x ∈ l ∨ x = p
  | [], p, x => by simp [compG]
  | a :: r, p, x => by
    have ih := compG_mem r a x
    rw [compG]
    by_cases h : a = p
    · subst h
      rw [if_pos rfl, ih, List.mem_cons]
      constructor
      · rintro (h1 | h1)
        · exact .inl (.inr h1)
        · exact .inr h1
      · rintro ((h1 | h1) | h1)
        · exact .inr h1
        · exact .inl h1
        · exact .inr h1
    · rw [if_neg h, List.mem_cons, List.mem_cons]
      constructor
      · rintro ((h1 | h1) | h1)
        · exact .inl (.inl h1)
        · rcases ih.1 (.inl h1) with h2 | h2
          · exact .inl (.inr h2)
          · exact .inl (.inl h2)
        · exact .inr h1
      · rintro ((h1 | h1) | h1)
        · exact .inl (.inl h1)
        · rcases ih.2 (.inl h1) with h2 | h2
          · exact .inl (.inr h2)
          · exact .inl (.inl h2)
        · exact .inr h1
theorem compF_mem {β : Type} [DecidableEq β] {l : List β} {x : β} : x ∈ compF l ↔ x ∈ l := by
  cases l with
  | nil => simp [compF]
  | cons a r =>
    have := compG_mem r a x
    rw [compF, List.mem_cons, List.mem_cons]
    constructor
    · rintro (h | h)
      · exact .inl h
      · rcases this.1 (.inl h) with h | h
        · exact .inr h
        · exact .inl h
    · rintro (h | h)
      · exact .inl h
      · rcases this.2 (.inl h) with h | h
        · exact .inr h
        · exact .inl h
theorem compG_asc : ∀ (l : List (List Cell)) (p : List Cell), (p :: l).Pairwise (fun a b => cmpS a b ≤ 0) → asc (p :: compG p l)
  | [], p, _ => by simp [compG, asc]
  | a :: r, p, h => by
    obtain ⟨h1, h2⟩ := List.pairwise_cons.1 h
    have ih := compG_asc r a h2
    rw [compG]
    by_cases e : a = p
    · subst e
      rw [if_pos rfl]
      exact ih
    · rw [if_neg e]
      have hpa : cmpS p a < 0 := by
        have := h1 a List.mem_cons_self
        have hne : cmpS p a ≠ 0 := fun h => e ((cmpS_zero p a).1 h).symm
        omega
      refine List.pairwise_cons.2 ⟨fun b hb => ?_, ih⟩
      rcases List.mem_cons.1 hb with rfl | hb
      · exact hpa
      · exact cmpS_lt_trans hpa ((List.pairwise_cons.1 ih).1 b hb)
theorem compF_asc {l : List (List Cell)} (h : l.Pairwise fun a b => cmpS a b ≤ 0) : asc (compF l) := by
  cases l with
  | nil => exact List.Pairwise.nil
  | cons a r => rw [compF]; exact compG_asc r a h
def tidyL (l : List (List Cell)) : List (List Cell) := compF (sortS l)
theorem tidyL_mem {l : List (List Cell)} {x : List Cell} : x ∈ tidyL l ↔ x ∈ l := compF_mem.trans sortS_mem
theorem tidyL_asc (l : List (List Cell)) : asc (tidyL l) := compF_asc (sortS_sorted l)
theorem tidyL_len (l : List (List Cell)) : (tidyL l).length ≤ l.length := by
  refine Nat.le_trans (compF_len _) (Nat.le_of_eq ?_)
  exact (List.mergeSort_perm _ _).length_eq
theorem implTidy_eq (l : List (List Cell)) (h0 : 0 < l.length) (h1 : l.length < 4611686018427387904) : impl_tidyShapes.f l = some (tidyL l) := by
  unfold impl_tidyShapes.f
  rw [if_pos ⟨h0, h1⟩]
  rfl
def insS (x : List Cell) : List (List Cell) → List (List Cell)
  | [] => [x]
  | a :: r => if cmpS x a < 0 then x :: a :: r else a :: insS x r
theorem insS_mem (x : List Cell) : ∀ (l : List (List Cell)) (y : List Cell), y ∈ insS x l ↔ y = x ∨ y ∈ l
  | [], y => by simp [insS]
  | a :: r, y => by
    unfold insS
    split
    · simp
    · rw [List.mem_cons, insS_mem x r y, List.mem_cons]
      constructor
      · rintro (h | h | h)
        · exact .inr (.inl h)
        · exact .inl h
        · exact .inr (.inr h)
      · rintro (h | h | h)
        · exact .inr (.inl h)
        · exact .inl h
        · exact .inr (.inr h)
theorem insS_len (x : List Cell) : ∀ l : List (List Cell), (insS x l).length = l.length + 1
  | [] => rfl
  | a :: r => by unfold insS; split <;> simp [insS_len x r]
theorem insS_asc (x : List Cell) : ∀ l : List (List Cell), asc l → x ∉ l → asc (insS x l)
  | [], _, _ => by simp [insS, asc]
  | a :: r, h, hx => by
    obtain ⟨h1, h2⟩ := List.pairwise_cons.1 h
    unfold insS
    split
    · rename_i hc
      refine List.pairwise_cons.2 ⟨fun b hb => ?_, h⟩
      rcases List.mem_cons.1 hb with rfl | hb
      · exact hc
      · exact cmpS_lt_trans hc (h1 b hb)
    · rename_i hc
      refine List.pairwise_cons.2 ⟨fun b hb => ?_, insS_asc x r h2 (fun e => hx (List.mem_cons_of_mem _ e))⟩
      rcases (insS_mem x r b).1 hb with rfl | hb
      · have h3 : cmpS b a ≠ 0 := fun e => hx (by rw [(cmpS_zero b a).1 e]; exact List.mem_cons_self)
        have := cmpS_anti b a
        omega
      · exact h1 b hb
def addL (l : List (List Cell)) (x : List Cell) : List (List Cell) := if x ∈ l then l else insS x l
theorem addL_mem {l : List (List Cell)} {x y : List Cell} : y ∈ addL l x ↔ y = x ∨ y ∈ l := by
  unfold addL
  by_cases h : x ∈ l
  · rw [if_pos h]
    exact ⟨.inr, fun h' => h'.elim (fun e => e ▸ h) id⟩
  · rw [if_neg h]
    exact insS_mem x l y
theorem addL_asc {l : List (List Cell)} {x : List Cell} (h : asc l) : asc (addL l x) := by
  unfold addL
  by_cases hx : x ∈ l
  · rw [if_pos hx]; exact h
  · rw [if_neg hx]; exact insS_asc x l h hx
theorem addL_len (l : List (List Cell)) (x : List Cell) : (addL l x).length ≤ l.length + 1 := by
  unfold addL
  split
  · omega
  · rw [insS_len]; exact Nat.le_refl _
theorem specAdd_ev (l : List (List Cell)) (x : List Cell) (hl : l.length ≤ 1000000000) (hx_ : small x) : Ev (fun k => spec_l03Add.f k l x) (addL l x) := by
  have hs : small l := by unfold small; omega
  unfold spec_l03Add.f
  have key := loop_list l (fun k i (s : List (List Cell) × Bool) => spec_l03Add.l0 k l x s.1 s.2 i) (fun pre suf s => if x ∈ suf then l else if s.2 = true then s.1 ++ suf else s.1 ++ insS x suf) (fun pre s => s.1.length ≤ pre.length + 1 ∧ (s.2 = false → s.1.length ≤ pre.length)) ?_ ?_ ([], false) ⟨by simp, fun _ => by simp⟩
  · refine Ev.of_eq key ?_
    simp [addL]
  · rintro ⟨s, b⟩ ⟨hi, hj⟩
    simp only at hi hj
    simp only [spec_l03Add.l0, len_lt, if_false]
    cases b
    · refine Ev.neg (by simp) (Ev.pos (by omega) (Ev.of_eq (Ev.now _) ?_))
      simp [insS]
    · refine Ev.pos rfl (Ev.of_eq (Ev.now _) ?_)
      simp
  · rintro pre c suf ⟨s, b⟩ hx ⟨hi, hj⟩ ih
    have hp := pre_len hx
    simp only at hi hj
    simp only [spec_l03Add.l0, pre_lt hx, pre_0, if_true, at_preL2 hx, pre_w hx hs]
    refine Ev.bind (specCompare_ev x c hx_) ?_
    by_cases h0 : cmpS x c = 0
    · have e := (cmpS_zero x c).1 h0
      refine Ev.pos h0 (Ev.of_eq (Ev.now _) ?_)
      simp [e]
    · have hne : x ≠ c := fun e => h0 ((cmpS_zero x c).2 e)
      refine Ev.neg h0 ?_
      by_cases h1 : cmpS x c < 0
      · refine Ev.pos h1 ?_
        cases b
        · refine Ev.neg (by simp) (Ev.pos (by omega) ?_)
          have hj' := hj rfl
          refine Ev.pos (by simp; omega) (Ev.of_eq (ih ((s ++ [x]) ++ [c], true) ⟨by simp; omega, fun h => by cases h⟩) ?_)
          simp [insS, h1, hne]
        · refine Ev.pos rfl (Ev.pos (by omega) (Ev.of_eq (ih (s ++ [c], true) ⟨by simp; omega, fun h => by cases h⟩) ?_))
          simp [hne]
      · refine Ev.neg h1 (Ev.pos (by omega) (Ev.of_eq (ih (s ++ [c], b) ⟨by simp; omega, fun h => by have := hj h; simp; omega⟩) ?_))
        cases b
        · simp [insS, h1, hne]
        · simp [hne]
def insC (c : Cell) : List Cell → List Cell
  | [] => [c]
  | a :: r => if ltC c a then c :: a :: r else a :: insC c r
theorem insC_perm (c : Cell) : ∀ l : List Cell, (insC c l).Perm (c :: l)
  | [] => List.Perm.refl _
  | a :: r => by
    unfold insC
    split
    · exact List.Perm.refl _
    · exact ((insC_perm c r).cons a).trans (List.Perm.swap c a r)
theorem insC_sorted (c : Cell) : ∀ l : List Cell, (l.Pairwise fun a b => ¬ ltC b a) → (insC c l).Pairwise fun a b => ¬ ltC b a
  | [], _ => by simp [insC]
  | a :: r, h => by
    obtain ⟨h1, h2⟩ := List.pairwise_cons.1 h
    unfold insC
    split
    · rename_i hc
      refine List.pairwise_cons.2 ⟨fun b hb => ?_, h⟩
      rcases List.mem_cons.1 hb with rfl | hb
      · unfold ltC at *; omega
      · have := h1 b hb
        unfold ltC at *; omega
    · rename_i hc
      refine List.pairwise_cons.2 ⟨fun b hb => ?_, insC_sorted c r h2⟩
      rcases List.mem_cons.1 ((insC_perm c r).mem_iff.1 hb) with rfl | hb
      · exact hc
      · exact h1 b hb
theorem specInsert_ev (l : List Cell) (c : Cell) (hl : l.length ≤ 1048576) : Ev (fun k => spec_l02Insert.f k l c.f0 c.f1) (insC c l) := by
  have hs : small l := by unfold small; omega
  unfold spec_l02Insert.f
  have := loop_list l (fun k i (s : List Cell × Bool) => spec_l02Insert.l0 k l s.1 s.2 i c.f0 c.f1) (fun pre suf s => if s.2 = true then s.1 ++ suf else s.1 ++ insC c suf) (fun pre s => s.1.length ≤ pre.length + 1 ∧ (s.2 = false → s.1.length = pre.length)) ?_ ?_ ([], false) ⟨by simp, fun _ => rfl⟩
  · simpa using this
  · rintro ⟨s, b⟩ ⟨h1, h2⟩
    simp only at h1 h2
    simp only [spec_l02Insert.l0, len_lt, if_false]
    cases b
    · refine Ev.neg (by simp) (Ev.pos (by omega) (Ev.of_eq (Ev.now _) ?_))
      simp [insC]
    · refine Ev.pos rfl (Ev.of_eq (Ev.now _) ?_)
      simp
  · rintro pre d suf ⟨s, b⟩ hx ⟨h1, h2⟩ ih
    have hp := pre_len hx
    simp only at h1 h2
    simp only [spec_l02Insert.l0, pre_lt hx, pre_0, if_true, at_pre hx, pre_w hx hs]
    cases b
    · refine Ev.neg (by simp) ?_
      simp only [l02Less_eq, Option.bind_some]
      have h2' := h2 rfl
      by_cases hd : ltC c d
      · have hd' : c.f1 < d.f1 ∨ c.f1 = d.f1 ∧ c.f0 < d.f0 := hd
        refine Ev.pos (by simpa using hd') (Ev.pos (by omega) ?_)
        refine Ev.pos (by simp; omega) (Ev.of_eq (ih ((s ++ [(⟨c.f0, c.f1⟩ : Cell)]) ++ [(⟨d.f0, d.f1⟩ : Cell)], true) ⟨by simp; omega, fun h => by cases h⟩) ?_)
        simp [insC, hd]
      · have hd' : ¬ (c.f1 < d.f1 ∨ c.f1 = d.f1 ∧ c.f0 < d.f0) := hd
        refine Ev.neg (by simpa using hd') (Ev.pos (by omega) (Ev.of_eq (ih (s ++ [(⟨d.f0, d.f1⟩ : Cell)], false) ⟨by simp; omega, fun _ => by simp; omega⟩) ?_))
        simp [insC, hd]
    · refine Ev.pos rfl (Ev.pos (by omega) (Ev.of_eq (ih (s ++ [(⟨d.f0, d.f1⟩ : Cell)], true) ⟨by simp; omega, fun h => by cases h⟩) ?_))
      simp
def insAll : List Cell → List Cell → List Cell
  | acc, [] => acc
  | acc, c :: r => insAll (insC c acc) r
theorem insAll_spec : ∀ (l acc : List Cell), (acc.Pairwise fun a b => ¬ ltC b a) → (insAll acc l).Perm (acc ++ l) ∧ (insAll acc l).Pairwise fun a b => ¬ ltC b a
  | [], acc, h => ⟨by simp [insAll], h⟩
  | c :: r, acc, h => by
    obtain ⟨h1, h2⟩ := insAll_spec r (insC c acc) (insC_sorted c acc h)
    refine ⟨h1.trans ?_, h2⟩
    refine ((insC_perm c acc).append_right r).trans ?_
    exact List.perm_middle.symm
theorem specSortI_ev (l : List Cell) (hl : l.length ≤ 1048576) : Ev (fun k => spec_l02Sort.f k l) (insAll [] l) := by
  have hs : small l := by unfold small; omega
  unfold spec_l02Sort.f
  refine loop_list l (fun k i (s : List Cell) => spec_l02Sort.l0 k l s i) (fun pre suf s => insAll s suf) (fun pre s => s.length = pre.length) ?_ ?_ [] rfl
  · intro s _
    simp only [spec_l02Sort.l0, len_lt, if_false]
    exact Ev.now _
  · intro pre c suf s hx hi ih
    have hp := pre_len hx
    simp only [spec_l02Sort.l0, pre_lt hx, pre_0, if_true, at_pre hx, pre_w hx hs]
    refine Ev.bind (specInsert_ev s c (by omega)) (ih _ ?_)
    rw [(insC_perm c s).length_eq]
    simp [hi]
theorem insAll_eq (l : List Cell) : insAll [] l = sortC l := by
  obtain ⟨h1, h2⟩ := insAll_spec l [] List.Pairwise.nil
  exact (sortC_eq (by simpa using h1) h2).symm
theorem specSort_ev (l : List Cell) (hl : l.length ≤ 1048576) : Ev (fun k => spec_l02Sort.f k l) (sortC l) := by
  rw [← insAll_eq]
  exact specSortI_ev l hl
theorem formC_len (l : List Cell) (t : Int) : (formC l t).length = l.length := by unfold formC; rw [normalL_len, sortC_len]; simp
theorem implForm8_ev (l : List Cell) (t : Int) (ht : 0 ≤ t) (hl : l.length ≤ 1048576) (h0 : 0 < l.length) : Ev (fun k => impl_form.f k l t) (formC l t) := by
  have hs : small l := by unfold small; omega
  unfold impl_form.f formC
  refine Ev.pos (by omega) (Ev.pos (by omega) ?_)
  have := loop_list l (fun k i (s : List Cell) => impl_form.l0 k t s l (l.length : Int) i) (fun pre suf s => normalL (sortC (s ++ suf.map (turnD t)))) (fun pre s => s.length = pre.length) ?_ ?_ [] rfl
  · simpa using this
  · intro s hi
    have hi' : s.length = l.length := hi
    simp only [impl_form.l0, len_lt, if_false, implSorted_eq s (by omega) (by omega), Option.bind_some]
    exact Ev.bind (implNormal_ev _ (by rw [sortC_len]; omega) (by rw [sortC_len]; omega)) (Ev.of_eq (Ev.now _) (by simp))
  · intro pre c suf s hx hi ih
    have hp := pre_len hx
    simp only [impl_form.l0, pre_lt hx, pre_0, if_true, at_pre hx, pre_w hx hs]
    refine Ev.bind (implTurn_ev c t ht) (Ev.pos (by omega) (Ev.of_eq (ih (s ++ [turnD t c]) (by simp [hi])) (by simp)))
theorem specForm8_ev (l : List Cell) (t : Int) (ht : 0 ≤ t) (hl : l.length ≤ 1048576) (h0 : 0 < l.length) : Ev (fun k => spec_l03Form.f k l t) (formC l t) := by
  have hs : small l := by unfold small; omega
  unfold spec_l03Form.f formC
  have := loop_list l (fun k i (s : List Cell) => spec_l03Form.l0 k l t s i) (fun pre suf s => normalL (sortC (s ++ suf.map (turnD t)))) (fun pre s => s.length = pre.length) ?_ ?_ [] rfl
  · simpa using this
  · intro s hi
    have hi' : s.length = l.length := hi
    simp only [spec_l03Form.l0, len_lt, if_false]
    exact Ev.bind (specSort_ev s (by omega)) (Ev.bind (specNormal_ev _ (by rw [sortC_len]; omega) (by rw [sortC_len]; omega)) (Ev.of_eq (Ev.now _) (by simp)))
  · intro pre c suf s hx hi ih
    have hp := pre_len hx
    simp only [spec_l03Form.l0, pre_lt hx, pre_0, if_true, at_pre hx, pre_w hx hs]
    refine Ev.bind (specTurn_ev c t ht) (Ev.pos (by omega) (Ev.of_eq (ih (s ++ [turnD t c]) (by simp [hi])) (by simp)))
def formsC (l : List Cell) : Nat → Int → List (List Cell)
  | 0, _ => []
  | n + 1, t => formC l t :: formsC l n (t + 1)
theorem formsC_len (l : List Cell) : ∀ (n : Nat) (t : Int), (formsC l n t).length = n
  | 0, _ => rfl
  | n + 1, t => by unfold formsC; rw [List.length_cons, formsC_len l n]
theorem formsC_mem (l : List Cell) : ∀ (n : Nat) (t : Int), ∀ x ∈ formsC l n t, x.length = l.length
  | 0, _, x, h => by simp [formsC] at h
  | n + 1, t, x, h => by
    unfold formsC at h
    rcases List.mem_cons.1 h with rfl | h
    · exact formC_len l t
    · exact formsC_mem l n _ x h
theorem implForms8_l (l : List Cell) (m : Int) (hm : m ≤ 8) (hl : l.length ≤ 1048576) (h0 : 0 < l.length) : ∀ (n : Nat) (t : Int) (acc : List (List Cell)), 0 ≤ t → t + (n : Int) = m → acc.length + n ≤ 8 → Ev (fun k => impl_forms.l0 k l acc m t) (acc ++ formsC l n t)
  | 0, t, acc, h1, h2, h3 => by
    refine Ev.succ ?_
    simp only [impl_forms.l0]
    exact Ev.neg (by omega) (Ev.of_eq (Ev.now _) (by simp [formsC]))
  | n + 1, t, acc, h1, h2, h3 => by
    refine Ev.succ ?_
    simp only [impl_forms.l0]
    have ew : wrap64 (t + 1) = t + 1 := w64 (by omega) (by omega)
    refine Ev.pos (by omega) (Ev.bind (implForm8_ev l t h1 hl h0) (Ev.pos (by omega) ?_))
    simp only [ew]
    refine Ev.of_eq (implForms8_l l m hm hl h0 n (t + 1) (acc ++ [formC l t]) (by omega) (by omega) (by simp; omega)) ?_
    simp [formsC]
def addsC : List (List Cell) → List (List Cell) → List (List Cell)
  | acc, [] => acc
  | acc, x :: r => addsC (addL acc x) r
theorem addsC_mem {y : List Cell} : ∀ (r acc : List (List Cell)), y ∈ addsC acc r ↔ y ∈ acc ∨ y ∈ r
  | [], acc => by simp [addsC]
  | x :: r, acc => by
    rw [addsC, addsC_mem r, addL_mem, List.mem_cons]
    constructor
    · rintro ((h | h) | h)
      · exact .inr (.inl h)
      · exact .inl h
      · exact .inr (.inr h)
    · rintro (h | h | h)
      · exact .inl (.inr h)
      · exact .inl (.inl h)
      · exact .inr h
theorem addsC_asc : ∀ (r acc : List (List Cell)), asc acc → asc (addsC acc r)
  | [], acc, h => h
  | x :: r, acc, h => addsC_asc r _ (addL_asc h)
theorem specForms8_l (l : List Cell) (m : Int) (hm : m ≤ 8) (hl : l.length ≤ 1048576) (h0 : 0 < l.length) : ∀ (n : Nat) (t : Int) (acc : List (List Cell)), 0 ≤ t → t + (n : Int) = m → acc.length + n ≤ 8 → Ev (fun k => spec_l03Forms.l0 k l m acc t) (addsC acc (formsC l n t))
  | 0, t, acc, h1, h2, h3 => by
    refine Ev.succ ?_
    simp only [spec_l03Forms.l0]
    exact Ev.neg (by omega) (Ev.of_eq (Ev.now _) (by simp [formsC, addsC]))
  | n + 1, t, acc, h1, h2, h3 => by
    refine Ev.succ ?_
    simp only [spec_l03Forms.l0]
    have ew : wrap64 (t + 1) = t + 1 := w64 (by omega) (by omega)
    have hs : small (formC l t) := by unfold small; rw [formC_len]; omega
    refine Ev.pos (by omega) (Ev.bind (specForm8_ev l t h1 hl h0) (Ev.bind (specAdd_ev acc _ (by omega) hs) ?_))
    simp only [ew]
    have := addL_len acc (formC l t)
    exact specForms8_l l m hm hl h0 n (t + 1) _ (by omega) (by omega) (by omega)
def pieceF (l : List Cell) (b : Bool) : List (List Cell) := tidyL (formsC l (if b = true then 8 else 4) 0)
theorem pieceF_mem {l : List Cell} {b : Bool} : ∀ x ∈ pieceF l b, x.length = l.length := fun x hx => formsC_mem l _ _ x (tidyL_mem.1 hx)
theorem pieceF_len (l : List Cell) (b : Bool) : (pieceF l b).length ≤ 8 := by
  refine Nat.le_trans (tidyL_len _) ?_
  rw [formsC_len]
  split <;> omega
theorem implPieceF_ev (l : List Cell) (n : Int) (b : Bool) (hl : l.length ≤ 1048576) (h0 : 0 < l.length) : Ev (fun k => impl_formsOf.f k l n b) (pieceF l b) := by
  unfold impl_formsOf.f pieceF
  have key (m : Nat) (hm : m ≤ 8) (hm1 : 1 ≤ m) : Ev (fun k => (impl_forms.f k l (m : Int)).bind fun t => (impl_tidyShapes.f t).bind fun s => some s) (tidyL (formsC l m 0)) := by
    have h1 : Ev (fun k => impl_forms.f k l (m : Int)) (formsC l m 0) := by
      unfold impl_forms.f
      exact Ev.of_eq (implForms8_l l m (by omega) hl h0 m 0 [] (by omega) (by omega) (by simp; omega)) (by simp)
    refine Ev.bind h1 ?_
    rw [implTidy_eq _ (by rw [formsC_len]; omega) (by rw [formsC_len]; omega)]
    exact Ev.now _
  cases b with
  | true => exact Ev.pos rfl (key 8 (by omega) (by omega))
  | false => exact Ev.neg (by simp) (key 4 (by omega) (by omega))
theorem specPieceF_ev (l : List Cell) (n : Int) (b : Bool) (hl : l.length ≤ 1048576) (h0 : 0 < l.length) : Ev (fun k => spec_l11Forms.f k l n b) (pieceF l b) := by
  unfold spec_l11Forms.f pieceF
  have key (m : Nat) (hm : m ≤ 8) (hm1 : 1 ≤ m) : Ev (fun k => (spec_l03Forms.f k l (m : Int)).bind fun t => some t) (tidyL (formsC l m 0)) := by
    have h1 : Ev (fun k => spec_l03Forms.f k l (m : Int)) (addsC [] (formsC l m 0)) := by
      unfold spec_l03Forms.f
      exact specForms8_l l m (by omega) hl h0 m 0 [] (by omega) (by omega) (by simp; omega)
    have e : addsC [] (formsC l m 0) = tidyL (formsC l m 0) := by
      refine asc_eq _ _ (addsC_asc _ _ List.Pairwise.nil) (tidyL_asc _) fun x => ?_
      rw [addsC_mem, tidyL_mem]
      simp
    rw [e] at h1
    exact Ev.bind h1 (Ev.now _)
  cases b with
  | true => exact Ev.pos rfl (key 8 (by omega) (by omega))
  | false => exact Ev.neg (by simp) (key 4 (by omega) (by omega))
theorem equalC_ev (a b : List Cell) (ha : small a) : Ev (fun k => impl_Cell_82.f k a b) (decide (a = b)) := by
  unfold impl_Cell_82.f
  by_cases hl : a.length = b.length
  · refine Ev.pos (by omega) ?_
    refine loop_list a (fun k i (_ : Unit) => impl_Cell_82.l0 k a b (a.length : Int) i) (fun pre suf _ => decide (suf = b.drop pre.length)) (fun _ _ => True) ?_ ?_ () trivial
    · intro _ _
      simp only [impl_Cell_82.l0, len_lt, if_false]
      refine Ev.of_eq (Ev.now _) ?_
      rw [hl, List.drop_length]
      simp
    · intro pre c suf _ hx _ ih
      have hp := pre_len hx
      have hpb : pre.length < b.length := by omega
      have hlt : ((pre.length : Int) < (b.length : Int)) = True := by simp; omega
      have eb : rd_T82 b (pre.length : Int) = b[pre.length] := by
        unfold rd_T82
        rw [List.getD_eq_getElem?_getD, Int.toNat_natCast, List.getElem?_eq_getElem hpb]
        rfl
      simp only [impl_Cell_82.l0, pre_lt hx, pre_0, if_true, hlt, at_pre hx, pre_w hx ha, eb]
      rw [List.drop_eq_getElem_cons hpb]
      by_cases he : c = b[pre.length]
      · refine Ev.neg (by rw [← he]; simp) (Ev.of_eq (ih () trivial) ?_)
        rw [List.length_append, List.length_singleton]
        generalize b.drop (pre.length + 1) = R
        rw [← he]
        simp only [List.cons.injEq, true_and]
      · refine Ev.pos ?_ (Ev.of_eq (Ev.now _) ?_)
        · refine Decidable.byContradiction fun h => he ?_
          generalize b[pre.length] = d at h
          obtain ⟨c0, c1⟩ := c
          obtain ⟨d0, d1⟩ := d
          simp at h
          simp [h]
        · generalize b.drop (pre.length + 1) = R
          simp only [List.cons.injEq, he, false_and, decide_false]
  · refine Ev.neg (by omega) (Ev.of_eq (Ev.now _) ?_)
    have : a ≠ b := fun e => hl (by rw [e])
    simp [this]
def meetF (a b : List (List Cell)) : Bool := a.any fun x => b.any fun y => decide (cmpS x y = 0)
theorem at_preSS {xs pre suf : List (List Cell)} {c : List Cell} (h : xs = pre ++ c :: suf) : rd_L2 xs (pre.length : Int) = c := by
  subst h; exact getD_at pre suf c _
theorem specAlike_ev (l : List Cell) (n : Int) (p : Bool) (m : List Cell) (q : Int) (b : Bool) (hl : l.length ≤ 1048576) (hm : m.length ≤ 1048576) (h0 : 0 < l.length) (h1 : 0 < m.length) : Ev (fun k => spec_l11Alike.f k l n p m q b) (meetF (pieceF l p) (pieceF m b)) := by
  unfold spec_l11Alike.f
  have s1 : small (pieceF l p) := by have := pieceF_len l p; unfold small; omega
  have s2 : small (pieceF m b) := by have := pieceF_len m b; unfold small; omega
  have sx : ∀ x ∈ pieceF l p, small x := fun x hx => by have := pieceF_mem x hx; unfold small; omega
  refine Ev.bind (specPieceF_ev l n p hl h0) (Ev.bind (specPieceF_ev m q b hm h1) ?_)
  generalize pieceF l p = A at s1 sx ⊢
  generalize pieceF m b = B at s2 ⊢
  refine loop_list A (fun k i (_ : Unit) => spec_l11Alike.l0 k A B i) (fun _ suf _ => meetF suf B) (fun _ _ => True) ?_ ?_ () trivial
  · intro _ _
    simp only [spec_l11Alike.l0, len_lt, if_false]
    exact Ev.of_eq (Ev.now _) (by simp [meetF])
  · intro pre x suf _ hx _ ih
    simp only [spec_l11Alike.l0, pre_lt hx, if_true]
    have := loop_list B (fun k j (_ : Unit) => spec_l11Alike.l1 k A B (pre.length : Int) j) (fun _ suf2 _ => (suf2.any fun y => decide (cmpS x y = 0)) || meetF suf B) (fun _ _ => True) ?_ ?_ () trivial
    · refine Ev.of_eq this ?_
      simp [meetF]
    · intro _ _
      simp only [spec_l11Alike.l1, len_lt, if_false, pre_w hx s1]
      exact Ev.of_eq (ih () trivial) (by simp)
    · intro pre2 y suf2 _ hx2 _ ih2
      simp only [spec_l11Alike.l1, pre_lt hx2, pre_lt hx, pre_0, if_true, at_preSS hx2, at_preSS hx, pre_w hx2 s2]
      refine Ev.bind (specCompare_ev x y (sx x (by rw [hx]; simp))) ?_
      by_cases hc : cmpS x y = 0
      · exact Ev.pos hc (Ev.of_eq (Ev.now _) (by simp [hc]))
      · exact Ev.neg hc (Ev.of_eq (ih2 () trivial) (by simp [hc]))
theorem all_someL {α : Type} {f : Nat → α → Option Bool} {g : α → Bool} : ∀ (l : List α), (∀ x ∈ l, Ev (fun k => f k x) (g x)) → ∃ n, ∀ k, n ≤ k → ∀ x ∈ l, f k x = some (g x)
  | [], _ => ⟨0, fun _ _ x hx => by simp at hx⟩
  | a :: r, h => by
    obtain ⟨n, hn⟩ := all_someL r fun x hx => h x (List.mem_cons_of_mem _ hx)
    obtain ⟨m, hm⟩ := h a List.mem_cons_self
    refine ⟨n + m, fun k hk x hx => ?_⟩
    rcases List.mem_cons.1 hx with rfl | hx
    · exact hm k (by omega)
    · exact hn k (by omega) x hx
theorem implAlike_ev (l : List Cell) (n : Int) (p : Bool) (m : List Cell) (q : Int) (b : Bool) (hl : l.length ≤ 1048576) (hm : m.length ≤ 1048576) (h0 : 0 < l.length) (h1 : 0 < m.length) : Ev (fun k => impl_alike.f k l n p m q b) (meetF (pieceF l p) (pieceF m b)) := by
  unfold impl_alike.f
  have s1 := pieceF_len l p
  have s2 := pieceF_len m b
  have sx : ∀ x ∈ pieceF l p, small x := fun x hx => by have := pieceF_mem x hx; unfold small; omega
  refine Ev.bind (implPieceF_ev m q b hm h1) (Ev.bind (implPieceF_ev l n p hl h0) ?_)
  generalize pieceF l p = A at s1 sx ⊢
  generalize pieceF m b = B at s2 ⊢
  obtain ⟨K, hK⟩ := all_someL (f := fun k (xy : List Cell × List Cell) => impl_Cell_82.f k xy.1 xy.2) (g := fun xy => decide (xy.1 = xy.2)) (A.flatMap fun x => B.map fun y => (x, y)) (fun xy hxy => by
    obtain ⟨x, hx, h⟩ := List.mem_flatMap.1 hxy
    obtain ⟨y, hy, rfl⟩ := List.mem_map.1 h
    exact Ev.of_eq (equalC_ev x y (sx x hx)) (by by_cases hh : x = y <;> simp [hh]))
  refine ⟨K, fun k hk => ?_⟩
  have h (x : List Cell) (hx : x ∈ A) (y : List Cell) (hy : y ∈ B) : impl_Cell_82.f k x y = some (decide (x = y)) :=
    hK k hk (x, y) (List.mem_flatMap.2 ⟨x, hx, List.mem_map.2 ⟨y, hy, rfl⟩⟩)
  show (if (B.length ≤ 1000000000000 ∧ A.length ≤ 1000000000000) ∧ (A.all fun a => B.all fun b => (impl_Cell_82.f k a b).isSome) = true then some (A.any fun a => B.any fun b => impl_Cell_82.f k a b == some true) else none) = _
  rw [if_pos ⟨⟨by omega, by omega⟩, List.all_eq_true.2 fun x hx => List.all_eq_true.2 fun y hy => by rw [h x hx y hy]; rfl⟩]
  congr 1
  unfold meetF
  rw [Bool.eq_iff_iff, List.any_eq_true, List.any_eq_true]
  constructor
  · rintro ⟨x, hx, e⟩
    obtain ⟨y, hy, e⟩ := List.any_eq_true.1 e
    rw [h x hx y hy] at e
    refine ⟨x, hx, List.any_eq_true.2 ⟨y, hy, ?_⟩⟩
    have : x = y := by simpa using e
    simp [(cmpS_zero x y).2 this]
  · rintro ⟨x, hx, e⟩
    obtain ⟨y, hy, e⟩ := List.any_eq_true.1 e
    have : x = y := (cmpS_zero x y).1 (by simpa using e)
    refine ⟨x, hx, List.any_eq_true.2 ⟨y, hy, ?_⟩⟩
    rw [h x hx y hy, decide_eq_true this]; rfl
end Go.Proofs.YtipafadbhmngnaaGreatDoor.L
end
section
namespace Go.Proofs.YtipafadbhmngnaaGreatDoor.L
open Go.RowKit Go.Proofs.YtipafadbhmngnaaGreatDoorW.PrintWords Go.Proofs.YtipafadbhmngnaaGreatDoorW.PrintLast Go.Proofs.YtipafadbhmngnaaGreatDoorW.PrintMore Go.Proofs.YtipafadbhmngnaaGreatDoor.F
set_option linter.unusedVariables false
def aroundC (c : Cell) : List Cell := [⟨c.f0, wrap64 (c.f1 - 1)⟩, ⟨wrap64 (c.f0 - 1), c.f1⟩, ⟨wrap64 (c.f0 + 1), c.f1⟩, ⟨c.f0, wrap64 (c.f1 + 1)⟩]
theorem specAround_eq (c : Cell) : spec_l02Around.f c.f0 c.f1 = some (aroundC c) := rfl
theorem implAround_eq (c : Cell) : impl_around.f c.f0 c.f1 = some (aroundC c) := rfl
end Go.Proofs.YtipafadbhmngnaaGreatDoor.L
end
section
namespace Go.Proofs.YtipafadbhmngnaaGreatDoor.L
open Go.RowKit Go.Proofs.YtipafadbhmngnaaGreatDoorW.PrintWords Go.Proofs.YtipafadbhmngnaaGreatDoorW.PrintLast Go.Proofs.YtipafadbhmngnaaGreatDoorW.PrintMore Go.Proofs.YtipafadbhmngnaaGreatDoor.F
set_option linter.unusedVariables false
set_option linter.unusedSimpArgs false
def visit1 (l : List Cell) (i : Int) (s : List Int × List Int) (d : Cell) : List Int × List Int :=
  if idxC l d ≥ 0 ∧ rd s.1 (idxC l d) < 0 then (s.1.set (idxC l d).toNat i, s.2 ++ [idxC l d]) else s
def visit (l : List Cell) (i : Int) (ds : List Cell) (s : List Int × List Int) : List Int × List Int := ds.foldl (visit1 l i) s
def negs (o : List Int) : Nat := o.countP fun x => decide (x < 0)
structure Fine (l : List Cell) (o q : List Int) : Prop where
  len : o.length = l.length
  rng : ∀ j ∈ q, 0 ≤ j ∧ j < (l.length : Int)
theorem idxC_lt (l : List Cell) (d : Cell) : idxC l d < (l.length : Int) := by
  rcases idxC_spec l d with ⟨h, _⟩ | ⟨j, h1, h2, _⟩
  · omega
  · omega
theorem rd_set (o : List Int) (j : Nat) (i : Int) (q : Int) (hj : j < o.length) : rd (o.set j i) q = if q.toNat = j then i else rd o q := by
  unfold rd
  rw [List.getD_eq_getElem?_getD, List.getD_eq_getElem?_getD]
  by_cases h : q.toNat = j
  · rw [if_pos h, h, List.getElem?_set_self hj]; rfl
  · rw [if_neg h, List.getElem?_set_ne (by omega)]
theorem negs_set (o : List Int) (j : Int) (i : Int) (h0 : 0 ≤ j) (h1 : j < (o.length : Int)) (h : rd o j < 0) (hi : 0 ≤ i) : negs (o.set j.toNat i) + 1 = negs o := by
  have hj : j.toNat < o.length := by omega
  have hr : o[j.toNat] < 0 := by
    unfold rd at h
    rw [List.getD_eq_getElem?_getD, List.getElem?_eq_getElem hj] at h
    exact h
  unfold negs
  have hpos : 0 < o.countP fun x => decide (x < 0) := List.countP_pos_iff.2 ⟨_, List.getElem_mem hj, by simpa using hr⟩
  rw [List.countP_set hj]
  have e1 : decide (i < 0) = false := decide_eq_false (by omega)
  have e2 : decide (o[j.toNat] < 0) = true := decide_eq_true hr
  simp only [e1, e2, if_true]
  simp
  omega
theorem visit1_fine {l : List Cell} {i : Int} (hi : 0 ≤ i) {s : List Int × List Int} (h : Fine l s.1 s.2) (d : Cell) :
    Fine l (visit1 l i s d).1 (visit1 l i s d).2 ∧ negs (visit1 l i s d).1 + (visit1 l i s d).2.length = negs s.1 + s.2.length ∧ s.2.length ≤ (visit1 l i s d).2.length ∧ ∀ j : Int, 0 ≤ rd s.1 j → 0 ≤ rd (visit1 l i s d).1 j := by
  unfold visit1
  by_cases hc : idxC l d ≥ 0 ∧ rd s.1 (idxC l d) < 0
  · rw [if_pos hc]
    have hlt := idxC_lt l d
    have hln := h.len
    refine ⟨⟨by simpa using h.len, fun j hj => ?_⟩, ?_, by simp, fun j hj => ?_⟩
    · rcases List.mem_append.1 hj with hj | hj
      · exact h.rng j hj
      · simp at hj; omega
    · have := negs_set s.1 (idxC l d) i hc.1 (by omega) hc.2 hi
      simp only [List.length_append, List.length_singleton]
      omega
    · simp only
      rw [rd_set _ _ _ _ (by omega)]
      split
      · exact hi
      · exact hj
  · rw [if_neg hc]
    exact ⟨h, rfl, Nat.le_refl _, fun _ h => h⟩
theorem visit_fine {l : List Cell} {i : Int} (hi : 0 ≤ i) : ∀ (ds : List Cell) {s : List Int × List Int}, Fine l s.1 s.2 →
    Fine l (visit l i ds s).1 (visit l i ds s).2 ∧ negs (visit l i ds s).1 + (visit l i ds s).2.length = negs s.1 + s.2.length ∧ s.2.length ≤ (visit l i ds s).2.length ∧ ∀ j : Int, 0 ≤ rd s.1 j → 0 ≤ rd (visit l i ds s).1 j
  | [], s, h => ⟨h, rfl, Nat.le_refl _, fun _ h => h⟩
  | d :: r, s, h => by
    obtain ⟨h1, h2, h3, h4⟩ := visit1_fine hi h d
    obtain ⟨h5, h6, h7, h8⟩ := visit_fine hi r h1
    exact ⟨h5, h6.trans h2, Nat.le_trans h3 h7, fun j hj => h8 j (h4 j hj)⟩
theorem visit_snoc (l : List Cell) (i : Int) (ds : List Cell) (d : Cell) (s : List Int × List Int) : visit l i (ds ++ [d]) s = visit1 l i (visit l i ds s) d := by
  simp [visit]
def bfs (nb : Cell → List Cell) (l : List Cell) (i : Int) : Nat → List Int → List Int → List Int
  | 0, o, _ => o
  | _ + 1, o, [] => o
  | n + 1, o, c :: q => bfs nb l i n (visit l i (nb (rd_T82 l c)) (o, q)).1 (visit l i (nb (rd_T82 l c)) (o, q)).2
theorem bfs_fine {nb : Cell → List Cell} {l : List Cell} {i : Int} (hi : 0 ≤ i) : ∀ (n : Nat) (o q : List Int), Fine l o q → (bfs nb l i n o q).length = l.length ∧ ∀ j : Int, 0 ≤ rd o j → 0 ≤ rd (bfs nb l i n o q) j
  | 0, o, q, h => ⟨h.len, fun _ h => h⟩
  | n + 1, o, [], h => ⟨h.len, fun _ h => h⟩
  | n + 1, o, c :: q, h => by
    have h' : Fine l o q := ⟨h.len, fun j hj => h.rng j (List.mem_cons_of_mem _ hj)⟩
    obtain ⟨h1, _, _, h4⟩ := visit_fine hi (nb (rd_T82 l c)) (s := (o, q)) h'
    obtain ⟨h5, h6⟩ := bfs_fine hi n _ _ h1
    exact ⟨h5, fun j hj => h6 j (h4 j hj)⟩
def partsF (nb : Cell → List Cell) (l : List Cell) : Int → List Cell → List Int → List Int
  | _, [], o => o
  | i, _ :: r, o => partsF nb l (i + 1) r (if rd o i ≥ 0 then o else bfs nb l i l.length (o.set i.toNat i) [i])
def partsR (nb : Cell → List Cell) (l : List Cell) : List Int := partsF nb l 0 l (List.replicate l.length (-1))
theorem step_fine {l : List Cell} {o : List Int} {i : Nat} (hl : o.length = l.length) (hi : i < l.length) (h : ¬ rd o (i : Int) ≥ 0) : Fine l (o.set i (i : Int)) [(i : Int)] ∧ negs (o.set i (i : Int)) + 1 ≤ l.length := by
  refine ⟨⟨by simpa using hl, fun j hj => by simp at hj; omega⟩, ?_⟩
  have h1 := negs_set o (i : Int) (i : Int) (by omega) (by omega) (by omega) (by omega)
  rw [Int.toNat_natCast] at h1
  have h2 : negs o ≤ o.length := List.countP_le_length
  omega
theorem step_next {nb : Cell → List Cell} {l : List Cell} {o : List Int} {i : Nat} (hl : o.length = l.length) (hi : i < l.length) (hd : ∀ j : Nat, j < i → 0 ≤ rd o (j : Int)) :
    (if rd o (i : Int) ≥ 0 then o else bfs nb l (i : Int) l.length (o.set i (i : Int)) [(i : Int)]).length = l.length ∧ ∀ j : Nat, j < i + 1 → 0 ≤ rd (if rd o (i : Int) ≥ 0 then o else bfs nb l (i : Int) l.length (o.set i (i : Int)) [(i : Int)]) (j : Int) := by
  by_cases h : rd o (i : Int) ≥ 0
  · rw [if_pos h]
    refine ⟨hl, fun j hj => ?_⟩
    by_cases e : j = i
    · exact e ▸ h
    · exact hd j (by omega)
  · rw [if_neg h]
    obtain ⟨h1, h2⟩ := step_fine hl hi h
    obtain ⟨h3, h4⟩ := bfs_fine (nb := nb) (i := (i : Int)) (by omega) l.length _ _ h1
    refine ⟨h3, fun j hj => h4 _ ?_⟩
    rw [rd_set _ _ _ _ (by omega), Int.toNat_natCast]
    split
    · omega
    · exact hd j (by omega)
theorem partsF_fine {nb : Cell → List Cell} {l : List Cell} : ∀ (r pre : List Cell) (o : List Int), l = pre ++ r → o.length = l.length → (∀ j : Nat, j < pre.length → 0 ≤ rd o (j : Int)) → (partsF nb l (pre.length : Int) r o).length = l.length ∧ ∀ j : Nat, j < l.length → 0 ≤ rd (partsF nb l (pre.length : Int) r o) (j : Int)
  | [], pre, o, h, hl, hd => by
    rw [List.append_nil] at h
    subst h
    exact ⟨hl, hd⟩
  | c :: r, pre, o, h, hl, hd => by
    obtain ⟨h1, h2⟩ := step_next (nb := nb) (l := l) (o := o) (i := pre.length) hl (by rw [h]; simp) hd
    have := partsF_fine (nb := nb) r (pre ++ [c]) _ (by rw [h]; simp) h1 (by simpa using h2)
    rw [List.length_append] at this
    exact this
theorem partsR_len (nb : Cell → List Cell) (l : List Cell) : (partsR nb l).length = l.length := (partsF_fine l [] _ rfl (by simp) (fun j hj => by simp at hj)).1
theorem partsR_pos (nb : Cell → List Cell) (l : List Cell) : ∀ x ∈ partsR nb l, 0 ≤ x := by
  intro x hx
  obtain ⟨j, hj, e⟩ := List.getElem_of_mem hx
  have h := (partsF_fine (nb := nb) (l := l) l [] (List.replicate l.length (-1)) rfl (by simp) (fun j hj => by simp at hj)).2 j (by have := partsR_len nb l; omega)
  have h' : 0 ≤ rd (partsR nb l) (j : Int) := h
  unfold rd at h'
  rw [List.getD_eq_getElem?_getD, Int.toNat_natCast, List.getElem?_eq_getElem hj] at h'
  exact e ▸ h'
theorem wf64 {n : Int} (h : -9223372036854775808 ≤ n) (h' : n ≤ 9223372036854775807) : (Lit.int .i64 n).wf = true := by
  simp only [Lit.wf, IntKind.min, IntKind.max, IntKind.signed, IntKind.bits, Bool.and_eq_true, decide_eq_true_eq, if_true]; omega
theorem wf_wrap (n : Int) : (Lit.int .i64 (wrap64 n)).wf = true := wf64 (by unfold wrap64; omega) (by unfold wrap64; omega)
theorem wfC_ok {c : Cell} (h : okC c) : wfC c = true := by
  unfold wfC
  unfold okC ok1 at h
  rw [wf64 (by omega) (by omega), wf64 (by omega) (by omega)]
  rfl
theorem lastIdx_eq (c : Cell) : ∀ (l : List Cell) (i : Nat), l.Nodup → lastIdx l c i = if idxF l c (i : Int) ≥ 0 then some (idxF l c (i : Int)).toNat else none
  | [], i, _ => by simp [lastIdx, idxF]
  | a :: r, i, h => by
    obtain ⟨h1, h2⟩ := List.nodup_cons.1 h
    have ih := lastIdx_eq c r (i + 1) h2
    have e : ((i + 1 : Nat) : Int) = (i : Int) + 1 := by omega
    rw [e] at ih
    unfold lastIdx idxF
    rw [ih]
    by_cases hs : sameC a c = true
    · have hac := sameC_iff.1 hs
      rw [if_pos hs]
      have hn : ¬ idxF r c ((i : Int) + 1) ≥ 0 := by
        rcases idxF_spec r c ((i : Int) + 1) (by omega) with ⟨h3, _⟩ | ⟨j, _, _, h3, _⟩
        · omega
        · exact absurd (List.mem_of_getElem? h3) (hac ▸ h1)
      rw [if_neg hn]
      have : a.f0 = c.f0 ∧ a.f1 = c.f1 := by rw [hac]; exact ⟨rfl, rfl⟩
      simp only [this, and_self, if_true]
      simp
    · rw [if_neg hs]
      have hne : ¬ (a.f0 = c.f0 ∧ a.f1 = c.f1) := by
        intro h3
        apply hs
        simp [sameC, h3.1, h3.2]
      by_cases hg : idxF r c ((i : Int) + 1) ≥ 0
      · rw [if_pos hg]
      · rw [if_neg hg]
        simp only [hne, if_false]
theorem look_eq (l : List Cell) (d : Cell) (hn : l.Nodup) (hw : wfC d = true) : impl_partsLook.f l d.f0 d.f1 = some (if idxC l d ≥ 0 then (idxC l d, true) else (0, false)) := by
  unfold impl_partsLook.f
  have hw' : wfC ⟨d.f0, d.f1⟩ = true := hw
  rw [if_pos hw']
  have := lastIdx_eq d l 0 hn
  have e : lastIdx l ⟨d.f0, d.f1⟩ 0 = if idxC l d ≥ 0 then some (idxC l d).toNat else none := this
  rw [e]
  by_cases h : idxC l d ≥ 0
  · rw [if_pos h, if_pos h]
    simp only [Int.toNat_of_nonneg h]
  · rw [if_neg h, if_neg h]
end Go.Proofs.YtipafadbhmngnaaGreatDoor.L
end
section
namespace Go.Proofs.YtipafadbhmngnaaGreatDoor.L
open Go.RowKit Go.Proofs.YtipafadbhmngnaaGreatDoorW.PrintWords Go.Proofs.YtipafadbhmngnaaGreatDoor.F
set_option linter.unusedVariables false
theorem aroundC_len (c : Cell) : (aroundC c).length ≤ 16 := by simp [aroundC]
theorem aroundC_wf {c : Cell} (h : wfC c = true) : ∀ d ∈ aroundC c, wfC d = true := by
  unfold wfC at h
  rw [Bool.and_eq_true] at h
  intro d hd
  simp only [aroundC, List.mem_cons, List.not_mem_nil, or_false] at hd
  rcases hd with rfl | rfl | rfl | rfl <;> simp [wfC, h.1, h.2, wf_wrap]
end Go.Proofs.YtipafadbhmngnaaGreatDoor.L
end
section
namespace Go.Proofs.YtipafadbhmngnaaGreatDoor.L
open Go.RowKit Go.Proofs.YtipafadbhmngnaaGreatDoorW.PrintWords Go.Proofs.YtipafadbhmngnaaGreatDoorW.PrintLast Go.Proofs.YtipafadbhmngnaaGreatDoorW.PrintMore Go.Proofs.YtipafadbhmngnaaGreatDoor.F
set_option linter.unusedVariables false
set_option linter.unusedSimpArgs false
theorem ps_l3 (l : List Cell) (hl : l.length ≤ 1048576) (i : Int) (hi : 0 ≤ i) (xs : List Cell) (hx4 : xs.length = 4) (o q : List Int) (hf : Fine l o q) (hb : negs o + q.length ≤ l.length) {r : List Int}
    (hc : Ev (fun k => spec_l02Parts.l2 k l (visit l i xs (o, q)).1 i (visit l i xs (o, q)).2) r) :
    Ev (fun k => spec_l02Parts.l3 k l o i q xs 0) r := by
  have hsm : small xs := by unfold small; omega
  have hs : small l := by unfold small; omega
  refine loop_list xs (fun k j (s : List Int × List Int) => spec_l02Parts.l3 k l s.1 i s.2 xs j) (fun _ _ _ => r) (fun pre s => s = visit l i pre (o, q)) ?_ ?_ (o, q) rfl
  · rintro s rfl
    have e0 : ¬ ((xs.length : Int) < 4) := by omega
    simp only [spec_l02Parts.l3, e0, if_false]
    exact hc
  · rintro pre d suf s hx rfl ih
    obtain ⟨h1, h2, h3, _⟩ := visit_fine hi pre (s := (o, q)) hf
    simp only at h2 h3
    have hln := h1.len
    have hp4 : ((pre.length : Int) < 4) = True := by have := pre_len hx; simp; omega
    simp only [spec_l02Parts.l3, hp4, pre_lt hx, pre_0, if_true, at_pre hx, pre_w hx hsm]
    refine Ev.bind (specIndex_ev l d hs) ?_
    have hlt := idxC_lt l d
    have hq : (visit l i pre (o, q)).2.length ≤ l.length := by omega
    by_cases hg : idxC l d ≥ 0
    · refine Ev.pos hg (Ev.pos hg (Ev.pos (by omega) ?_))
      by_cases hr : rd (visit l i pre (o, q)).1 (idxC l d) < 0
      · refine Ev.pos hr (Ev.pos (by omega) ?_)
        have e : visit1 l i (visit l i pre (o, q)) d = ((visit l i pre (o, q)).1.set (idxC l d).toNat i, (visit l i pre (o, q)).2 ++ [idxC l d]) := by
          unfold visit1; rw [if_pos ⟨hg, hr⟩]
        exact ih ((visit l i pre (o, q)).1.set (idxC l d).toNat i, (visit l i pre (o, q)).2 ++ [idxC l d]) (by rw [visit_snoc, e])
      · refine Ev.neg hr (ih _ ?_)
        rw [visit_snoc]
        unfold visit1
        rw [if_neg fun h => hr h.2]
    · refine Ev.neg hg (ih _ ?_)
      rw [visit_snoc]
      unfold visit1
      rw [if_neg fun h => hg h.1]
theorem ps_l2 (l : List Cell) (hl : l.length ≤ 1048576) (i : Int) (hi : 0 ≤ i) {r : List Int} : ∀ (n : Nat) (o q : List Int), Fine l o q → negs o + q.length ≤ l.length → negs o + q.length ≤ n →
    Ev (fun k => spec_l02Parts.l1 k l (bfs aroundC l i n o q) (wrap64 (i + 1))) r → Ev (fun k => spec_l02Parts.l2 k l o i q) r := by
  intro n
  induction n with
  | zero =>
    intro o q hf hb hm hc
    obtain rfl : q = [] := List.length_eq_zero_iff.1 (by omega)
    refine Ev.succ ?_
    simp only [spec_l02Parts.l2]
    exact Ev.neg (by simp) hc
  | succ n ih =>
    intro o q hf hb hm hc
    refine Ev.succ ?_
    cases q with
    | nil =>
      simp only [spec_l02Parts.l2]
      exact Ev.neg (by simp) hc
    | cons c q =>
      have hr := hf.rng c List.mem_cons_self
      have e1 : rd (c :: q) 0 = c := rfl
      have hlen : (c :: q).length = q.length + 1 := rfl
      simp only [spec_l02Parts.l2, e1]
      refine Ev.pos (by omega) (Ev.pos (by omega) (Ev.pos hr.1 (Ev.pos hr.2 ?_)))
      simp only [specAround_eq, Option.bind_some]
      refine Ev.pos (by omega) ?_
      have hf' : Fine l o q := ⟨hf.len, fun j hj => hf.rng j (List.mem_cons_of_mem _ hj)⟩
      obtain ⟨h1, h2, h3, _⟩ := visit_fine hi (aroundC (rd_T82 l c)) (s := (o, q)) hf'
      simp only at h2 h3
      have ed : (c :: q).drop (1 : Int).toNat = q := rfl
      rw [ed]
      refine ps_l3 l hl i hi _ rfl o q hf' (by omega) ?_
      exact ih _ _ h1 (by omega) (by omega) hc
theorem ps_ev (l : List Cell) (hl : l.length ≤ 1048576) : Ev (fun k => spec_l02Parts.f k l) (partsR aroundC l) := by
  have hs : small l := by unfold small; omega
  unfold spec_l02Parts.f
  have hz := loop_list l (fun k i (s : List Int) => spec_l02Parts.l0 k l s i) (fun _ _ _ => partsR aroundC l) (fun pre s => s = List.replicate pre.length (-1)) ?_ ?_ [] rfl
  · exact hz
  · rintro s rfl
    simp only [spec_l02Parts.l0, len_lt, if_false]
    have := loop_list l (fun k i (s : List Int) => spec_l02Parts.l1 k l s i) (fun pre suf s => partsF aroundC l (pre.length : Int) suf s) (fun pre s => s.length = l.length ∧ ∀ j : Nat, j < pre.length → 0 ≤ rd s (j : Int)) ?_ ?_ (List.replicate l.length (-1)) ⟨by simp, fun j hj => by simp at hj⟩
    · exact this
    · rintro s _
      simp only [spec_l02Parts.l1, len_lt, if_false]
      exact Ev.now _
    · rintro pre c suf s hx ⟨h1, h2⟩ ih
      have hp := pre_len hx
      obtain ⟨h3, h4⟩ := step_next (nb := aroundC) (l := l) (o := s) (i := pre.length) h1 hp h2
      have hlt : ((pre.length : Int) < (s.length : Int)) = True := by rw [h1]; exact pre_lt hx
      simp only [spec_l02Parts.l1, pre_lt hx, pre_0, if_true, hlt, pre_w hx hs, Int.toNat_natCast]
      have hih := ih _ ⟨h3, by simpa using h4⟩
      unfold partsF
      rw [Int.toNat_natCast]
      have ee : ((pre ++ [c]).length : Int) = (pre.length : Int) + 1 := by simp
      rw [ee] at hih
      by_cases hg : rd s (pre.length : Int) ≥ 0
      · rw [if_pos hg] at hih ⊢
        exact Ev.pos hg hih
      · rw [if_neg hg] at hih ⊢
        refine Ev.neg hg ?_
        obtain ⟨h5, h6⟩ := step_fine h1 hp hg
        exact ps_l2 l hl (pre.length : Int) (by omega) l.length _ _ h5 (by simpa using h6) (by simpa using h6) (by rw [pre_w hx hs]; exact hih)
  · rintro pre c suf s hx rfl ih
    have hp := pre_len hx
    simp only [spec_l02Parts.l0, pre_lt hx, if_true, pre_w hx hs]
    exact Ev.pos (by rw [List.length_replicate]; omega) (ih _ (by simp [List.replicate_succ']))
def oneB (l : List Int) : Bool := l.all fun x => decide (x = 0)
def first (nb : Cell → List Cell) (l : List Cell) : List Int := bfs nb l 0 l.length ((List.replicate l.length (-1 : Int)).set 0 0) [0]
theorem max_ev (l : List Int) (hs : small l) (h0 : 0 < l.length) (hp : ∀ x ∈ l, 0 ≤ x) : Ev (fun k => slices_Max_int64_int64.f k l) (l.foldl mx 0) := by
  unfold slices_Max_int64_int64.f
  obtain ⟨c, r, rfl⟩ : ∃ c r, l = c :: r := by cases l with | nil => simp at h0 | cons c r => exact ⟨c, r, rfl⟩
  refine Ev.neg (by omega) (Ev.pos (by omega) ?_)
  have h1 : rd (c :: r) 0 = c := rfl
  rw [h1]
  have := loop_tail c r (fun k i (s : Int) => slices_Max_int64_int64.l0 k (c :: r) s i) (fun _ suf s => suf.foldl mx s) (fun _ _ => True) ?_ ?_ c trivial
  · refine Ev.of_eq this ?_
    have hc := hp c List.mem_cons_self
    have : mx 0 c = c := by unfold mx; split <;> omega
    simp [this]
  · rintro s _
    simp only [slices_Max_int64_int64.l0, len_lt, if_false]
    exact Ev.now _
  · rintro pre d suf s hx _ _ ih
    simp only [slices_Max_int64_int64.l0, pre_lt hx, pre_0, if_true, at_preI hx, pre_w hx hs]
    exact ih (mx s d) trivial
theorem foldl_mx : ∀ (l : List Int) (a : Int), 0 ≤ a → (∀ x ∈ l, 0 ≤ x) → 0 ≤ l.foldl mx a ∧ (l.foldl mx a = 0 ↔ a = 0 ∧ oneB l = true)
  | [], a, ha, _ => ⟨ha, by simp [oneB]⟩
  | c :: r, a, ha, h => by
    have hc := h c List.mem_cons_self
    have h1 : 0 ≤ mx a c := by unfold mx; split <;> omega
    obtain ⟨h2, h3⟩ := foldl_mx r (mx a c) h1 (fun x hx => h x (List.mem_cons_of_mem _ hx))
    refine ⟨h2, h3.trans ?_⟩
    have h4 : mx a c = 0 ↔ a = 0 ∧ c = 0 := by unfold mx; split <;> omega
    rw [h4]
    simp [oneB, and_assoc]
theorem pa_l3 (l : List Cell) (hl : l.length ≤ 1048576) (hn : l.Nodup) (i : Int) (hi : 0 ≤ i) (xs : List Cell) (hx4 : xs.length ≤ 16) (hwx : ∀ d ∈ xs, wfC d = true) (o p q : List Int) (hf : Fine l o q) (hb : negs o + (p ++ q).length ≤ l.length) (at_ len_ n_ : Int) {r : List Int}
    (hc : Ev (fun k => impl_parts__impl_around.l2 k l (visit l i xs (o, q)).1 i (p ++ (visit l i xs (o, q)).2) (wrap64 (at_ + 1)) len_ n_) r) :
    Ev (fun k => impl_parts__impl_around.l3 k l o i (p ++ q) at_ len_ n_ xs (xs.length : Int) 0) r := by
  have hsm : small xs := by unfold small; omega
  refine loop_list xs (fun k j (s : List Int × List Int) => impl_parts__impl_around.l3 k l s.1 i (p ++ s.2) at_ len_ n_ xs (xs.length : Int) j) (fun _ _ _ => r) (fun pre s => s = visit l i pre (o, q)) ?_ ?_ (o, q) rfl
  · rintro s rfl
    simp only [impl_parts__impl_around.l3, len_lt, if_false]
    exact hc
  · rintro pre d suf s hx rfl ih
    obtain ⟨h1, h2, h3, _⟩ := visit_fine hi pre (s := (o, q)) hf
    simp only at h2 h3
    have hln := h1.len
    have hd : wfC d = true := hwx d (by rw [hx]; simp)
    simp only [impl_parts__impl_around.l3, pre_lt hx, pre_0, if_true, at_pre hx, pre_w hx hsm, look_eq l d hn hd, Option.bind_some]
    have hlt := idxC_lt l d
    have hq : (p ++ (visit l i pre (o, q)).2).length ≤ l.length := by
      rw [List.length_append] at hb ⊢
      omega
    by_cases hg : idxC l d ≥ 0
    · simp only [hg, if_true]
      refine Ev.pos (by omega) ?_
      by_cases hr : rd (visit l i pre (o, q)).1 (idxC l d) < 0
      · refine Ev.pos hr (Ev.pos (by omega) ?_)
        have e : visit1 l i (visit l i pre (o, q)) d = ((visit l i pre (o, q)).1.set (idxC l d).toNat i, (visit l i pre (o, q)).2 ++ [idxC l d]) := by
          unfold visit1; rw [if_pos ⟨hg, hr⟩]
        have h := ih ((visit l i pre (o, q)).1.set (idxC l d).toNat i, (visit l i pre (o, q)).2 ++ [idxC l d]) (by rw [visit_snoc, e])
        rw [List.append_assoc]
        exact h
      · refine Ev.neg hr (ih _ ?_)
        rw [visit_snoc]
        unfold visit1
        rw [if_neg fun h => hr h.2]
    · simp only [hg, if_false, Bool.false_eq_true]
      refine ih _ ?_
      rw [visit_snoc]
      unfold visit1
      rw [if_neg fun h => hg h.1]
theorem pa_l2 (l : List Cell) (hl : l.length ≤ 1048576) (hn : l.Nodup) (hw : l.all wfC = true) (i : Int) (hi : 0 ≤ i) (len_ n_ : Int) {r : List Int} : ∀ (n : Nat) (o p q : List Int), Fine l o q → negs o + (p ++ q).length ≤ l.length → negs o + q.length ≤ n →
    Ev (fun k => impl_parts__impl_around.l1 k l (bfs aroundC l i n o q) len_ (wrap64 (n_ + 1))) r → Ev (fun k => impl_parts__impl_around.l2 k l o i (p ++ q) (p.length : Int) len_ n_) r := by
  intro n
  induction n with
  | zero =>
    intro o p q hf hb hm hc
    obtain rfl : q = [] := List.length_eq_zero_iff.1 (by omega)
    refine Ev.succ ?_
    simp only [impl_parts__impl_around.l2, List.append_nil, len_lt, if_false]
    exact hc
  | succ n ih =>
    intro o p q hf hb hm hc
    refine Ev.succ ?_
    cases q with
    | nil =>
      simp only [impl_parts__impl_around.l2, List.append_nil, len_lt, if_false]
      exact hc
    | cons c q =>
      have hr := hf.rng c List.mem_cons_self
      have hlen : (p ++ c :: q).length = p.length + (q.length + 1) := by simp
      have e1 : rd (p ++ c :: q) (p.length : Int) = c := by unfold rd; exact getD_at p q c _
      simp only [impl_parts__impl_around.l2, e1]
      refine Ev.pos (by rw [hlen]; omega) (Ev.pos (by omega) (Ev.pos hr.1 (Ev.pos hr.2 ?_)))
      simp only [implAround_eq, Option.bind_some]
      have hf' : Fine l o q := ⟨hf.len, fun j hj => hf.rng j (List.mem_cons_of_mem _ hj)⟩
      have hwc : wfC (rd_T82 l c) = true := by
        refine List.all_eq_true.1 hw _ ?_
        unfold rd_T82
        rw [List.getD_eq_getElem?_getD, List.getElem?_eq_getElem (show c.toNat < l.length by omega)]
        exact List.getElem_mem _
      obtain ⟨h1, h2, h3, _⟩ := visit_fine hi (aroundC (rd_T82 l c)) (s := (o, q)) hf'
      have ea : p ++ c :: q = (p ++ [c]) ++ q := by simp
      have ew : wrap64 ((p.length : Int) + 1) = ((p ++ [c]).length : Int) := by
        rw [w64 (by omega) (by omega)]; simp
      rw [ea] at hb ⊢
      refine pa_l3 l hl hn i hi (aroundC (rd_T82 l c)) (aroundC_len _) (aroundC_wf hwc) o (p ++ [c]) q hf' hb _ _ _ ?_
      rw [ew]
      refine ih _ _ _ h1 ?_ ?_ hc
      · simp only [List.length_append, List.length_singleton] at hb ⊢
        simp only at h2 h3
        omega
      · simp only [List.length_cons] at hm
        simp only at h2
        omega
theorem pa_ev (l : List Cell) (hl : l.length ≤ 1048576) (hn : l.Nodup) (hw : l.all wfC = true) : Ev (fun k => impl_parts__impl_around.f k l) (partsR aroundC l) := by
  have hs : small l := by unfold small; omega
  unfold impl_parts__impl_around.f
  refine Ev.pos hw (Ev.pos (by omega) (Ev.pos (by omega) ?_))
  have hz := loop_list l (fun k i (s : List Int) => impl_parts__impl_around.l0 k l s l (l.length : Int) i) (fun _ _ _ => partsR aroundC l) (fun pre s => s = List.replicate pre.length (-1) ++ List.replicate (l.length - pre.length) 0) ?_ ?_ (List.replicate (l.length : Int).toNat 0) (by simp)
  · exact hz
  · rintro s rfl
    simp only [impl_parts__impl_around.l0, len_lt, if_false, Nat.sub_self, List.replicate_zero, List.append_nil]
    have := loop_list l (fun k i (s : List Int) => impl_parts__impl_around.l1 k l s (l.length : Int) i) (fun pre suf s => partsF aroundC l (pre.length : Int) suf s) (fun pre s => s.length = l.length ∧ ∀ j : Nat, j < pre.length → 0 ≤ rd s (j : Int)) ?_ ?_ (List.replicate l.length (-1)) ⟨by simp, fun j hj => by simp at hj⟩
    · exact this
    · rintro s _
      simp only [impl_parts__impl_around.l1, len_lt, if_false]
      exact Ev.now _
    · rintro pre c suf s hx ⟨h1, h2⟩ ih
      have hp := pre_len hx
      obtain ⟨h3, h4⟩ := step_next (nb := aroundC) (l := l) (o := s) (i := pre.length) h1 hp h2
      have hlt : ((pre.length : Int) < (s.length : Int)) = True := by rw [h1]; exact pre_lt hx
      simp only [impl_parts__impl_around.l1, pre_lt hx, pre_0, if_true, hlt, pre_w hx hs, Int.toNat_natCast]
      have hih := ih _ ⟨h3, by simpa using h4⟩
      unfold partsF
      rw [Int.toNat_natCast]
      have ee : ((pre ++ [c]).length : Int) = (pre.length : Int) + 1 := by simp
      rw [ee] at hih
      by_cases hg : rd s (pre.length : Int) ≥ 0
      · rw [if_pos hg] at hih ⊢
        exact Ev.pos hg hih
      · rw [if_neg hg] at hih ⊢
        refine Ev.neg hg ?_
        obtain ⟨h5, h6⟩ := step_fine h1 hp hg
        have e0 : ([(pre.length : Int)] : List Int) = [] ++ [(pre.length : Int)] := rfl
        have := pa_l2 l hl hn hw (pre.length : Int) (by omega) (l.length : Int) (pre.length : Int) (r := partsF aroundC l ((pre.length : Int) + 1) suf (bfs aroundC l (pre.length : Int) l.length (s.set pre.length (pre.length : Int)) [(pre.length : Int)])) l.length (s.set pre.length (pre.length : Int)) [] [(pre.length : Int)] h5 (by simpa using h6) (by simpa using h6) (by
          rw [pre_w hx hs]; exact hih)
        exact this
  · rintro pre c suf s hx rfl ih
    have hp := pre_len hx
    have hlt : ((pre.length : Int) < ((List.replicate pre.length (-1 : Int) ++ List.replicate (l.length - pre.length) 0).length : Int)) = True := by simp; omega
    simp only [impl_parts__impl_around.l0, pre_lt hx, pre_0, if_true, hlt, pre_w hx hs, Int.toNat_natCast]
    refine ih _ ?_
    have e : l.length - pre.length = (l.length - (pre.length + 1)) + 1 := by omega
    simp only [List.length_append, List.length_singleton]
    rw [e, List.replicate_succ, List.set_append_right _ _ (by simp)]
    simp [List.replicate_succ', List.append_assoc]
theorem pa_conn (l : List Cell) (hl : l.length ≤ 1048576) (h0 : l ≠ []) (hn : l.Nodup) (hw : l.all wfC = true) : Ev (fun k => impl_connected__impl_around.f k l) (oneB (partsR aroundC l)) := by
  unfold impl_connected__impl_around.f
  have hln := partsR_len aroundC l
  have hp := partsR_pos aroundC l
  have hpos : 0 < (partsR aroundC l).length := by rw [hln]; exact List.length_pos_iff.2 h0
  refine Ev.bind (pa_ev l hl hn hw) (Ev.bind (max_ev _ (by unfold small; omega) hpos hp) (Ev.of_eq (Ev.now _) ?_))
  have h := (foldl_mx (partsR aroundC l) 0 (Int.le_refl _) hp).2
  rw [Bool.eq_iff_iff, beq_iff_eq, h]
  simp
def connB (l : List Cell) : Bool := oneB (partsR aroundC l)
theorem shape_fine {l : List Cell} (h : shapeB l = true) : l ≠ [] ∧ l.Nodup ∧ l.all wfC = true ∧ l.length ≤ 1048576 := by
  obtain ⟨h1, h2, h3, h4⟩ := shapeB_iff.1 h
  refine ⟨shape_ne h, h2.imp fun {a b} hab e => ?_, List.all_eq_true.2 fun c hc => wfC_ok (h1 c hc), by omega⟩
  subst e
  unfold ltC at hab
  omega
theorem region_shape {l : List Cell} (h : regionB l = true) : shapeB l = true := by
  unfold regionB at h
  rw [Bool.and_eq_true] at h
  exact h.1
end Go.Proofs.YtipafadbhmngnaaGreatDoor.L
end
section
namespace Go.Proofs.YtipafadbhmngnaaGreatDoor.L
open Go.RowKit Go.Proofs.YtipafadbhmngnaaGreatDoorW.PrintWords Go.Proofs.YtipafadbhmngnaaGreatDoorW.PrintLast Go.Proofs.YtipafadbhmngnaaGreatDoorW.PrintMore Go.Proofs.YtipafadbhmngnaaGreatDoor.F
set_option linter.unusedVariables false
set_option linter.unusedSimpArgs false
theorem one_ev (l : List Int) (hs : small l) : Ev (fun k => spec_l02One.f k l) (oneB l) := by
  unfold spec_l02One.f
  refine loop_list l (fun k i (_ : Unit) => spec_l02One.l0 k l i) (fun pre suf _ => oneB suf) (fun _ _ => True) ?_ ?_ () trivial
  · intro _ _
    simp only [spec_l02One.l0, len_lt, if_false]
    exact Ev.now _
  · intro pre c suf _ hx _ ih
    simp only [spec_l02One.l0, pre_lt hx, pre_0, if_true, at_preI hx, pre_w hx hs]
    by_cases hc : c = 0
    · exact Ev.pos hc (Ev.of_eq (ih () trivial) (by simp [oneB, hc]))
    · exact Ev.neg hc (Ev.of_eq (Ev.now _) (by simp [oneB, hc]))
theorem specConn_ev (l : List Cell) (hl : l.length ≤ 1048576) : Ev (fun k => spec_IsConnected.f k l) (shapeB l && connB l) := by
  have hs : small l := by unfold small; omega
  unfold spec_IsConnected.f
  refine Ev.bind (specIsShape_ev l hs) ?_
  by_cases h : shapeB l = true
  · refine Ev.pos h (Ev.bind (ps_ev l hl) (Ev.bind (one_ev _ (by unfold small; rw [partsR_len]; omega)) (Ev.of_eq (Ev.now _) ?_)))
    simp [h, connB]
  · exact Ev.neg h (Ev.of_eq (Ev.now _) (by simp [h]))
def pieceB (l : List Cell) (n : Int) : Bool := regionB l && (connB l && decide (1 ≤ n ∧ n ≤ 8))
theorem specIsPiece_ev (l : List Cell) (n : Int) (b : Bool) (hl : l.length ≤ 1048576) : Ev (fun k => spec_IsPiece.f k l n b) (pieceB l n) := by
  have hs : small l := by unfold small; omega
  unfold spec_IsPiece.f pieceB
  refine Ev.bind (specIsRegion_ev l hs) ?_
  by_cases h : regionB l = true
  · refine Ev.pos h (Ev.bind (specConn_ev l hl) ?_)
    rw [region_shape h, Bool.true_and, h, Bool.true_and]
    by_cases hc : connB l = true
    · refine Ev.pos hc ?_
      simp only [in_eq, Option.bind_some, hc, Bool.true_and]
      exact Ev.now _
    · exact Ev.neg hc (Ev.of_eq (Ev.now _) (by simp [hc]))
  · exact Ev.neg h (Ev.of_eq (Ev.now _) (by simp [h]))
theorem implIsPiece_ev (l : List Cell) (n : Int) (b : Bool) (hl : l.length ≤ 1048576) : Ev (fun k => impl_IsPiece.f k l n b) (pieceB l n) := by
  have hs : small l := by unfold small; omega
  unfold impl_IsPiece.f pieceB
  refine Ev.bind (implIsRegion_ev l hs) ?_
  by_cases h : regionB l = true
  · obtain ⟨h1, h2, h3, _⟩ := shape_fine (region_shape h)
    refine Ev.pos h (Ev.bind (pa_conn l hl h1 h2 h3) ?_)
    rw [h, Bool.true_and]
    by_cases hc : connB l = true
    · refine Ev.pos hc ?_
      simp only [within_eq, Option.bind_some, hc, Bool.true_and]
      exact Ev.now _
    · exact Ev.neg hc (Ev.of_eq (Ev.now _) (by simp [hc]))
  · exact Ev.neg h (Ev.of_eq (Ev.now _) (by simp [h]))
end Go.Proofs.YtipafadbhmngnaaGreatDoor.L
end
section
namespace Go.Proofs.YtipafadbhmngnaaGreatDoor.L
open Go.RowKit Go.Proofs.YtipafadbhmngnaaGreatDoorW.PrintWords Go.Proofs.YtipafadbhmngnaaGreatDoorW.PrintLast Go.Proofs.YtipafadbhmngnaaGreatDoorW.PrintMore Go.Proofs.YtipafadbhmngnaaGreatDoor.F
set_option linter.unusedVariables false
set_option linter.unusedSimpArgs false
abbrev Piece := S50
abbrev LPiece := S76
def pieceOf (c : LPiece) : Piece := ⟨c.f0.map cellOf, c.f1, c.f2⟩
theorem at_preP {xs pre suf : List Piece} {c : Piece} (h : xs = pre ++ c :: suf) : rd_T50 xs (pre.length : Int) = c := by
  subst h; exact getD_at pre suf c _
theorem at_preLP {xs pre suf : List LPiece} {c : LPiece} (h : xs = pre ++ c :: suf) : rd_T76 xs (pre.length : Int) = c := by
  subst h; exact getD_at pre suf c _
theorem pieceP_pos {l : List Cell} {n : Int} (h : pieceB l n = true) : 0 < l.length := by
  unfold pieceB at h
  rw [Bool.and_eq_true] at h
  have := (shapeB_iff.1 (region_shape h.1)).2.2.1
  omega
def szP : List LPiece → Int → Int
  | [], n => n
  | c :: r, n => if n - (c.f0.length : Int) < 0 then -1 else szP r (n - (c.f0.length : Int))
theorem szP_le : ∀ (l : List LPiece) (n : Int), n ≤ 1048576 → 0 ≤ szP l n → ∀ c ∈ l, c.f0.length ≤ 1048576
  | [], n, h1, h2, c, hc => by simp at hc
  | a :: r, n, h1, h2, c, hc => by
    unfold szP at h2
    by_cases h : n - (a.f0.length : Int) < 0
    · rw [if_pos h] at h2; omega
    · rw [if_neg h] at h2
      rcases List.mem_cons.1 hc with rfl | hc
      · omega
      · exact szP_le r _ (by omega) h2 c hc
theorem szPieceS_l (L : List LPiece) (hs : L.length ≤ 1048576) (hv : ∀ c ∈ L, c.f0.length ≤ 9223372036854775807) : ∀ (suf pre : List LPiece) (n : Int), L = pre ++ suf → 0 ≤ n → n ≤ 1048576 → Ev (fun k => laws_szPieceS.l0 k L n (pre.length : Int)) (szP suf n)
  | [], pre, n, hx, h0, h1 => by
    refine Ev.succ ?_
    have hp := congrArg List.length hx
    simp only [List.length_append, List.length_nil] at hp
    simp only [laws_szPieceS.l0]
    exact Ev.neg (by omega) (Ev.now _)
  | c :: suf, pre, n, hx, h0, h1 => by
    refine Ev.succ ?_
    have hsm : small L := by unfold small; omega
    have ih := szPieceS_l L hs hv suf (pre ++ [c]) (n - (c.f0.length : Int)) (by rw [hx]; simp)
    simp only [List.length_append, List.length_singleton, Int.natCast_add] at ih
    simp only [laws_szPieceS.l0, pre_lt hx, pre_0, if_true, at_preLP hx, pre_w hx hsm]
    have hsz : laws_szPiece.f c.f0 c.f1 c.f2 n = some (if n - (c.f0.length : Int) < 0 then -1 else n - (c.f0.length : Int)) := by
      unfold laws_szPiece.f
      rw [szCellS_eq c.f0 n h0 h1 (hv c (by rw [hx]; simp))]
      simp only [Option.bind_some]
      by_cases h : n - (c.f0.length : Int) < 0
      · rw [if_pos h, if_pos (by decide)]
      · rw [if_neg h, if_neg h]
    refine Ev.bind0 hsz ?_
    unfold szP
    by_cases h : n - (c.f0.length : Int) < 0
    · rw [if_pos h]; exact Ev.of_eq (Ev.pos (by decide) (Ev.now _)) (by rw [if_pos h])
    · rw [if_neg h, if_neg h]; exact Ev.neg h (ih (by omega) (by omega))
def szZ (a : List LCell) (b : List LPiece) : Int :=
  if 1048576 - (a.length : Int) < 0 then -1 else if 1048576 - (a.length : Int) - (b.length : Int) < 0 then -1 else szP b (1048576 - (a.length : Int) - (b.length : Int))
theorem szPuzzle_ev (a : List LCell) (b : List LPiece) (ha : a.length ≤ 9223372036854775807) (hb : b.length ≤ 9223372036854775807) (hv : ∀ c ∈ b, c.f0.length ≤ 9223372036854775807) : Ev (fun k => (laws_szPuzzle.f k a b 1048576)) (if szZ a b < 0 then -1 else szZ a b) := by
  unfold laws_szPuzzle.f szZ
  rw [szCellS_eq a 1048576 (by decide) (by decide) ha]
  simp only [Option.bind_some]
  by_cases h : (1048576 : Int) - (a.length : Int) < 0
  · simp only [if_pos h]
    exact Ev.pos (by decide) (Ev.of_eq (Ev.now _) (by rw [if_pos (by decide)]))
  · simp only [if_neg h]
    unfold laws_szPieceS.f
    rw [w64 (n := 1048576 - (a.length : Int) - (b.length : Int)) (by omega) (by omega)]
    by_cases h2 : (1048576 : Int) - (a.length : Int) - (b.length : Int) < 0
    · simp only [if_pos h2, Option.bind_some]
      exact Ev.pos (by decide) (Ev.of_eq (Ev.now _) (by rw [if_pos (by decide)]))
    · simp only [if_neg h2]
      refine Ev.bind (szPieceS_l b (by omega) hv b [] _ rfl (by omega) (by omega)) ?_
      by_cases h3 : szP b (1048576 - (a.length : Int) - (b.length : Int)) < 0
      · exact Ev.of_eq (Ev.pos h3 (Ev.now _)) (by rw [if_pos h3])
      · exact Ev.of_eq (Ev.neg h3 (Ev.now _)) (by rw [if_neg h3])
theorem szZ_le {a : List LCell} {b : List LPiece} (h : ¬ szZ a b < 0) : a.length ≤ 1048576 ∧ b.length ≤ 1048576 ∧ ∀ c ∈ b, c.f0.length ≤ 1048576 := by
  unfold szZ at h
  by_cases h1 : (1048576 : Int) - (a.length : Int) < 0
  · rw [if_pos h1] at h; omega
  · rw [if_neg h1] at h
    by_cases h2 : (1048576 : Int) - (a.length : Int) - (b.length : Int) < 0
    · rw [if_pos h2] at h; omega
    · rw [if_neg h2] at h
      exact ⟨by omega, by omega, szP_le b (1048576 - (a.length : Int) - (b.length : Int)) (by omega) (by omega)⟩
theorem toPieceP_ev (c : LPiece) (la : c.f0.length ≤ 1048576) : Ev (fun k => laws_toPiece.f k c.f0 c.f1 c.f2) (c.f0.map cellOf, c.f1, c.f2) := by
  unfold laws_toPiece.f
  exact Ev.bind (toCellS_ev c.f0 la) (Ev.now _)
theorem toPieceS_ev (b : List LPiece) (hb : b.length ≤ 1048576) (hv : ∀ c ∈ b, c.f0.length ≤ 1048576) : Ev (fun k => laws_toPieceS.f k b) (b.map pieceOf) := by
  have hs : small b := by unfold small; omega
  unfold laws_toPieceS.f
  refine Ev.pos (by omega) (Ev.pos (by omega) ?_)
  have := loop_list b (fun k i (s : List Piece) => laws_toPieceS.l0 k b s i) (fun _ suf s => s.take (b.length - suf.length) ++ suf.map pieceOf) (fun pre s => s.length = b.length) ?_ ?_ (List.replicate b.length z50) (by simp)
  · refine Ev.of_eq this ?_
    simp
  · intro s hl
    simp only [laws_toPieceS.l0, len_lt, if_false]
    refine Ev.of_eq (Ev.now _) ?_
    simp [List.take_of_length_le, hl]
  · intro pre c suf s hx hl ih
    have hlt : ((pre.length : Int) < (s.length : Int)) = True := by rw [hl]; exact pre_lt hx
    simp only [laws_toPieceS.l0, pre_lt hx, pre_0, if_true, at_preLP hx, hlt, pre_w hx hs]
    refine Ev.bind (toPieceP_ev c (hv c (by rw [hx]; simp))) ?_
    refine Ev.of_eq (ih (s.set (pre.length : Int).toNat (pieceOf c)) (by simpa using hl)) ?_
    have hn : b.length = pre.length + (suf.length + 1) := by rw [hx]; simp
    have e1 : b.length - suf.length = pre.length + 1 := by omega
    have e2 : b.length - (c :: suf).length = pre.length := by simp; omega
    rw [e1, e2, Int.toNat_natCast, List.take_add_one, List.getElem?_set_self (by omega), List.take_set_of_le (Nat.le_refl _)]
    simp
theorem toPuzzle_ev (a : List LCell) (b : List LPiece) (ha : a.length ≤ 1048576) (hb : b.length ≤ 1048576) (hv : ∀ c ∈ b, c.f0.length ≤ 1048576) : Ev (fun k => laws_toPuzzle.f k a b) (a.map cellOf, b.map pieceOf) := by
  unfold laws_toPuzzle.f
  exact Ev.bind (toCellS_ev a ha) (Ev.bind (toPieceS_ev b hb hv) (Ev.now _))
theorem eqPuzzle_ev (R : List Cell) (P : List Piece) (hR : small R) (hP : small P) (hv : ∀ c ∈ P, small c.f0) : Ev (fun k => laws_eqPuzzle.f k R P R P) true := by
  unfold laws_eqPuzzle.f
  refine Ev.bind (eqCellS_ev R hR) (Ev.pos rfl (Ev.bind (a := true) ?_ (Ev.pos rfl (Ev.now _))))
  unfold laws_eqPieceS.f
  refine Ev.pos rfl ?_
  refine loop_list P (fun k i (_ : Unit) => laws_eqPieceS.l0 k P P i) (fun _ _ _ => true) (fun _ _ => True) ?_ ?_ () trivial
  · intro _ _
    simp only [laws_eqPieceS.l0, len_lt, if_false]
    exact Ev.now _
  · intro pre c suf _ hx _ ih
    simp only [laws_eqPieceS.l0, pre_lt hx, pre_0, if_true, at_preP hx, pre_w hx hP]
    refine Ev.bind (a := true) ?_ (Ev.pos rfl (ih () trivial))
    unfold laws_eqPiece.f
    exact Ev.bind (eqCellS_ev c.f0 (hv c (by rw [hx]; simp))) (Ev.pos rfl (Ev.pos rfl (Ev.neg (by simp) (Ev.now _))))
def likeP (c y : Piece) : Bool := meetF (pieceF c.f0 c.f2) (pieceF y.f0 y.f2)
theorem likeP_len {c y : Piece} (h : c.f0.length ≠ y.f0.length) : likeP c y = false := by
  rw [Bool.eq_false_iff]
  intro hm
  unfold likeP meetF at hm
  obtain ⟨x, hx, e⟩ := List.any_eq_true.1 hm
  obtain ⟨z, hz, e⟩ := List.any_eq_true.1 e
  have hxz : x = z := (cmpS_zero x z).1 (by simpa using e)
  have h1 := pieceF_mem x hx
  have h2 := pieceF_mem z hz
  rw [hxz] at h1
  omega
def okPs : List Piece → List Piece → Bool
  | _, [] => true
  | pre, c :: r => pieceB c.f0 c.f1 && (!(pre.any fun y => likeP c y) && okPs (pre ++ [c]) r)
def puzzleB (R : List Cell) (P : List Piece) : Bool := regionB R && (decide (1 ≤ (P.length : Int) ∧ (P.length : Int) ≤ 12) && okPs [] P)
section
variable (R : List Cell) (P : List Piece) (hP : P.length ≤ 1048576) (hv : ∀ c ∈ P, c.f0.length ≤ 1048576)
include hP hv
theorem specPz_l1 {r : Bool} (pre : List Piece) (c : Piece) (suf : List Piece) (hx : P = pre ++ c :: suf) (hc : pieceB c.f0 c.f1 = true) (ho : ∀ y ∈ pre, pieceB y.f0 y.f1 = true) : ∀ (s2 p2 : List Piece), pre = p2 ++ s2 →
    Ev (fun k => if (s2.any fun y => likeP c y) = true then some false else spec_IsPuzzle.l0 k (wrap64 ((pre.length : Int) + 1)) R P) r → Ev (fun k => spec_IsPuzzle.l1 k (pre.length : Int) (p2.length : Int) R P) r
  | [], p2, h2, hr => by
    refine Ev.succ ?_
    have hp := congrArg List.length h2
    simp only [List.length_append, List.length_nil] at hp
    simp only [spec_IsPuzzle.l1]
    refine Ev.neg (by omega) ?_
    simpa using hr
  | y :: s2, p2, h2, hr => by
    refine Ev.succ ?_
    have hp := congrArg List.length h2
    simp only [List.length_append, List.length_cons] at hp
    have hx2 : P = p2 ++ y :: (s2 ++ c :: suf) := by rw [hx, h2]; simp
    have hs : small P := by unfold small; omega
    have hym : y ∈ pre := by rw [h2]; simp
    have hcm : c ∈ P := by rw [hx]; simp
    have hyp : y ∈ P := by rw [hx]; simp [hym]
    have hlt := pre_lt hx
    have hlt2 := pre_lt hx2
    simp only [spec_IsPuzzle.l1, pre_lt hx2, pre_lt hx, pre_0, if_true, at_preP hx, at_preP hx2, pre_w hx2 hs]
    refine Ev.pos (by omega) (Ev.bind (specAlike_ev c.f0 c.f1 c.f2 y.f0 y.f1 y.f2 (hv c hcm) (hv y hyp) (pieceP_pos hc) (pieceP_pos (ho y hym))) ?_)
    have hl : meetF (pieceF c.f0 c.f2) (pieceF y.f0 y.f2) = likeP c y := rfl
    rw [hl]
    cases hq : likeP c y with
    | true =>
      refine Ev.pos rfl ?_
      simpa [hq] using hr
    | false =>
      refine Ev.neg (by simp) ?_
      have := specPz_l1 pre c suf hx hc ho s2 (p2 ++ [y]) (by rw [h2]; simp) (by simpa [hq] using hr)
      simpa using this
theorem specPz_l0 : ∀ (suf pre : List Piece), P = pre ++ suf → (∀ y ∈ pre, pieceB y.f0 y.f1 = true) → Ev (fun k => spec_IsPuzzle.l0 k (pre.length : Int) R P) (okPs pre suf)
  | [], pre, hx, ho => by
    refine Ev.succ ?_
    have hp := congrArg List.length hx
    simp only [List.length_append, List.length_nil] at hp
    simp only [spec_IsPuzzle.l0]
    exact Ev.neg (by omega) (Ev.now _)
  | c :: suf, pre, hx, ho => by
    refine Ev.succ ?_
    have hs : small P := by unfold small; omega
    simp only [spec_IsPuzzle.l0, pre_lt hx, pre_0, if_true, at_preP hx]
    refine Ev.bind (specIsPiece_ev c.f0 c.f1 c.f2 (hv c (by rw [hx]; simp))) ?_
    unfold okPs
    by_cases hc : pieceB c.f0 c.f1 = true
    · refine Ev.pos hc (specPz_l1 R P hP hv pre c suf hx hc ho pre [] rfl ?_)
      rw [hc, Bool.true_and]
      by_cases hq : (pre.any fun y => likeP c y) = true
      · exact Ev.pos hq (Ev.of_eq (Ev.now _) (by simp [hq]))
      · refine Ev.neg hq ?_
        rw [pre_w hx hs]
        have ih := specPz_l0 suf (pre ++ [c]) (by rw [hx]; simp) (fun y hy => by
          rcases List.mem_append.1 hy with hy | hy
          · exact ho y hy
          · simp at hy; exact hy ▸ hc)
        simp only [List.length_append, List.length_singleton, Int.natCast_add] at ih
        refine Ev.of_eq ih ?_
        simp [hq]
    · exact Ev.neg hc (Ev.of_eq (Ev.now _) (by simp [hc]))
theorem implPz_l1 {r : Bool} (n i : Int) (pre : List Piece) (c : Piece) (suf : List Piece) (hx : P = pre ++ c :: suf) (hc : pieceB c.f0 c.f1 = true) (ho : ∀ y ∈ pre, pieceB y.f0 y.f1 = true) : ∀ (s2 p2 : List Piece), pre = p2 ++ s2 →
    Ev (fun k => if (s2.any fun y => likeP c y) = true then some false else impl_IsPuzzle.l0 k P n (wrap64 (i + 1)) R P) r → Ev (fun k => impl_IsPuzzle.l1 k P n i pre (pre.length : Int) (p2.length : Int) R P c.f0 c.f1 c.f2) r
  | [], p2, h2, hr => by
    refine Ev.succ ?_
    have hp := congrArg List.length h2
    simp only [List.length_append, List.length_nil] at hp
    simp only [impl_IsPuzzle.l1]
    refine Ev.neg (by omega) ?_
    simpa using hr
  | y :: s2, p2, h2, hr => by
    refine Ev.succ ?_
    have hpl : pre.length ≤ P.length := by rw [hx]; simp
    have hs : small pre := by unfold small; omega
    have hym : y ∈ pre := by rw [h2]; simp
    have hcm : c ∈ P := by rw [hx]; simp
    have hyp : y ∈ P := by rw [hx]; simp [hym]
    simp only [impl_IsPuzzle.l1, pre_lt h2, pre_0, if_true, at_preP h2, pre_w h2 hs]
    have ih (hq : likeP c y = false) := implPz_l1 n i pre c suf hx hc ho s2 (p2 ++ [y]) (by rw [h2]; simp) (by simpa [hq] using hr)
    simp only [List.length_append, List.length_singleton, Int.natCast_add] at ih
    by_cases hl : c.f0.length = y.f0.length
    · refine Ev.pos (by omega) (Ev.bind (implAlike_ev c.f0 c.f1 c.f2 y.f0 y.f1 y.f2 (hv c hcm) (hv y hyp) (pieceP_pos hc) (pieceP_pos (ho y hym))) ?_)
      have hl : meetF (pieceF c.f0 c.f2) (pieceF y.f0 y.f2) = likeP c y := rfl
      rw [hl]
      cases hq : likeP c y with
      | true =>
        refine Ev.pos rfl ?_
        simpa [hq] using hr
      | false => exact Ev.neg (by simp) (ih hq)
    · exact Ev.neg (by omega) (ih (likeP_len hl))
theorem implPz_l0 : ∀ (suf pre : List Piece), P = pre ++ suf → (∀ y ∈ pre, pieceB y.f0 y.f1 = true) → Ev (fun k => impl_IsPuzzle.l0 k P (P.length : Int) (pre.length : Int) R P) (okPs pre suf)
  | [], pre, hx, ho => by
    refine Ev.succ ?_
    have hp := congrArg List.length hx
    simp only [List.length_append, List.length_nil] at hp
    simp only [impl_IsPuzzle.l0]
    exact Ev.neg (by omega) (Ev.now _)
  | c :: suf, pre, hx, ho => by
    refine Ev.succ ?_
    have hs : small P := by unfold small; omega
    have htk : P.take (pre.length : Int).toNat = pre := by rw [hx]; simp
    have hpl := pre_lt hx
    simp only [impl_IsPuzzle.l0, pre_lt hx, pre_0, if_true, at_preP hx, htk]
    refine Ev.bind (implIsPiece_ev c.f0 c.f1 c.f2 (hv c (by rw [hx]; simp))) ?_
    unfold okPs
    by_cases hc : pieceB c.f0 c.f1 = true
    · refine Ev.pos hc (Ev.pos (by simp at hpl; omega) (Ev.bind0 rfl (implPz_l1 R P hP hv _ (pre.length : Int) pre c suf hx hc ho pre [] rfl ?_)))
      rw [hc, Bool.true_and]
      by_cases hq : (pre.any fun y => likeP c y) = true
      · exact Ev.pos hq (Ev.of_eq (Ev.now _) (by simp [hq]))
      · refine Ev.neg hq ?_
        rw [pre_w hx hs]
        have ih := implPz_l0 suf (pre ++ [c]) (by rw [hx]; simp) (fun y hy => by
          rcases List.mem_append.1 hy with hy | hy
          · exact ho y hy
          · simp at hy; exact hy ▸ hc)
        simp only [List.length_append, List.length_singleton, Int.natCast_add] at ih
        refine Ev.of_eq ih ?_
        simp [hq]
    · exact Ev.neg hc (Ev.of_eq (Ev.now _) (by simp [hc]))
theorem specPuzzle_ev (hR : small R) : Ev (fun k => spec_IsPuzzle.f k R P) (puzzleB R P) := by
  unfold spec_IsPuzzle.f puzzleB
  refine Ev.bind (specIsRegion_ev R hR) ?_
  have jt : Ev (fun k => spec_IsPuzzle.j0 k true R P) false := Ev.step (fun k => spec_IsPuzzle.j0.eq_2 _ _ _ _) (Ev.pos rfl (Ev.now _))
  by_cases h : regionB R = true
  · refine Ev.pos h ?_
    rw [in_eq]
    refine Ev.bind0 rfl ?_
    by_cases hn : 1 ≤ (P.length : Int) ∧ (P.length : Int) ≤ 12
    · rw [decide_eq_true hn, h]
      exact Ev.step (fun k => spec_IsPuzzle.j0.eq_2 _ _ _ _) (Ev.neg (by simp) (Ev.of_eq (specPz_l0 R P hP hv P [] rfl (by simp)) (by simp)))
    · rw [decide_eq_false hn]
      exact Ev.of_eq jt (by simp)
  · exact Ev.neg h (Ev.of_eq jt (by simp [h]))
theorem implPuzzle_ev (hR : small R) : Ev (fun k => impl_IsPuzzle.f k R P) (puzzleB R P) := by
  unfold impl_IsPuzzle.f puzzleB
  refine Ev.bind (implIsRegion_ev R hR) ?_
  have jt : Ev (fun k => impl_IsPuzzle.j0 k true R P) false := Ev.step (fun k => impl_IsPuzzle.j0.eq_2 _ _ _ _) (Ev.pos rfl (Ev.now _))
  by_cases h : regionB R = true
  · refine Ev.pos h ?_
    by_cases h1 : (P.length : Int) < 1
    · have hn : ¬ (1 ≤ (P.length : Int) ∧ (P.length : Int) ≤ 12) := by omega
      rw [decide_eq_false hn]
      exact Ev.pos h1 (Ev.of_eq jt (by simp))
    · refine Ev.neg h1 ?_
      by_cases h2 : (P.length : Int) > 12
      · have hn : ¬ (1 ≤ (P.length : Int) ∧ (P.length : Int) ≤ 12) := by omega
        rw [decide_eq_false hn, decide_eq_true h2]
        exact Ev.of_eq jt (by simp)
      · have hn : 1 ≤ (P.length : Int) ∧ (P.length : Int) ≤ 12 := by omega
        rw [decide_eq_true hn, decide_eq_false h2, h]
        exact Ev.step (fun k => impl_IsPuzzle.j0.eq_2 _ _ _ _) (Ev.neg (by simp) (Ev.of_eq (implPz_l0 R P hP hv P [] rfl (by simp)) (by simp)))
  · exact Ev.neg h (Ev.of_eq jt (by simp [h]))
end
theorem puzzle_args {a : List LCell} {b : List LPiece} (h : ¬ szZ a b < 0) : small (a.map cellOf) ∧ (b.map pieceOf).length ≤ 1048576 ∧ (∀ c ∈ b.map pieceOf, c.f0.length ≤ 1048576) ∧ small (b.map pieceOf) ∧ ∀ c ∈ b.map pieceOf, small c.f0 := by
  obtain ⟨h1, h2, h3⟩ := szZ_le h
  have h4 : ∀ c ∈ b.map pieceOf, c.f0.length ≤ 1048576 := fun c hc => by
    obtain ⟨d, hd, rfl⟩ := List.mem_map.1 hc
    have := h3 d hd
    show (d.f0.map cellOf).length ≤ _
    simpa using this
  refine ⟨by unfold small; simp; omega, by simpa using h2, h4, by unfold small; simp; omega, fun c hc => by have := h4 c hc; unfold small; omega⟩
end Go.Proofs.YtipafadbhmngnaaGreatDoor.L
end
section
namespace Go.Proofs.YtipafadbhmngnaaGreatDoor.L
open Go.RowKit Go.Proofs.YtipafadbhmngnaaGreatDoorW.PrintWords Go.Proofs.YtipafadbhmngnaaGreatDoorW.PrintLast Go.Proofs.YtipafadbhmngnaaGreatDoorW.PrintMore Go.Proofs.YtipafadbhmngnaaGreatDoor.F
set_option linter.unusedVariables false
set_option linter.unusedSimpArgs false
def decT (n : Int) : ByteArray := strOfNums [48 + n]
def signT (b : Bool) : ByteArray := if b = true then ⟨#[42]⟩ else ⟨#[43]⟩
def pieceT (c : Piece) : ByteArray := (((⟨#[32]⟩ : ByteArray) ++ decT c.f1) ++ signT c.f2) ++ textS c.f0
def piecesT : ByteArray → List Piece → ByteArray
  | s, [] => s
  | s, c :: r => piecesT (s ++ pieceT c) r
def puzzleT (R : List Cell) (P : List Piece) : ByteArray := piecesT (textS R) P
theorem decT_size (n : Int) : (decT n).size = 1 := rfl
theorem signT_size (b : Bool) : (signT b).size = 1 := by unfold signT; split <;> rfl
theorem region_high {l : List Cell} (h : regionB l = true) : wideN l ≤ 20 ∧ highN l ≤ 20 ∧ 1 ≤ wideN l ∧ 1 ≤ highN l := by
  have hb := box_ok (shape_ne (region_shape h)) (shapeB_iff.1 (region_shape h)).1
  unfold regionB at h
  simp only [Bool.and_eq_true, decide_eq_true_eq] at h
  unfold wideN highN
  omega
theorem text_size (l : List Cell) : (textS l).size ≤ (wideN l + 1) * highN l := by
  unfold textS
  rw [strOfNums_size]
  exact textI_len _ _ _
theorem region_size {l : List Cell} (h : regionB l = true) : (textS l).size ≤ 420 := by
  have h1 := text_size l
  obtain ⟨h2, h3, _, _⟩ := region_high h
  have h4 : (wideN l + 1) * highN l ≤ 21 * 20 := Nat.mul_le_mul (by omega) h3
  omega
theorem pieceT_size {c : Piece} (h : pieceB c.f0 c.f1 = true) : (pieceT c).size ≤ 423 := by
  unfold pieceB at h
  rw [Bool.and_eq_true] at h
  have h1 := region_size h.1
  unfold pieceT
  rw [ByteArray.size_append, ByteArray.size_append, ByteArray.size_append, decT_size, signT_size]
  show 1 + 1 + 1 + _ ≤ _
  omega
theorem dec_impl {n : Int} (h : 1 ≤ n ∧ n ≤ 8) : strconv_FormatInt_63.f n 10 = some (decT n) := by
  unfold strconv_FormatInt_63.f
  rw [if_pos ⟨by omega, by omega, rfl⟩]
  congr 1
  rw [Lib.decDigits, dif_pos (by omega)]
  unfold decT strOfNums
  simp only [List.map_cons, List.map_nil]
  rw [show (48 + n).toNat = 48 + n.toNat by omega]
theorem dec_spec {n : Int} (h : 1 ≤ n ∧ n ≤ 8) : Ev (fun k => spec_l01Dec.f k n) (decT n) := by
  refine Ev.succ ?_
  simp only [spec_l01Dec.f]
  refine Ev.pos (by omega) (Ev.of_eq (Ev.now _) ?_)
  rw [w64 (by omega) (by omega), Int.emod_eq_of_lt (by omega) (by omega)]
  rfl
theorem piece_in {l : List Cell} {n : Int} (h : pieceB l n = true) : regionB l = true ∧ 1 ≤ n ∧ n ≤ 8 := by
  unfold pieceB at h
  simp only [Bool.and_eq_true, decide_eq_true_eq] at h
  exact ⟨h.1, by omega, by omega⟩
theorem region_text {l : List Cell} (h : regionB l = true) : l ≠ [] ∧ (∀ c ∈ l, okC c) ∧ l.length ≤ 40 :=
  ⟨shape_ne (region_shape h), (shapeB_iff.1 (region_shape h)).1, (shapeB_iff.1 (region_shape h)).2.2.2⟩
theorem specPT_l (R : List Cell) (P : List Piece) (hP : P.length ≤ 1000) (ho : ∀ c ∈ P, pieceB c.f0 c.f1 = true) : ∀ (suf pre : List Piece) (s : ByteArray), P = pre ++ suf → s.size ≤ 1000 + 1000 * pre.length → Ev (fun k => spec_PuzzleText.l0 k s (pre.length : Int) R P) (piecesT s suf)
  | [], pre, s, hx, hs => by
    refine Ev.succ ?_
    have hp := congrArg List.length hx
    simp only [List.length_append, List.length_nil] at hp
    simp only [spec_PuzzleText.l0]
    exact Ev.neg (by omega) (Ev.now _)
  | c :: suf, pre, s, hx, hs => by
    refine Ev.succ ?_
    have hl := pre_len hx
    have hc := ho c (by rw [hx]; simp)
    obtain ⟨h1, h2⟩ := piece_in hc
    obtain ⟨r1, r2, r3⟩ := region_text h1
    have hz := region_size h1
    have hpz := pieceT_size hc
    have ih := specPT_l R P hP ho suf (pre ++ [c]) (s ++ pieceT c) (by rw [hx]; simp) (by rw [ByteArray.size_append, List.length_append, List.length_singleton]; omega)
    simp only [List.length_append, List.length_singleton, Int.natCast_add, Int.natCast_one] at ih
    have e32 : (⟨#[32]⟩ : ByteArray).size = 1 := rfl
    have e42 : (⟨#[42]⟩ : ByteArray).size = 1 := rfl
    have e43 : (⟨#[43]⟩ : ByteArray).size = 1 := rfl
    have hd := decT_size c.f1
    simp only [spec_PuzzleText.l0, pre_lt hx, pre_0, if_true, at_preP hx, pre_w hx (show small P by unfold small; omega)]
    have ea : ∀ z : ByteArray, (((s ++ (⟨#[32]⟩ : ByteArray)) ++ decT c.f1) ++ z) ++ textS c.f0 = s ++ ((((⟨#[32]⟩ : ByteArray) ++ decT c.f1) ++ z) ++ textS c.f0) := fun z => by simp only [ByteArray.append_assoc]
    by_cases hm : c.f2 = true
    · refine Ev.pos hm (Ev.pos (by omega) (Ev.bind (dec_spec h2) (Ev.pos (by rw [ByteArray.size_append]; omega) (Ev.pos (by rw [ByteArray.size_append, ByteArray.size_append]; omega) (Ev.bind (specText_ev c.f0 (by omega) r1 r2) (Ev.pos (by rw [ByteArray.size_append, ByteArray.size_append, ByteArray.size_append]; omega) ?_))))))
      rw [ea]
      have e : pieceT c = (((⟨#[32]⟩ : ByteArray) ++ decT c.f1) ++ ⟨#[42]⟩) ++ textS c.f0 := by unfold pieceT signT; rw [if_pos hm]
      rw [← e]
      exact ih
    · refine Ev.neg hm (Ev.pos (by omega) (Ev.bind (dec_spec h2) (Ev.pos (by rw [ByteArray.size_append]; omega) (Ev.pos (by rw [ByteArray.size_append, ByteArray.size_append]; omega) (Ev.bind (specText_ev c.f0 (by omega) r1 r2) (Ev.pos (by rw [ByteArray.size_append, ByteArray.size_append, ByteArray.size_append]; omega) ?_))))))
      rw [ea]
      have e : pieceT c = (((⟨#[32]⟩ : ByteArray) ++ decT c.f1) ++ ⟨#[43]⟩) ++ textS c.f0 := by unfold pieceT signT; rw [if_neg hm]
      rw [← e]
      exact ih
theorem implPT_l (P : List Piece) (hP : P.length ≤ 1000) (ho : ∀ c ∈ P, pieceB c.f0 c.f1 = true) : ∀ (suf pre : List Piece) (s : ByteArray), P = pre ++ suf → s.size ≤ 1000 + 1000 * pre.length → Ev (fun k => impl_puzzleText.l0 k s P (P.length : Int) (pre.length : Int)) (piecesT s suf)
  | [], pre, s, hx, hs => by
    refine Ev.succ ?_
    have hp := congrArg List.length hx
    simp only [List.length_append, List.length_nil] at hp
    simp only [impl_puzzleText.l0]
    exact Ev.neg (by omega) (Ev.now _)
  | c :: suf, pre, s, hx, hs => by
    refine Ev.succ ?_
    have hl := pre_len hx
    have hc := ho c (by rw [hx]; simp)
    obtain ⟨h1, h2⟩ := piece_in hc
    obtain ⟨r1, r2, r3⟩ := region_text h1
    have hz := region_size h1
    have hpz := pieceT_size hc
    have ih := implPT_l P hP ho suf (pre ++ [c]) (s ++ pieceT c) (by rw [hx]; simp) (by rw [ByteArray.size_append, List.length_append, List.length_singleton]; omega)
    simp only [List.length_append, List.length_singleton, Int.natCast_add, Int.natCast_one] at ih
    have e32 : (⟨#[32]⟩ : ByteArray).size = 1 := rfl
    have e42 : (⟨#[42]⟩ : ByteArray).size = 1 := rfl
    have e43 : (⟨#[43]⟩ : ByteArray).size = 1 := rfl
    have hd := decT_size c.f1
    simp only [impl_puzzleText.l0, pre_lt hx, pre_0, if_true, at_preP hx, pre_w hx (show small P by unfold small; omega)]
    by_cases hm : c.f2 = true
    · have e : pieceT c = (((⟨#[32]⟩ : ByteArray) ++ decT c.f1) ++ ⟨#[42]⟩) ++ textS c.f0 := by unfold pieceT signT; rw [if_pos hm]
      show Ev _ (piecesT (s ++ pieceT c) suf)
      rw [e] at ih hpz ⊢
      exact Ev.pos hm (Ev.bind0 (dec_impl h2) (Ev.pos (by omega) (Ev.pos (by rw [ByteArray.size_append]; omega) (Ev.bind (implText_ev c.f0 (by omega) r1 r2) (Ev.pos (by rw [ByteArray.size_append, ByteArray.size_append]; omega) (Ev.pos (by omega) ih))))))
    · have e : pieceT c = (((⟨#[32]⟩ : ByteArray) ++ decT c.f1) ++ ⟨#[43]⟩) ++ textS c.f0 := by unfold pieceT signT; rw [if_neg hm]
      show Ev _ (piecesT (s ++ pieceT c) suf)
      rw [e] at ih hpz ⊢
      exact Ev.neg hm (Ev.bind0 (dec_impl h2) (Ev.pos (by omega) (Ev.pos (by rw [ByteArray.size_append]; omega) (Ev.bind (implText_ev c.f0 (by omega) r1 r2) (Ev.pos (by rw [ByteArray.size_append, ByteArray.size_append]; omega) (Ev.pos (by omega) ih))))))
theorem okPs_all : ∀ (suf pre : List Piece), okPs pre suf = true → ∀ c ∈ suf, pieceB c.f0 c.f1 = true
  | [], _, _, c, hc => by cases hc
  | a :: r, pre, h, c, hc => by
    unfold okPs at h
    simp only [Bool.and_eq_true] at h
    rcases List.mem_cons.1 hc with rfl | hc
    · exact h.1
    · exact okPs_all r _ h.2.2 c hc
theorem puzzle_in {R : List Cell} {P : List Piece} (h : puzzleB R P = true) : regionB R = true ∧ 1 ≤ P.length ∧ P.length ≤ 12 ∧ ∀ c ∈ P, pieceB c.f0 c.f1 = true := by
  unfold puzzleB at h
  simp only [Bool.and_eq_true, decide_eq_true_eq] at h
  exact ⟨h.1, by omega, by omega, okPs_all P [] h.2.2⟩
def puzzleTR (R : List Cell) (P : List Piece) : ByteArray := if puzzleB R P = true then puzzleT R P else ⟨#[]⟩
theorem specPT_ev (R : List Cell) (P : List Piece) (hP : P.length ≤ 1048576) (hv : ∀ c ∈ P, c.f0.length ≤ 1048576) (hR : small R) : Ev (fun k => spec_PuzzleText.f k R P) (puzzleTR R P) := by
  unfold spec_PuzzleText.f puzzleTR
  refine Ev.bind (specPuzzle_ev R P hP hv hR) (Ev.if_ (fun h => ?_) (fun _ => Ev.now _))
  obtain ⟨h1, _, h3, h4⟩ := puzzle_in h
  obtain ⟨r1, r2, r3⟩ := region_text h1
  have hz := region_size h1
  exact Ev.bind (specText_ev R (by omega) r1 r2) (specPT_l R P (by omega) h4 P [] _ rfl (by omega))
theorem implPt_ev (R : List Cell) (P : List Piece) (h : puzzleB R P = true) : Ev (fun k => impl_puzzleText.f k R P) (puzzleT R P) := by
  obtain ⟨h1, _, h3, h4⟩ := puzzle_in h
  obtain ⟨r1, r2, r3⟩ := region_text h1
  have hz := region_size h1
  unfold impl_puzzleText.f
  exact Ev.bind (implText_ev R (by omega) r1 r2) (implPT_l P (by omega) h4 P [] _ rfl (by omega))
theorem implPT_ev (R : List Cell) (P : List Piece) (hP : P.length ≤ 1048576) (hv : ∀ c ∈ P, c.f0.length ≤ 1048576) (hR : small R) : Ev (fun k => impl_PuzzleText.f k R P) (puzzleTR R P) := by
  unfold impl_PuzzleText.f puzzleTR
  exact Ev.bind (implPuzzle_ev R P hP hv hR) (Ev.if_ (fun h => Ev.bind (implPt_ev R P h) (Ev.now _)) (fun _ => Ev.now _))
end Go.Proofs.YtipafadbhmngnaaGreatDoor.L
end
section
namespace Go.Proofs.YtipafadbhmngnaaGreatDoor.Pure
open Go.RowKit Go.Proofs.YtipafadbhmngnaaGreatDoorW.PrintWords Go.Proofs.YtipafadbhmngnaaGreatDoor.F Go.Proofs.YtipafadbhmngnaaGreatDoor.L
set_option linter.unusedVariables false
theorem FnExactPuzzleText (a : List LCell) (b : List LPiece) (hv : V25 ⟨a, b⟩) : ∃ k, laws_FnExactPuzzleText.f k a b = some true := by
  refine Ev.rounds ?_
  have va : a.length ≤ 9223372036854775807 := hv.1.1
  have vb : b.length ≤ 9223372036854775807 := hv.2.1
  have vc : ∀ c ∈ b, c.f0.length ≤ 9223372036854775807 := fun c hc => (hv.2.2 c hc).1.1
  unfold laws_FnExactPuzzleText.f
  refine Ev.bind (szPuzzle_ev a b va vb vc) ?_
  by_cases h : szZ a b < 0
  · rw [if_pos h]; exact Ev.pos (by decide) (Ev.now _)
  · rw [if_neg h]
    obtain ⟨h1, h2, h3⟩ := szZ_le h
    obtain ⟨g1, g2, g3, g4, g5⟩ := puzzle_args h
    have tz := toPuzzle_ev a b h1 h2 h3
    refine Ev.neg h (Ev.bind tz (Ev.bind (specPT_ev _ _ g2 g3 g1) (Ev.bind tz (Ev.bind (implPT_ev _ _ g2 g3 g1) (Ev.pos rfl ?_)))))
    exact Ev.bind tz (Ev.bind (eqPuzzle_ev _ _ g1 g4 g5) (Ev.pos rfl (Ev.now _)))
end Go.Proofs.YtipafadbhmngnaaGreatDoor.Pure
end
