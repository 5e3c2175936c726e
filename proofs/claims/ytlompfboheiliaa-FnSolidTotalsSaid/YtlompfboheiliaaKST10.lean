/- The row of FnSolidTotals, with what it needs: text 11 of 12. -/
import Derived.Test.YtlompfboheiliaaKST9
set_option maxHeartbeats 8000000
set_option maxRecDepth 100000
section
namespace Go.Proofs.Ytlompfboheiliaa.L
open Go.RowKit Go.Proofs.YtlompfboheiliaaW.PrintWords Go.Proofs.YtlompfboheiliaaW.PrintLast Go.Proofs.YtlompfboheiliaaW.PrintMore Go.Proofs.Ytlompfboheiliaa.F
set_option linter.unusedVariables false
set_option linter.unusedSimpArgs false
theorem specMoveQ_ev (l : List Cube) (m : Int × Int × Int) (hl : l.length ≤ 1048576) : Ev (fun k => spec_l09Move.f k l (wrap64 (-m.1)) (wrap64 (-m.2.1)) (wrap64 (-m.2.2))) (moveQ l m) := by
  have hs : small l := by unfold small; omega
  unfold spec_l09Move.f
  have := loop_list l (fun k i (s : List Cube) => spec_l09Move.l0 k l s i (wrap64 (-m.1)) (wrap64 (-m.2.1)) (wrap64 (-m.2.2))) (fun pre suf s => s ++ moveQ suf m) (fun pre s => s.length = pre.length) ?_ ?_ [] rfl
  · simpa using this
  · intro s _
    simp only [spec_l09Move.l0, len_lt, if_false]
    exact Ev.of_eq (Ev.now _) (by simp [moveQ])
  · intro pre c suf s hx hi ih
    have hp := pre_len hx
    simp only [spec_l09Move.l0, pre_lt hx, pre_0, if_true, at_preQ hx, pre_w hx hs, spec_l09Add.f, Option.bind_some, wsub]
    refine Ev.pos (by omega) (Ev.of_eq (ih _ (by simp [hi])) ?_)
    simp [moveQ]
theorem specNormalQ_ev (l : List Cube) (hl : l.length ≤ 1048576) (h0 : 0 < l.length) : Ev (fun k => spec_l09Normal.f k l) (normalQ l) := by
  have hs : small l := by unfold small; omega
  unfold spec_l09Normal.f
  obtain ⟨c, r, rfl⟩ : ∃ c r, l = c :: r := by cases l with | nil => simp at h0 | cons c r => exact ⟨c, r, rfl⟩
  refine Ev.pos (by simp <;> omega) ?_
  have h1 : rd_T43 (c :: r) 0 = c := rfl
  rw [h1]
  refine loop_tailQ c r (fun k i (s : Int × Int × Int) => spec_l09Normal.l0 k (c :: r) s.1 s.2.1 s.2.2 i) (fun _ suf s => moveQ (c :: r) (minQ s suf)) (fun _ _ => True) ?_ ?_ (c.f0, c.f1, c.f2) trivial
  · rintro s _
    simp only [spec_l09Normal.l0, len_lt, if_false]
    exact Ev.bind (specMoveQ_ev (c :: r) s hl) (Ev.now _)
  · rintro pre d suf s hx _ _ ih
    simp only [spec_l09Normal.l0, pre_lt hx, pre_0, if_true, at_preQ hx, pre_w hx hs]
    exact ih (mn s.1 d.f0, mn s.2.1 d.f1, mn s.2.2 d.f2) trivial
theorem implMoveQ_ev (l : List Cube) (m : Int × Int × Int) (hl : l.length ≤ 1048576) : Ev (fun k => impl_normalCubes.l1 k [] l (l.length : Int) 0 m.1 m.2.1 m.2.2) (moveQ l m) := by
  have hs : small l := by unfold small; omega
  have := loop_list l (fun k i (s : List Cube) => impl_normalCubes.l1 k s l (l.length : Int) i m.1 m.2.1 m.2.2) (fun pre suf s => s ++ moveQ suf m) (fun pre s => s.length = pre.length) ?_ ?_ [] rfl
  · simpa using this
  · intro s _
    simp only [impl_normalCubes.l1, len_lt, if_false]
    exact Ev.of_eq (Ev.now _) (by simp [moveQ])
  · intro pre c suf s hx hi ih
    have hp := pre_len hx
    simp only [impl_normalCubes.l1, pre_lt hx, pre_0, if_true, at_preQ hx, pre_w hx hs]
    refine Ev.pos (by omega) (Ev.of_eq (ih _ (by simp [hi])) ?_)
    simp [moveQ]
theorem implNormalQ_ev (l : List Cube) (hl : l.length ≤ 1048576) (h0 : 0 < l.length) : Ev (fun k => impl_normalCubes.f k l) (normalQ l) := by
  have hs : small l := by unfold small; omega
  unfold impl_normalCubes.f
  obtain ⟨c, r, rfl⟩ : ∃ c r, l = c :: r := by cases l with | nil => simp at h0 | cons c r => exact ⟨c, r, rfl⟩
  refine Ev.pos (by simp <;> omega) ?_
  have h1 : rd_T43 (c :: r) 0 = c := rfl
  rw [h1]
  have := loop_list (c :: r) (fun k i (s : Int × Int × Int) => impl_normalCubes.l0 k (c :: r) (c :: r) ((c :: r).length : Int) i s.1 s.2.1 s.2.2) (fun _ suf s => moveQ (c :: r) (minQ s suf)) (fun _ _ => True) ?_ ?_ (c.f0, c.f1, c.f2) trivial
  · refine Ev.of_eq this ?_
    simp [normalQ, leastQ, minQ, mn]
  · rintro s _
    simp only [impl_normalCubes.l0, len_lt, if_false]
    exact Ev.pos (by omega) (Ev.pos (by omega) (implMoveQ_ev (c :: r) s hl))
  · rintro pre d suf s hx _ ih
    simp only [impl_normalCubes.l0, pre_lt hx, pre_0, if_true, at_preQ hx, pre_w hx hs]
    exact ih (mn s.1 d.f0, mn s.2.1 d.f1, mn s.2.2 d.f2) trivial
theorem sortedQ_le (x y : Cube) : (!Go.Proofs.ltOf cmpV y x) = decide (¬ ltQ y x) := by
  unfold Go.Proofs.ltOf
  by_cases h : ltQ y x
  · simp [h, (cmpV_lt y x).2 h]
  · have : ¬ cmpV y x < 0 := fun h' => h ((cmpV_lt y x).1 h')
    simp [h, this]
theorem sortQ_perm (l : List Cube) : (sortC l).Perm l := List.mergeSort_perm _ _
theorem sortQ_len (l : List Cube) : (sortC l).length = l.length := (sortQ_perm l).length_eq
theorem sortQ_sorted (l : List Cube) : (sortC l).Pairwise fun a b => ¬ ltQ b a := by
  have := List.pairwise_mergeSort (le := fun x y : Cube => !Go.Proofs.ltOf cmpV y x) (fun a b c h1 h2 => by
    rw [sortedQ_le, decide_eq_true_eq] at *
    unfold ltQ at *
    omega) (fun a b => by
    rw [sortedQ_le, sortedQ_le, Bool.or_eq_true, decide_eq_true_eq, decide_eq_true_eq]
    unfold ltQ
    omega) l
  exact this.imp fun h => by rw [sortedQ_le, decide_eq_true_eq] at h; exact h
theorem eq_of_sortedQ : ∀ (l l' : List Cube), l.Perm l' → (l.Pairwise fun a b => ¬ ltQ b a) → (l'.Pairwise fun a b => ¬ ltQ b a) → l = l'
  | [], l', hp, _, _ => (List.Perm.nil_eq hp)
  | a :: r, [], hp, _, _ => absurd hp.symm (by simp)
  | a :: r, b :: s, hp, h1, h2 => by
    obtain ⟨h3, h4⟩ := List.pairwise_cons.1 h1
    obtain ⟨h5, h6⟩ := List.pairwise_cons.1 h2
    have hab : a = b := by
      have ha : a ∈ b :: s := hp.mem_iff.1 List.mem_cons_self
      have hb : b ∈ a :: r := hp.mem_iff.2 List.mem_cons_self
      have n1 : ¬ ltQ b a := by
        rcases List.mem_cons.1 hb with e | e
        · rw [e]; exact ltQ_irrefl a
        · exact h3 b e
      have n2 : ¬ ltQ a b := by
        rcases List.mem_cons.1 ha with e | e
        · rw [e]; exact ltQ_irrefl b
        · exact h5 a e
      exact ltQ_total n2 n1
    subst hab
    rw [eq_of_sortedQ r s (List.Perm.cons_inv hp) h4 h6]
theorem sortQ_eq {l l' : List Cube} (hp : l'.Perm l) (hs : l'.Pairwise fun a b => ¬ ltQ b a) : sortC l = l' :=
  eq_of_sortedQ _ _ ((sortQ_perm l).trans hp.symm) (sortQ_sorted l) hs
theorem insQ_sorted (c : Cube) : ∀ l : List Cube, (l.Pairwise fun a b => ¬ ltQ b a) → (insQ c l).Pairwise fun a b => ¬ ltQ b a
  | [], _ => by simp [insQ]
  | a :: r, h => by
    obtain ⟨h1, h2⟩ := List.pairwise_cons.1 h
    unfold insQ
    split
    · rename_i hc
      refine List.pairwise_cons.2 ⟨fun b hb => ?_, insQ_sorted c r h2⟩
      rcases List.mem_cons.1 ((insQ_perm c r).mem_iff.1 hb) with rfl | hb
      · unfold ltQ at *; omega
      · exact h1 b hb
    · rename_i hc
      refine List.pairwise_cons.2 ⟨fun b hb => ?_, h⟩
      rcases List.mem_cons.1 hb with rfl | hb
      · exact hc
      · have := h1 b hb
        unfold ltQ at *; omega
theorem insAllQ_spec : ∀ (l acc : List Cube), (acc.Pairwise fun a b => ¬ ltQ b a) → (insAllQ acc l).Perm (acc ++ l) ∧ (insAllQ acc l).Pairwise fun a b => ¬ ltQ b a
  | [], acc, h => ⟨by simp [insAllQ], h⟩
  | c :: r, acc, h => by
    obtain ⟨h1, h2⟩ := insAllQ_spec r (insQ c acc) (insQ_sorted c acc h)
    refine ⟨h1.trans ?_, h2⟩
    refine ((insQ_perm c acc).append_right r).trans ?_
    exact List.perm_middle.symm
theorem insAllQ_eq (l : List Cube) : insAllQ [] l = sortC l := by
  obtain ⟨h1, h2⟩ := insAllQ_spec l [] List.Pairwise.nil
  exact (sortQ_eq (by simpa using h1) h2).symm
theorem specSortQ_ev (l : List Cube) (hl : l.length ≤ 1048576) : Ev (fun k => spec_l09Sort.f k l) (sortC l) := by
  have hs : small l := by unfold small; omega
  unfold spec_l09Sort.f
  rw [← insAllQ_eq]
  refine loop_list l (fun k i (s : List Cube) => spec_l09Sort.l0 k l s i) (fun pre suf s => insAllQ s suf) (fun pre s => s.length = pre.length) ?_ ?_ [] rfl
  · intro s _
    simp only [spec_l09Sort.l0, len_lt, if_false]
    exact Ev.now _
  · intro pre c suf s hx hi ih
    have hp := pre_len hx
    simp only [spec_l09Sort.l0, pre_lt hx, if_true]
    refine specIns_l l (pre.length : Int) c (by omega) (by omega) (at_preQ hx) s (by omega) s [] rfl ?_
    rw [List.nil_append, pre_w hx hs]
    exact ih _ (by rw [(insQ_perm c s).length_eq]; simp [hi])
theorem implSortQ_eq (l : List Cube) (h0 : 0 < l.length) (h1 : l.length ≤ 1000000000000) : impl_Cube_37__impl_compareCubes.f l = some (sortC l) := by
  unfold impl_Cube_37__impl_compareCubes.f
  rw [if_pos ⟨h0, by omega⟩]
def rotZ : Nat → Int × Int × Int → Int × Int × Int
  | 0, p => p
  | n + 1, p => rotZ n (wrap64 (-p.2.1), p.1, p.2.2)
def rotX : Nat → Int × Int × Int → Int × Int × Int
  | 0, p => p
  | n + 1, p => rotX n (p.1, wrap64 (-p.2.2), p.2.1)
def tiltQ (f : Int) (p : Int × Int × Int) : Int × Int × Int := if f < 4 then rotX f.toNat p else if f = 5 then (wrap64 (-p.2.2), p.2.1, p.1) else (p.2.2, p.2.1, wrap64 (-p.1))
def turnQ (c : Cube) (t : Int) : Int × Int × Int := tiltQ (t / 4 % 6) (rotZ (t % 4).toNat (if t ≥ 24 then (wrap64 (-c.f0), c.f1, c.f2) else (c.f0, c.f1, c.f2)))
def turnE (t : Int) (c : Cube) : Cube := ⟨(turnQ c t).1, (turnQ c t).2.1, (turnQ c t).2.2⟩
theorem w64_rng (n : Int) : -9223372036854775808 ≤ wrap64 n ∧ wrap64 n ≤ 9223372036854775807 := by unfold wrap64; omega
theorem wneg2 {x : Int} (h : -9223372036854775808 ≤ x) (h' : x ≤ 9223372036854775807) : wrap64 (-wrap64 (-x)) = x := by unfold wrap64; omega
def inr (p : Int × Int × Int) : Prop := (-9223372036854775808 ≤ p.1 ∧ p.1 ≤ 9223372036854775807) ∧ (-9223372036854775808 ≤ p.2.1 ∧ p.2.1 ≤ 9223372036854775807)
theorem tdf {t : Int} (h : 0 ≤ t) (h' : t ≤ 1000) : Int.tmod (wrap64 (Int.tdiv t 4)) 6 = t / 4 % 6 := by
  have e : Int.tdiv t 4 = t / 4 := Int.tdiv_eq_ediv_of_nonneg h
  rw [e, w64 (by omega) (by omega), Int.tmod_eq_emod_of_nonneg (by omega)]
theorem tmod4' {t : Int} (h : 0 ≤ t) : Int.tmod t 4 = ((t % 4).toNat : Int) := by
  rw [Int.tmod_eq_emod_of_nonneg h]
  omega
theorem specTilt_l (n : Nat) (hn : n ≤ 1048576) : ∀ p : Int × Int × Int, Ev (fun k => spec_l09Turn.l1 k (n : Int) p.1 p.2.1 p.2.2) (rotX n p) := by
  induction n with
  | zero =>
    intro p
    refine Ev.succ ?_
    simp only [spec_l09Turn.l1]
    exact Ev.neg (by simp) (Ev.now _)
  | succ n ih =>
    intro p
    refine Ev.succ ?_
    simp only [spec_l09Turn.l1]
    have e1 : wrap64 (((n + 1 : Nat) : Int) - 1) = (n : Int) := by rw [w64 (by omega) (by omega)]; omega
    refine Ev.pos (by omega) ?_
    simp only [e1]
    exact ih (by omega) (p.1, wrap64 (-p.2.2), p.2.1)
theorem specTurnQ_l (t : Int) (h0 : 0 ≤ t) (h1 : t ≤ 1000) (n : Nat) (hn : n ≤ 1048576) : ∀ p : Int × Int × Int, Ev (fun k => spec_l09Turn.l0 k t (n : Int) p.1 p.2.1 p.2.2) (tiltQ (t / 4 % 6) (rotZ n p)) := by
  induction n with
  | zero =>
    intro p
    refine Ev.succ ?_
    simp only [spec_l09Turn.l0, tdf h0 h1]
    refine Ev.neg (by simp) ?_
    unfold tiltQ rotZ
    by_cases h4 : t / 4 % 6 = 4
    · rw [if_neg (by omega), if_neg (by omega)]
      exact Ev.pos h4 (Ev.now _)
    · by_cases h5 : t / 4 % 6 = 5
      · rw [if_neg (by omega), if_pos h5]
        exact Ev.neg h4 (Ev.pos h5 (Ev.now _))
      · rw [if_pos (by omega)]
        refine Ev.neg h4 (Ev.neg h5 ?_)
        have := specTilt_l (t / 4 % 6).toNat (by omega) p
        rw [Int.toNat_of_nonneg (by omega)] at this
        exact this
  | succ n ih =>
    intro p
    refine Ev.succ ?_
    simp only [spec_l09Turn.l0]
    have e1 : wrap64 (((n + 1 : Nat) : Int) - 1) = (n : Int) := by rw [w64 (by omega) (by omega)]; omega
    refine Ev.pos (by omega) ?_
    simp only [e1]
    exact ih (by omega) (wrap64 (-p.2.1), p.1, p.2.2)
theorem specTurnQ_ev (c : Cube) (t : Int) (h0 : 0 ≤ t) (h1 : t ≤ 1000) : Ev (fun k => spec_l09Turn.f k c.f0 c.f1 c.f2 t) (turnQ c t) := by
  unfold spec_l09Turn.f turnQ
  have := specTurnQ_l t h0 h1 (t % 4).toNat (by omega)
  by_cases h4 : t ≥ 24
  · rw [if_pos h4]
    refine Ev.pos h4 (Ev.step (fun k => spec_l09Turn.j0.eq_2 _ _ _ _ _) ?_)
    simp only [tmod4' h0]
    exact this (wrap64 (-c.f0), c.f1, c.f2)
  · rw [if_neg h4]
    refine Ev.neg h4 (Ev.step (fun k => spec_l09Turn.j0.eq_2 _ _ _ _ _) ?_)
    simp only [tmod4' h0]
    exact this (c.f0, c.f1, c.f2)
theorem implTilt_l (m : Nat) (hm : m ≤ 1048576) (n : Nat) : ∀ (i : Nat) (p : Int × Int × Int), i + n = m → Ev (fun k => impl_turnCube.l1 k (m : Int) (i : Int) p.1 p.2.1 p.2.2) (rotX n p) := by
  induction n with
  | zero =>
    intro i p hi
    refine Ev.succ ?_
    simp only [impl_turnCube.l1]
    exact Ev.neg (by omega) (Ev.now _)
  | succ n ih =>
    intro i p hi
    refine Ev.succ ?_
    simp only [impl_turnCube.l1]
    have e1 : wrap64 ((i : Int) + 1) = ((i + 1 : Nat) : Int) := by rw [w64 (by omega) (by omega)]; omega
    refine Ev.pos (by omega) ?_
    simp only [e1]
    exact ih (i + 1) (p.1, wrap64 (-p.2.2), p.2.1) (by omega)
theorem implFlip1 (p : Int × Int × Int) : Ev (fun k => impl_turnCube.j3 k 1 p.1 p.2.1 p.2.2) (p.2.2, p.2.1, wrap64 (-p.1)) := by
  refine Ev.step (fun k => impl_turnCube.j3.eq_2 _ _ _ _ _) (Ev.succ ?_)
  simp only [impl_turnCube.l2]
  refine Ev.pos (by decide) (Ev.succ ?_)
  simp only [impl_turnCube.l2]
  exact Ev.neg (by unfold wrap64; omega) (Ev.now _)
theorem implFlip3 (p : Int × Int × Int) (h : inr p) : Ev (fun k => impl_turnCube.j3 k 3 p.1 p.2.1 p.2.2) (wrap64 (-p.2.2), p.2.1, p.1) := by
  refine Ev.step (fun k => impl_turnCube.j3.eq_2 _ _ _ _ _) (Ev.succ ?_)
  simp only [impl_turnCube.l2]
  refine Ev.pos (by decide) (Ev.succ ?_)
  simp only [impl_turnCube.l2]
  refine Ev.pos (by unfold wrap64; omega) (Ev.succ ?_)
  simp only [impl_turnCube.l2]
  refine Ev.pos (by unfold wrap64; omega) (Ev.succ ?_)
  simp only [impl_turnCube.l2]
  refine Ev.neg (by unfold wrap64; omega) (Ev.of_eq (Ev.now _) ?_)
  rw [wneg2 h.1.1 h.1.2]
theorem implTurnQ_l (t : Int) (h0 : 0 ≤ t) (h1 : t ≤ 1000) (m : Nat) (hm : m ≤ 1048576) (n : Nat) : ∀ (i : Nat) (p : Int × Int × Int), i + n = m → inr p → Ev (fun k => impl_turnCube.l0 k t (m : Int) (i : Int) p.1 p.2.1 p.2.2) (tiltQ (t / 4 % 6) (rotZ n p)) := by
  induction n with
  | zero =>
    intro i p hi hp
    refine Ev.succ ?_
    simp only [impl_turnCube.l0, tdf h0 h1]
    refine Ev.neg (by omega) ?_
    unfold tiltQ rotZ
    by_cases h4 : t / 4 % 6 < 4
    · rw [if_pos h4]
      refine Ev.pos h4 ?_
      have := implTilt_l (t / 4 % 6).toNat (by omega) (t / 4 % 6).toNat 0 p (by omega)
      rw [Int.toNat_of_nonneg (by omega)] at this
      exact this
    · rw [if_neg h4]
      refine Ev.neg h4 ?_
      by_cases h5 : t / 4 % 6 = 5
      · rw [if_pos h5]
        exact Ev.pos h5 (implFlip3 p hp)
      · rw [if_neg h5]
        exact Ev.neg h5 (implFlip1 p)
  | succ n ih =>
    intro i p hi hp
    refine Ev.succ ?_
    simp only [impl_turnCube.l0]
    have e1 : wrap64 ((i : Int) + 1) = ((i + 1 : Nat) : Int) := by rw [w64 (by omega) (by omega)]; omega
    refine Ev.pos (by omega) ?_
    simp only [e1]
    exact ih (i + 1) (wrap64 (-p.2.1), p.1, p.2.2) (by omega) ⟨w64_rng _, hp.1⟩
theorem implTurnQ_ev (c : Cube) (t : Int) (h0 : 0 ≤ t) (h1 : t ≤ 1000) (hc : okQ c) : Ev (fun k => impl_turnCube.f k c.f0 c.f1 c.f2 t) (turnQ c t) := by
  unfold impl_turnCube.f turnQ
  have := implTurnQ_l t h0 h1 (t % 4).toNat (by omega) (t % 4).toNat 0
  obtain ⟨c0, c1, c2⟩ := hc
  unfold ok1 at c0 c1 c2
  by_cases h4 : t ≥ 24
  · rw [if_pos h4]
    refine Ev.pos h4 (Ev.step (fun k => impl_turnCube.j0.eq_2 _ _ _ _ _) ?_)
    simp only [tmod4' h0]
    exact this (wrap64 (-c.f0), c.f1, c.f2) (by omega) ⟨w64_rng _, (by show -9223372036854775808 ≤ c.f1; omega), (by show c.f1 ≤ 9223372036854775807; omega)⟩
  · rw [if_neg h4]
    refine Ev.neg h4 (Ev.step (fun k => impl_turnCube.j0.eq_2 _ _ _ _ _) ?_)
    simp only [tmod4' h0]
    exact this (c.f0, c.f1, c.f2) (by omega) ⟨⟨(by show -9223372036854775808 ≤ c.f0; omega), (by show c.f0 ≤ 9223372036854775807; omega)⟩, (by show -9223372036854775808 ≤ c.f1; omega), (by show c.f1 ≤ 9223372036854775807; omega)⟩
def formQ (l : List Cube) (t : Int) : List Cube := normalQ (sortC (l.map (turnE t)))
theorem formQ_len (l : List Cube) (t : Int) : (formQ l t).length = l.length := by unfold formQ; rw [normalQ_len, sortQ_len]; simp
theorem specFormQ_ev (l : List Cube) (t : Int) (h0 : 0 ≤ t) (h1 : t ≤ 1000) (hl : l.length ≤ 1048576) (hp : 0 < l.length) : Ev (fun k => spec_l09Form.f k l t) (formQ l t) := by
  have hs : small l := by unfold small; omega
  unfold spec_l09Form.f formQ
  have := loop_list l (fun k i (s : List Cube) => spec_l09Form.l0 k l t s i) (fun pre suf s => normalQ (sortC (s ++ suf.map (turnE t)))) (fun pre s => s.length = pre.length) ?_ ?_ [] rfl
  · simpa using this
  · intro s hi
    have hi' : s.length = l.length := hi
    simp only [spec_l09Form.l0, len_lt, if_false]
    exact Ev.bind (specSortQ_ev s (by omega)) (Ev.bind (specNormalQ_ev _ (by rw [sortQ_len]; omega) (by rw [sortQ_len]; omega)) (Ev.of_eq (Ev.now _) (by simp)))
  · intro pre c suf s hx hi ih
    have hp := pre_len hx
    simp only [spec_l09Form.l0, pre_lt hx, pre_0, if_true, at_preQ hx, pre_w hx hs]
    refine Ev.bind (specTurnQ_ev c t h0 h1) (Ev.pos (by omega) (Ev.of_eq (ih (s ++ [turnE t c]) (by simp [hi])) (by simp)))
theorem implFormQ_ev (l : List Cube) (t : Int) (h0 : 0 ≤ t) (h1 : t ≤ 1000) (hl : l.length ≤ 1048576) (hp : 0 < l.length) (ho : ∀ c ∈ l, okQ c) : Ev (fun k => impl_cubeForm.f k l t) (formQ l t) := by
  have hs : small l := by unfold small; omega
  unfold impl_cubeForm.f formQ
  refine Ev.pos (by omega) (Ev.pos (by omega) ?_)
  have := loop_list l (fun k i (s : List Cube) => impl_cubeForm.l0 k t s l (l.length : Int) i) (fun pre suf s => normalQ (sortC (s ++ suf.map (turnE t)))) (fun pre s => s.length = pre.length) ?_ ?_ [] rfl
  · simpa using this
  · intro s hi
    have hi' : s.length = l.length := hi
    simp only [impl_cubeForm.l0, len_lt, if_false, implSortQ_eq s (by omega) (by omega), Option.bind_some]
    exact Ev.bind (implNormalQ_ev _ (by rw [sortQ_len]; omega) (by rw [sortQ_len]; omega)) (Ev.of_eq (Ev.now _) (by simp))
  · intro pre c suf s hx hi ih
    have hp := pre_len hx
    simp only [impl_cubeForm.l0, pre_lt hx, pre_0, if_true, at_preQ hx, pre_w hx hs]
    refine Ev.bind (implTurnQ_ev c t h0 h1 (ho c (by rw [hx]; simp))) (Ev.pos (by omega) (Ev.of_eq (ih (s ++ [turnE t c]) (by simp [hi])) (by simp)))
instance decEqCube : DecidableEq Cube := fun a b => decidable_of_iff (a.f0 = b.f0 ∧ a.f1 = b.f1 ∧ a.f2 = b.f2) (by cases a; cases b; simp)
def cmpLQ : List Cube → List Cube → Int
  | [], _ => 0
  | _ :: _, [] => 0
  | a :: r, b :: s => if ltQ a b then -1 else if ltQ b a then 1 else cmpLQ r s
def cmpSQ (a b : List Cube) : Int := if a.length = b.length then cmpLQ a b else if a.length < b.length then -1 else 1
theorem cmpLQ_zero : ∀ (a b : List Cube), a.length = b.length → (cmpLQ a b = 0 ↔ a = b)
  | [], b, h => by
    have : b = [] := List.length_eq_zero_iff.1 h.symm
    simp [cmpLQ, this]
  | a :: r, [], h => by simp at h
  | a :: r, b :: s, h => by
    unfold cmpLQ
    by_cases h1 : ltQ a b
    · rw [if_pos h1]
      have : a ≠ b := fun e => ltQ_irrefl b (e ▸ h1)
      simp [this]
    · rw [if_neg h1]
      by_cases h2 : ltQ b a
      · rw [if_pos h2]
        have : a ≠ b := fun e => ltQ_irrefl b (e ▸ h2)
        simp [this]
      · rw [if_neg h2, cmpLQ_zero r s (by simpa using h)]
        simp [ltQ_total h1 h2]
theorem cmpSQ_zero (a b : List Cube) : cmpSQ a b = 0 ↔ a = b := by
  unfold cmpSQ
  by_cases h : a.length = b.length
  · rw [if_pos h]; exact cmpLQ_zero a b h
  · rw [if_neg h]
    have : a ≠ b := fun e => h (by rw [e])
    split <;> simp [this]
theorem rdQ (b : List Cube) (i : Nat) (h : i < b.length) : rd_T43 b (i : Int) = b[i] := by
  unfold rd_T43
  rw [List.getD_eq_getElem?_getD, Int.toNat_natCast, List.getElem?_eq_getElem h]
  rfl
theorem specCompareQ_ev (a b : List Cube) (ha : small a) : Ev (fun k => spec_l09Compare.f k a b) (cmpSQ a b) := by
  unfold spec_l09Compare.f cmpSQ
  by_cases hl : a.length = b.length
  · rw [if_pos hl]
    refine Ev.pos (by omega) ?_
    refine loop_list a (fun k i (_ : Unit) => spec_l09Compare.l0 k a b i) (fun pre suf _ => cmpLQ suf (b.drop pre.length)) (fun _ _ => True) ?_ ?_ () trivial
    · intro _ _
      simp only [spec_l09Compare.l0, len_lt, if_false]
      exact Ev.of_eq (Ev.now _) (by simp [cmpLQ])
    · intro pre c suf _ hx _ ih
      have hp := pre_len hx
      have hpb : pre.length < b.length := by omega
      have hlt : ((pre.length : Int) < (b.length : Int)) = True := by simp; omega
      have eb := rdQ b pre.length hpb
      have e1 := less9_eq c b[pre.length]
      have e2 := less9_eq b[pre.length] c
      simp only [spec_l09Compare.l0, pre_lt hx, pre_0, if_true, hlt, at_preQ hx, pre_w hx ha, eb]
      rw [List.drop_eq_getElem_cons hpb, cmpLQ]
      have hih := ih () trivial
      rw [List.length_append, List.length_singleton] at hih
      rw [e1, e2]
      generalize b.drop (pre.length + 1) = R at hih ⊢
      generalize b[pre.length] = d at hih ⊢
      simp only [Option.bind_some, decide_eq_true_eq]
      by_cases h1 : ltQ c d
      · rw [if_pos h1]
        exact Ev.pos h1 (Ev.now _)
      · rw [if_neg h1]
        refine Ev.neg h1 ?_
        by_cases h2 : ltQ d c
        · rw [if_pos h2]
          exact Ev.pos h2 (Ev.now _)
        · rw [if_neg h2]
          exact Ev.neg h2 hih
  · rw [if_neg hl]
    refine Ev.neg (by omega) ?_
    by_cases h : a.length < b.length
    · rw [if_pos h]; exact Ev.pos (by omega) (Ev.now _)
    · rw [if_neg h]; exact Ev.neg (by omega) (Ev.now _)
def cmpJ (a b : Int) : Int := if a < b then -1 else if a > b then 1 else 0
theorem cmpJ_zero {a b : Int} : cmpJ a b = 0 ↔ a = b := by
  unfold cmpJ
  split
  · constructor <;> intro h <;> omega
  · split
    · constructor <;> intro h <;> omega
    · constructor <;> intro h <;> omega
theorem compareInt_eq (a b : Int) : cmp_Compare_int.f a b = some (cmpJ a b) := by
  unfold cmp_Compare_int.f cmp_isNaN_int.f cmpJ
  simp only [bne_self_eq_false, Option.bind_some, Bool.false_eq_true, if_false]
  split
  · rfl
  · split <;> rfl
theorem implCompareQ_ev (a b : List Cube) (ha : small a) : Ev (fun k => impl_compareSolids.f k a b) (cmpSQ a b) := by
  unfold impl_compareSolids.f cmpSQ
  rw [compareInt_eq]
  simp only [Option.bind_some]
  by_cases hl : a.length = b.length
  · rw [if_pos hl]
    refine Ev.pos (cmpJ_zero.2 (by omega)) (Ev.bind ?_ (Ev.now _))
    unfold impl_Cube_59__impl_compareCubes.f
    refine loop_list a (fun k i (_ : Unit) => impl_Cube_59__impl_compareCubes.l0 k a b a (a.length : Int) i) (fun pre suf _ => cmpLQ suf (b.drop pre.length)) (fun _ _ => True) ?_ ?_ () trivial
    · intro _ _
      simp only [impl_Cube_59__impl_compareCubes.l0, len_lt, if_false]
      exact Ev.neg (by omega) (Ev.of_eq (Ev.now _) (by simp [cmpLQ]))
    · intro pre c suf _ hx _ ih
      have hp := pre_len hx
      have hpb : pre.length < b.length := by omega
      have eb := rdQ b pre.length hpb
      have e1 := cmpV_eq c b[pre.length]
      simp only [impl_Cube_59__impl_compareCubes.l0, pre_lt hx, pre_0, if_true, at_preQ hx, pre_w hx ha, eb]
      refine Ev.neg (by omega) (Ev.pos (by omega) ?_)
      rw [e1]
      rw [List.drop_eq_getElem_cons hpb, cmpLQ]
      have hih := ih () trivial
      rw [List.length_append, List.length_singleton] at hih
      generalize b.drop (pre.length + 1) = R at hih ⊢
      generalize b[pre.length] = d at hih ⊢
      simp only [Option.bind_some]
      have hv := cmpV_val c d
      by_cases h1 : ltQ c d
      · rw [if_pos h1] at hv ⊢
        exact Ev.neg (by omega) (Ev.of_eq (Ev.now _) hv)
      · rw [if_neg h1] at hv ⊢
        by_cases h2 : ltQ d c
        · rw [if_pos h2] at hv ⊢
          exact Ev.neg (by omega) (Ev.of_eq (Ev.now _) hv)
        · rw [if_neg h2] at hv ⊢
          exact Ev.pos hv hih
  · rw [if_neg hl]
    refine Ev.neg (fun h => hl (by have := cmpJ_zero.1 h; omega)) (Ev.of_eq (Ev.now _) ?_)
    unfold cmpJ
    by_cases h : a.length < b.length
    · rw [if_pos h, if_pos (by omega)]
    · rw [if_neg h, if_neg (by omega), if_pos (by omega)]
def lessQ (l : List Cube) : Nat → Int → List Cube → List Cube
  | 0, _, b => b
  | n + 1, t, b => lessQ l n (t + 1) (if cmpSQ (formQ l t) b < 0 then formQ l t else b)
def leastForm (l : List Cube) (n : Nat) : List Cube := lessQ l (n - 1) 1 (formQ l 0)
theorem lessQ_len (l : List Cube) (m : Nat) (hm : l.length ≤ m) : ∀ (n : Nat) (t : Int) (b : List Cube), b.length ≤ m → (lessQ l n t b).length ≤ m
  | 0, _, _, h => h
  | n + 1, t, b, h => by
    unfold lessQ
    refine lessQ_len l m hm n _ _ ?_
    split
    · rw [formQ_len]; exact hm
    · exact h
theorem leastForm_len (l : List Cube) (n : Nat) : (leastForm l n).length ≤ l.length := lessQ_len l l.length (Nat.le_refl _) _ _ _ (by rw [formQ_len]; exact Nat.le_refl _)
theorem specLessQ_l (l : List Cube) (m : Int) (hm : m ≤ 1000) (hl : l.length ≤ 1048576) (hp : 0 < l.length) : ∀ (n : Nat) (t : Int) (b : List Cube), 0 ≤ t → t + (n : Int) = m → Ev (fun k => spec_l09Least.l0 k l m b t) (lessQ l n t b)
  | 0, t, b, h0, h1 => by
    refine Ev.succ ?_
    simp only [spec_l09Least.l0]
    exact Ev.neg (by omega) (Ev.now _)
  | n + 1, t, b, h0, h1 => by
    refine Ev.succ ?_
    simp only [spec_l09Least.l0]
    have ew : wrap64 (t + 1) = t + 1 := w64 (by omega) (by omega)
    have hf : small (formQ l t) := by unfold small; rw [formQ_len]; omega
    refine Ev.pos (by omega) (Ev.bind (specFormQ_ev l t h0 (by omega) hl hp) (Ev.bind (specCompareQ_ev _ b hf) ?_))
    simp only [ew]
    unfold lessQ
    by_cases h : cmpSQ (formQ l t) b < 0
    · rw [if_pos h]; exact Ev.pos h (specLessQ_l l m hm hl hp n (t + 1) _ (by omega) (by omega))
    · rw [if_neg h]; exact Ev.neg h (specLessQ_l l m hm hl hp n (t + 1) _ (by omega) (by omega))
theorem specLeastQ_ev (l : List Cube) (n : Nat) (h1 : 1 ≤ n) (hn : n ≤ 1000) (hl : l.length ≤ 1048576) (hp : 0 < l.length) : Ev (fun k => spec_l09Least.f k l (n : Int)) (leastForm l n) := by
  unfold spec_l09Least.f leastForm
  exact Ev.bind (specFormQ_ev l 0 (by omega) (by omega) hl hp) (specLessQ_l l n (by omega) hl hp (n - 1) 1 _ (by omega) (by omega))
theorem implLessQ_l (l : List Cube) (m : Int) (hm : m ≤ 1000) (hl : l.length ≤ 1048576) (hp : 0 < l.length) (ho : ∀ c ∈ l, okQ c) : ∀ (n : Nat) (t : Int) (b : List Cube), 0 ≤ t → t + (n : Int) = m → Ev (fun k => impl_leastSolid.l0 k l m b t) (lessQ l n t b)
  | 0, t, b, h0, h1 => by
    refine Ev.succ ?_
    simp only [impl_leastSolid.l0]
    exact Ev.neg (by omega) (Ev.now _)
  | n + 1, t, b, h0, h1 => by
    refine Ev.succ ?_
    simp only [impl_leastSolid.l0]
    have ew : wrap64 (t + 1) = t + 1 := w64 (by omega) (by omega)
    have hf : small (formQ l t) := by unfold small; rw [formQ_len]; omega
    refine Ev.pos (by omega) (Ev.bind (implFormQ_ev l t h0 (by omega) hl hp ho) (Ev.bind (implCompareQ_ev _ b hf) ?_))
    simp only [ew]
    unfold lessQ
    by_cases h : cmpSQ (formQ l t) b < 0
    · rw [if_pos h]; exact Ev.pos h (implLessQ_l l m hm hl hp ho n (t + 1) _ (by omega) (by omega))
    · rw [if_neg h]; exact Ev.neg h (implLessQ_l l m hm hl hp ho n (t + 1) _ (by omega) (by omega))
def turnsQ (b : Bool) : Nat := if b = true then 48 else 24
theorem implLeastQ_ev (l : List Cube) (b : Bool) (hl : l.length ≤ 1048576) (hp : 0 < l.length) (ho : ∀ c ∈ l, okQ c) : Ev (fun k => impl_leastSolid.f k l b) (leastForm l (turnsQ b)) := by
  unfold impl_leastSolid.f leastForm turnsQ
  refine Ev.of_eq (Ev.if_ (r := lessQ l 47 1 (formQ l 0)) (s := lessQ l 23 1 (formQ l 0)) (fun _ => ?_) (fun _ => ?_)) ?_
  · refine Ev.step (fun k => impl_leastSolid.j0.eq_2 _ _ _) ?_
    exact Ev.bind (implFormQ_ev l 0 (by omega) (by omega) hl hp ho) (implLessQ_l l 48 (by omega) hl hp ho 47 1 _ (by omega) (by omega))
  · refine Ev.step (fun k => impl_leastSolid.j0.eq_2 _ _ _) ?_
    exact Ev.bind (implFormQ_ev l 0 (by omega) (by omega) hl hp ho) (implLessQ_l l 24 (by omega) hl hp ho 23 1 _ (by omega) (by omega))
  · split <;> rfl
theorem ordL_eq : ∀ a b : List Cube, ordL a b = cmpLQ a b
  | [], _ => by simp [ordL, cmpLQ]
  | _ :: _, [] => by simp [ordL, cmpLQ]
  | a :: r, b :: s => by
    unfold ordL cmpLQ
    rw [cmpV_val, ordL_eq r s]
    by_cases h1 : ltQ a b
    · rw [if_pos h1, if_pos h1, if_neg (by omega)]
    · rw [if_neg h1, if_neg h1]
      by_cases h2 : ltQ b a
      · rw [if_pos h2, if_pos h2, if_neg (by omega)]
      · rw [if_neg h2, if_neg h2, if_pos rfl]
theorem ordS_eq (a b : List Cube) : ordS a b = cmpSQ a b := by unfold ordS cmpSQ; rw [ordL_eq]
theorem cmpZ_self (a : List Cube) : cmpSQ a a = 0 := (cmpSQ_zero a a).2 rfl
theorem cmpZ_anti (a b : List Cube) : cmpSQ b a = -cmpSQ a b := by rw [← ordS_eq, ← ordS_eq]; exact ordS_anti a b
theorem cmpZ_trans {a b c : List Cube} (h1 : cmpSQ a b ≤ 0) (h2 : cmpSQ b c ≤ 0) : cmpSQ a c ≤ 0 := by
  rw [← ordS_eq] at *
  exact ordS_trans h1 h2
theorem cmpZ_lt_trans {a b c : List Cube} (h1 : cmpSQ a b < 0) (h2 : cmpSQ b c < 0) : cmpSQ a c < 0 := by
  have h3 := cmpZ_trans (a := a) (b := b) (c := c) (by omega) (by omega)
  by_cases e : cmpSQ a c = 0
  · have := (cmpSQ_zero a c).1 e
    subst this
    have := cmpZ_anti a b
    omega
  · omega
def asc (l : List (List Cube)) : Prop := l.Pairwise fun a b => cmpSQ a b < 0
theorem asc_eq : ∀ (a b : List (List Cube)), asc a → asc b → (∀ x, x ∈ a ↔ x ∈ b) → a = b
  | [], [], _, _, _ => rfl
  | [], b :: s, _, _, h => absurd ((h b).2 List.mem_cons_self) (by simp)
  | a :: r, [], _, _, h => absurd ((h a).1 List.mem_cons_self) (by simp)
  | a :: r, b :: s, ha, hb, h => by
    obtain ⟨h1, h2⟩ := List.pairwise_cons.1 ha
    obtain ⟨h3, h4⟩ := List.pairwise_cons.1 hb
    have e : a = b := by
      rcases List.mem_cons.1 ((h a).1 List.mem_cons_self) with e | e
      · exact e
      · rcases List.mem_cons.1 ((h b).2 List.mem_cons_self) with e' | e'
        · exact e'.symm
        · have := h1 b e'
          have := h3 a e
          have := cmpZ_anti a b
          omega
    subst e
    congr 1
    refine asc_eq r s h2 h4 fun x => ⟨fun hx => ?_, fun hx => ?_⟩
    · rcases List.mem_cons.1 ((h x).1 (List.mem_cons_of_mem _ hx)) with e | e
      · have := h1 x hx
        rw [e, cmpZ_self] at this
        omega
      · exact e
    · rcases List.mem_cons.1 ((h x).2 (List.mem_cons_of_mem _ hx)) with e | e
      · have := h3 x hx
        rw [e, cmpZ_self] at this
        omega
      · exact e
theorem sortS_sorted (l : List (List Cube)) : (sortS l).Pairwise fun a b => cmpSQ a b ≤ 0 := by
  have := List.pairwise_mergeSort (le := fun x y : List Cube => !Go.Proofs.ltOf ordS y x) (fun a b c h1 h2 => by
    simp only [Bool.not_eq_true'] at *
    exact swoS.ntrans c b a h2 h1) (fun a b => by
    rw [Bool.or_eq_true]
    by_cases e : Go.Proofs.ltOf ordS b a = true
    · right
      simp only [Bool.not_eq_true']
      rw [ltS_iff]
      unfold Go.Proofs.ltOf at e
      rw [decide_eq_true_eq] at e
      rw [ordS_anti]
      omega
    · left
      simpa using e) l
  refine this.imp fun {a b} h => ?_
  simp only [Bool.not_eq_true'] at h
  rw [ltS_iff, ordS_eq] at h
  have := cmpZ_anti a b
  omega
theorem sortS_mem {l : List (List Cube)} {x : List Cube} : x ∈ sortS l ↔ x ∈ l := (List.mergeSort_perm _ _).mem_iff
theorem compG_mem {β : Type} [DecidableEq β] : ∀ (l : List β) (p x : β), x ∈ compG p l ∨ x = p ↔ x ∈ l ∨ x = p
  | [], p, x => by simp [compG]
  | a :: r, p, x => by
    have ih := compG_mem r a x
    rw [compG]
    by_cases h : a = p
    · subst h
      rw [if_pos rfl, ih, List.mem_cons]
      constructor
      · rintro (h1 | h1)
        · exact .inl (.inr h1)
        · exact .inr h1
      · rintro ((h1 | h1) | h1)
        · exact .inr h1
        · exact .inl h1
        · exact .inr h1
    · rw [if_neg h, List.mem_cons, List.mem_cons]
      constructor
      · rintro ((h1 | h1) | h1)
        · exact .inl (.inl h1)
        · rcases ih.1 (.inl h1) with h2 | h2
          · exact .inl (.inr h2)
          · exact .inl (.inl h2)
        · exact .inr h1
      · rintro ((h1 | h1) | h1)
        · exact .inl (.inl h1)
        · rcases ih.2 (.inl h1) with h2 | h2
          · exact .inl (.inr h2)
          · exact .inl (.inl h2)
        · exact .inr h1
theorem compF_mem {β : Type} [DecidableEq β] {l : List β} {x : β} : x ∈ compF l ↔ x ∈ l := by
  cases l with
  | nil => simp [compF]
  | cons a r =>
    have := compG_mem r a x
    rw [compF, List.mem_cons, List.mem_cons]
    constructor
    · rintro (h | h)
      · exact .inl h
      · rcases this.1 (.inl h) with h | h
        · exact .inr h
        · exact .inl h
    · rintro (h | h)
      · exact .inl h
      · rcases this.2 (.inl h) with h | h
        · exact .inr h
        · exact .inl h
theorem compG_asc : ∀ (l : List (List Cube)) (p : List Cube), (p :: l).Pairwise (fun a b => cmpSQ a b ≤ 0) → asc (p :: compG p l)
  | [], p, _ => by simp [compG, asc]
  | a :: r, p, h => by
    obtain ⟨h1, h2⟩ := List.pairwise_cons.1 h
    have ih := compG_asc r a h2
    rw [compG]
    by_cases e : a = p
    · subst e
      rw [if_pos rfl]
      exact ih
    · rw [if_neg e]
      have hpa : cmpSQ p a < 0 := by
        have := h1 a List.mem_cons_self
        have hne : cmpSQ p a ≠ 0 := fun h => e ((cmpSQ_zero p a).1 h).symm
        omega
      refine List.pairwise_cons.2 ⟨fun b hb => ?_, ih⟩
      rcases List.mem_cons.1 hb with rfl | hb
      · exact hpa
      · exact cmpZ_lt_trans hpa ((List.pairwise_cons.1 ih).1 b hb)
theorem compF_asc {l : List (List Cube)} (h : l.Pairwise fun a b => cmpSQ a b ≤ 0) : asc (compF l) := by
  cases l with
  | nil => exact List.Pairwise.nil
  | cons a r => rw [compF]; exact compG_asc r a h
def tidyL (l : List (List Cube)) : List (List Cube) := compF (sortS l)
theorem tidyL_mem {l : List (List Cube)} {x : List Cube} : x ∈ tidyL l ↔ x ∈ l := compF_mem.trans sortS_mem
theorem tidyL_asc (l : List (List Cube)) : asc (tidyL l) := compF_asc (sortS_sorted l)
theorem implSortS_eq (l : List (List Cube)) (h0 : 0 < l.length) (h1 : l.length < 4611686018427387904) : impl_Cube_40__impl_compareSolids.f l = some (sortS l) := by
  unfold impl_Cube_40__impl_compareSolids.f
  rw [if_pos ⟨h0, h1⟩]
theorem implCompS_eq (l : List (List Cube)) (h0 : 0 < l.length) (h1 : l.length < 4611686018427387904) : impl_Cube_42__impl_allSolids_1.f l = some (compF l) := by
  unfold impl_Cube_42__impl_allSolids_1.f
  rw [if_pos ⟨h0, h1⟩]
  exact congrArg (fun i => some (@compF _ i l)) (Subsingleton.elim _ _)
def addL (l : List (List Cube)) (x : List Cube) : List (List Cube) := match l with
  | [] => [x]
  | a :: r => if cmpSQ a x < 0 then a :: addL r x else if cmpSQ a x = 0 then a :: r else x :: a :: r
theorem addL_mem : ∀ {l : List (List Cube)} {x y : List Cube}, y ∈ addL l x ↔ y = x ∨ y ∈ l
  | [], x, y => by simp [addL]
  | a :: r, x, y => by
    rw [addL]
    split
    · rw [List.mem_cons, addL_mem (l := r), List.mem_cons]
      constructor
      · rintro (h | h | h)
        · exact .inr (.inl h)
        · exact .inl h
        · exact .inr (.inr h)
      · rintro (h | h | h)
        · exact .inr (.inl h)
        · exact .inl h
        · exact .inr (.inr h)
    · split
      · rename_i h
        have e := (cmpSQ_zero a x).1 h
        subst e
        constructor
        · exact .inr
        · rintro (h | h)
          · rw [h]; exact List.mem_cons_self
          · exact h
      · rw [List.mem_cons]
theorem addL_asc : ∀ {l : List (List Cube)} {x : List Cube}, asc l → asc (addL l x)
  | [], x, _ => by simp [addL, asc]
  | a :: r, x, h => by
    obtain ⟨h1, h2⟩ := List.pairwise_cons.1 h
    rw [addL]
    split
    · rename_i hc
      refine List.pairwise_cons.2 ⟨fun b hb => ?_, addL_asc h2⟩
      rcases addL_mem.1 hb with rfl | hb
      · exact hc
      · exact h1 b hb
    · split
      · exact h
      · have hax : cmpSQ x a < 0 := by
          have := cmpZ_anti a x
          omega
        refine List.pairwise_cons.2 ⟨fun b hb => ?_, h⟩
        rcases List.mem_cons.1 hb with rfl | hb
        · exact hax
        · exact cmpZ_lt_trans hax (h1 b hb)
theorem addL_len : ∀ (l : List (List Cube)) (x : List Cube), (addL l x).length ≤ l.length + 1
  | [], x => by simp [addL]
  | a :: r, x => by
    have := addL_len r x
    rw [addL]
    split
    · simp; omega
    · split
      · simp
      · simp
theorem at_preLQS {xs pre suf : List (List Cube)} {c : List Cube} (h : xs = pre ++ c :: suf) : rd_L2 xs (pre.length : Int) = c := by
  subst h; unfold rd_L2; rw [getD_at]
theorem specAdd_ev (l : List (List Cube)) (x : List Cube) (hl : l.length ≤ 1000000000) (hx_ : ∀ y ∈ l, small y) : Ev (fun k => spec_l09Insert.f k l x) (addL l x) := by
  have hs : small l := by unfold small; omega
  unfold spec_l09Insert.f
  refine loop_list l (fun k i (_ : Unit) => spec_l09Insert.l0 k l x i) (fun pre suf _ => pre ++ addL suf x) (fun _ _ => True) ?_ ?_ () trivial
  · intro _ _
    simp only [spec_l09Insert.l0, len_lt, if_false, Option.bind_some, Int.toNat_natCast, List.take_length, List.drop_length, List.nil_append, List.length_nil, List.length_singleton, List.append_nil, List.length_append]
    refine Ev.pos (by omega) (Ev.pos (by omega) (Ev.pos (by omega) (Ev.pos (by omega) (Ev.pos (by omega) (Ev.of_eq (Ev.now _) ?_)))))
    simp [addL]
  · intro pre c suf _ hx _ ih
    have hp := pre_len hx
    have ht : l.take pre.length = pre := by rw [hx]; simp
    have hd : l.drop pre.length = c :: suf := by rw [hx]; simp
    have hlen : l.length = pre.length + (suf.length + 1) := by rw [hx]; simp
    have hcs := hx_ c (by rw [hx]; simp)
    simp only [spec_l09Insert.l0, pre_lt hx, pre_0, if_true, at_preLQS hx, pre_w hx hs, Option.bind_some, Int.toNat_natCast, List.nil_append, List.length_nil, List.length_singleton, List.length_append, ht, hd, List.length_cons]
    refine Ev.bind (specCompareQ_ev c x hcs) ?_
    rw [addL]
    by_cases h1 : cmpSQ c x < 0
    · rw [if_pos h1]
      refine Ev.pos h1 (Ev.of_eq (ih () trivial) ?_)
      simp
    · rw [if_neg h1]
      refine Ev.neg h1 (Ev.bind (specCompareQ_ev c x hcs) ?_)
      by_cases h2 : cmpSQ c x = 0
      · exact Ev.pos h2 (Ev.of_eq (Ev.now _) (by rw [if_pos h2]; exact hx))
      · refine Ev.neg h2 (Ev.pos (by omega) (Ev.pos (by omega) (Ev.pos (by omega) (Ev.pos (by omega) (Ev.of_eq (Ev.now _) ?_)))))
        rw [if_neg h2]
        simp
def sameQ (a b : Cube) : Bool := decide (a.f0 = b.f0) && (decide (a.f1 = b.f1) && decide (a.f2 = b.f2))
theorem sameQ_iff {a b : Cube} : sameQ a b = true ↔ a = b := by
  obtain ⟨a0, a1, a2⟩ := a
  obtain ⟨b0, b1, b2⟩ := b
  simp [sameQ]
def idxFQ : List Cube → Cube → Int → Int
  | [], _, _ => -1
  | a :: r, c, i => if sameQ a c = true then i else idxFQ r c (i + 1)
def idxQ (l : List Cube) (c : Cube) : Int := idxFQ l c 0
theorem specIndexQ_ev (l : List Cube) (c : Cube) (hs : small l) : Ev (fun k => spec_l09Index.f k l c.f0 c.f1 c.f2) (idxQ l c) := by
  unfold spec_l09Index.f
  refine loop_list l (fun k i (_ : Unit) => spec_l09Index.l0 k l i c.f0 c.f1 c.f2) (fun pre suf _ => idxFQ suf c (pre.length : Int)) (fun _ _ => True) ?_ ?_ () trivial
  · intro _ _
    simp only [spec_l09Index.l0, len_lt, if_false]
    exact Ev.now _
  · intro pre d suf _ hx _ ih
    simp only [spec_l09Index.l0, pre_lt hx, pre_0, if_true, at_preQ hx, pre_w hx hs, idxFQ]
    have e : (d.f0 == c.f0 && (d.f1 == c.f1 && d.f2 == c.f2)) = sameQ d c := by simp [sameQ, BEq.beq]
    rw [e]
    refine Ev.if_ (fun _ => Ev.now _) (fun _ => Ev.of_eq (ih () trivial) ?_)
    simp
theorem implIndexQ_ev (l : List Cube) (c : Cube) (hs : small l) : Ev (fun k => impl_Cube_52.f k l c.f0 c.f1 c.f2) (idxQ l c) := by
  unfold impl_Cube_52.f
  refine loop_list l (fun k i (_ : Unit) => impl_Cube_52.l0 k l (l.length : Int) i c.f0 c.f1 c.f2) (fun pre suf _ => idxFQ suf c (pre.length : Int)) (fun _ _ => True) ?_ ?_ () trivial
  · intro _ _
    simp only [impl_Cube_52.l0, len_lt, if_false]
    exact Ev.now _
  · intro pre d suf _ hx _ ih
    simp only [impl_Cube_52.l0, pre_lt hx, pre_0, if_true, at_preQ hx, pre_w hx hs, idxFQ]
    have e : (c.f0 == d.f0 && (c.f1 == d.f1 && c.f2 == d.f2)) = sameQ d c := by
      rw [Bool.eq_iff_iff]
      simp only [sameQ, Bool.and_eq_true, beq_iff_eq, decide_eq_true_eq]
      constructor <;> (rintro ⟨h, h', h''⟩; exact ⟨h.symm, h'.symm, h''.symm⟩)
    rw [e]
    refine Ev.if_ (fun _ => Ev.now _) (fun _ => Ev.of_eq (ih () trivial) ?_)
    simp
theorem implContainsQ_ev (l : List Cube) (c : Cube) (hs : small l) : Ev (fun k => impl_Cube_35.f k l c.f0 c.f1 c.f2) (decide (idxQ l c ≥ 0)) := by
  unfold impl_Cube_35.f
  exact Ev.bind (implIndexQ_ev l c hs) (Ev.now _)
def stepsQ : List Cube := [⟨0, 0, -1⟩, ⟨0, -1, 0⟩, ⟨-1, 0, 0⟩, ⟨1, 0, 0⟩, ⟨0, 1, 0⟩, ⟨0, 0, 1⟩]
theorem steps_eq : spec_l09Steps.f = some stepsQ := rfl
def addQ (c d : Cube) : Cube := ⟨wrap64 (c.f0 + d.f0), wrap64 (c.f1 + d.f1), wrap64 (c.f2 + d.f2)⟩
def nbQ (c : Cube) : List Cube := [⟨c.f0, c.f1, wrap64 (c.f2 - 1)⟩, ⟨c.f0, wrap64 (c.f1 - 1), c.f2⟩, ⟨wrap64 (c.f0 - 1), c.f1, c.f2⟩, ⟨wrap64 (c.f0 + 1), c.f1, c.f2⟩, ⟨c.f0, wrap64 (c.f1 + 1), c.f2⟩, ⟨c.f0, c.f1, wrap64 (c.f2 + 1)⟩]
theorem nbQ_len (c : Cube) : (nbQ c).length = 6 := rfl
theorem implAroundQ_eq (c : Cube) : impl_cubesAround.f c.f0 c.f1 c.f2 = some (nbQ c) := rfl
theorem steps_nb {c : Cube} (h : okQ c) : stepsQ.map (addQ c) = nbQ c := by
  obtain ⟨x, y, z⟩ := c
  unfold okQ ok1 at h
  simp only at h
  have w (n : Int) (h0 : -1000 ≤ n) (h1 : n ≤ 1000) : wrap64 n = n := w64 (by omega) (by omega)
  simp only [stepsQ, nbQ, addQ, List.map_cons, List.map_nil, Int.add_zero]
  rw [w x (by omega) (by omega), w y (by omega) (by omega), w z (by omega) (by omega)]
  simp [Int.sub_eq_add_neg]
def freeQ (s l : List Cube) : List Cube := l.filter fun d => decide (idxQ s d < 0)
def normS (s : List Cube) (d : Cube) : List Cube := normalQ (sortC (s ++ [d]))
def moreQ (s : List Cube) : List (List Cube) := s.flatMap fun c => (freeQ s (nbQ c)).map (normS s)
def nextQ (l : List (List Cube)) : List (List Cube) := (l.flatMap moreQ).foldl addL []
def allQ : Nat → List (List Cube) → List (List Cube)
  | 0, l => l
  | n + 1, l => allQ n (nextQ l)
theorem foldAdd_asc : ∀ (xs acc : List (List Cube)), asc acc → asc (xs.foldl addL acc)
  | [], _, h => h
  | x :: r, acc, h => foldAdd_asc r _ (addL_asc h)
theorem foldAdd_mem : ∀ (xs acc : List (List Cube)) (y : List Cube), y ∈ xs.foldl addL acc ↔ y ∈ xs ∨ y ∈ acc
  | [], acc, y => by simp
  | x :: r, acc, y => by
    rw [List.foldl_cons, foldAdd_mem r, addL_mem, List.mem_cons]
    constructor
    · rintro (h | h | h)
      · exact .inl (.inr h)
      · exact .inl (.inl h)
      · exact .inr h
    · rintro ((h | h) | h)
      · exact .inr (.inl h)
      · exact .inl h
      · exact .inr (.inr h)
theorem foldAdd_len : ∀ (xs acc : List (List Cube)), (xs.foldl addL acc).length ≤ acc.length + xs.length
  | [], acc => by simp
  | x :: r, acc => by
    have h1 := foldAdd_len r (addL acc x)
    have h2 := addL_len acc x
    rw [List.foldl_cons, List.length_cons]
    omega
theorem tidy_next (l : List (List Cube)) : tidyL (l.flatMap moreQ) = nextQ l := by
  refine asc_eq _ _ (tidyL_asc _) (foldAdd_asc _ _ List.Pairwise.nil) fun x => ?_
  rw [tidyL_mem]
  unfold nextQ
  rw [foldAdd_mem]
  simp
structure GoodQ (m : Int) (n : Nat) (s : List Cube) : Prop where
  len : s.length = n
  pos : 0 < n
  box : ∀ c ∈ s, (0 ≤ c.f0 ∧ c.f0 ≤ m) ∧ (0 ≤ c.f1 ∧ c.f1 ≤ m) ∧ (0 ≤ c.f2 ∧ c.f2 ≤ m)
theorem GoodQ.ok {m : Int} {n : Nat} {s : List Cube} (h : GoodQ m n s) (hm : m ≤ 20) : ∀ c ∈ s, okQ c := fun c hc => by
  have := h.box c hc
  unfold okQ ok1
  omega
theorem minQ_box {a b : Int} : ∀ (l : List Cube) (z : Int × Int × Int), (∀ c ∈ l, (a ≤ c.f0 ∧ c.f0 ≤ b) ∧ (a ≤ c.f1 ∧ c.f1 ≤ b) ∧ (a ≤ c.f2 ∧ c.f2 ≤ b)) → (a ≤ z.1 ∧ z.1 ≤ b) ∧ (a ≤ z.2.1 ∧ z.2.1 ≤ b) ∧ (a ≤ z.2.2 ∧ z.2.2 ≤ b) →
    ((a ≤ (minQ z l).1 ∧ (minQ z l).1 ≤ z.1) ∧ (a ≤ (minQ z l).2.1 ∧ (minQ z l).2.1 ≤ z.2.1) ∧ (a ≤ (minQ z l).2.2 ∧ (minQ z l).2.2 ≤ z.2.2)) ∧ ∀ c ∈ l, (minQ z l).1 ≤ c.f0 ∧ (minQ z l).2.1 ≤ c.f1 ∧ (minQ z l).2.2 ≤ c.f2
  | [], z, _, hz => by
    refine ⟨?_, fun c hc => by simp at hc⟩
    simp only [minQ, List.foldl_nil]
    omega
  | d :: r, z, h, hz => by
    have hd := h d List.mem_cons_self
    have e : minQ z (d :: r) = minQ (mn z.1 d.f0, mn z.2.1 d.f1, mn z.2.2 d.f2) r := rfl
    have hm (x y : Int) : mn x y ≤ x ∧ mn x y ≤ y ∧ (mn x y = x ∨ mn x y = y) := by unfold mn; split <;> omega
    have m0 := hm z.1 d.f0
    have m1 := hm z.2.1 d.f1
    have m2 := hm z.2.2 d.f2
    have ih := minQ_box r (mn z.1 d.f0, mn z.2.1 d.f1, mn z.2.2 d.f2) (fun c hc => h c (List.mem_cons_of_mem _ hc)) (by simp only; omega)
    rw [e]
    simp only at ih
    refine ⟨by omega, fun c hc => ?_⟩
    rcases List.mem_cons.1 hc with rfl | hc
    · omega
    · exact ih.2 c hc
theorem leastQ_box {a b : Int} {l : List Cube} (h0 : l ≠ []) (h : ∀ c ∈ l, (a ≤ c.f0 ∧ c.f0 ≤ b) ∧ (a ≤ c.f1 ∧ c.f1 ≤ b) ∧ (a ≤ c.f2 ∧ c.f2 ≤ b)) :
    ((a ≤ (leastQ l).1 ∧ (leastQ l).1 ≤ b) ∧ (a ≤ (leastQ l).2.1 ∧ (leastQ l).2.1 ≤ b) ∧ (a ≤ (leastQ l).2.2 ∧ (leastQ l).2.2 ≤ b)) ∧ ∀ c ∈ l, (leastQ l).1 ≤ c.f0 ∧ (leastQ l).2.1 ≤ c.f1 ∧ (leastQ l).2.2 ≤ c.f2 := by
  cases l with
  | nil => exact absurd rfl h0
  | cons d r =>
    have hd := h d List.mem_cons_self
    have key := minQ_box (a := a) (b := b) r (d.f0, d.f1, d.f2) (fun c hc => h c (List.mem_cons_of_mem _ hc)) hd
    simp only at key
    show ((a ≤ (minQ (d.f0, d.f1, d.f2) r).1 ∧ _) ∧ _) ∧ _
    have e : leastQ (d :: r) = minQ (d.f0, d.f1, d.f2) r := rfl
    rw [e]
    refine ⟨by omega, fun c hc => ?_⟩
    rcases List.mem_cons.1 hc with rfl | hc
    · omega
    · exact key.2 c hc
theorem nb_box {m : Int} (hm : 0 ≤ m ∧ m ≤ 20) {c d : Cube} (hc : (0 ≤ c.f0 ∧ c.f0 ≤ m) ∧ (0 ≤ c.f1 ∧ c.f1 ≤ m) ∧ (0 ≤ c.f2 ∧ c.f2 ≤ m)) (hd : d ∈ nbQ c) : (-1 ≤ d.f0 ∧ d.f0 ≤ m + 1) ∧ (-1 ≤ d.f1 ∧ d.f1 ≤ m + 1) ∧ (-1 ≤ d.f2 ∧ d.f2 ≤ m + 1) := by
  have w (n : Int) (h0 : -1000 ≤ n) (h1 : n ≤ 1000) : wrap64 n = n := w64 (by omega) (by omega)
  unfold nbQ at hd
  simp only [List.mem_cons, List.not_mem_nil, or_false] at hd
  rcases hd with rfl | rfl | rfl | rfl | rfl | rfl <;> simp only <;> (rw [w _ (by omega) (by omega)]; omega)
theorem good_more {m : Int} {n : Nat} {s x : List Cube} (h : GoodQ m n s) (hm : 0 ≤ m ∧ m ≤ 20) (hx : x ∈ moreQ s) : GoodQ (m + 2) (n + 1) x := by
  obtain ⟨c, hc, hx⟩ := List.mem_flatMap.1 hx
  obtain ⟨d, hd, rfl⟩ := List.mem_map.1 hx
  have hd' := (List.mem_filter.1 hd).1
  have hb := nb_box hm (h.box c hc) hd'
  have hall : ∀ e ∈ sortC (s ++ [d]), (-1 ≤ e.f0 ∧ e.f0 ≤ m + 1) ∧ (-1 ≤ e.f1 ∧ e.f1 ≤ m + 1) ∧ (-1 ≤ e.f2 ∧ e.f2 ≤ m + 1) := fun e he => by
    have he' := (sortQ_perm _).mem_iff.1 he
    rcases List.mem_append.1 he' with he' | he'
    · have := h.box e he'; omega
    · rw [List.mem_singleton.1 he']; exact hb
  have hne : sortC (s ++ [d]) ≠ [] := by
    intro e
    have := sortQ_len (s ++ [d])
    rw [e] at this
    simp at this
  obtain ⟨h1, h2⟩ := leastQ_box hne hall
  refine ⟨by unfold normS; rw [normalQ_len, sortQ_len, List.length_append, List.length_singleton, h.len], by omega, fun e he => ?_⟩
  unfold normS normalQ moveQ at he
  obtain ⟨f, hf, rfl⟩ := List.mem_map.1 he
  have h3 := hall f hf
  have h4 := h2 f hf
  have w (n : Int) (h0 : -1000 ≤ n) (h1 : n ≤ 1000) : wrap64 n = n := w64 (by omega) (by omega)
  simp only
  rw [w _ (by omega) (by omega), w _ (by omega) (by omega), w _ (by omega) (by omega)]
  omega
theorem good_next {m : Int} {n : Nat} {l : List (List Cube)} (h : ∀ s ∈ l, GoodQ m n s) (hm : 0 ≤ m ∧ m ≤ 20) : ∀ x ∈ nextQ l, GoodQ (m + 2) (n + 1) x := fun x hx => by
  unfold nextQ at hx
  rw [foldAdd_mem] at hx
  rcases hx with hx | hx
  · obtain ⟨s, hs, hx⟩ := List.mem_flatMap.1 hx
    exact good_more (h s hs) hm hx
  · simp at hx
theorem freeQ_len (s l : List Cube) : (freeQ s l).length ≤ l.length := List.length_filter_le _ _
theorem flatQ_len {α β : Type} (f : α → List β) (q : Nat) : ∀ l : List α, (∀ a ∈ l, (f a).length ≤ q) → (l.flatMap f).length ≤ l.length * q
  | [], _ => by simp
  | a :: r, h => by
    have h1 := flatQ_len f q r fun b hb => h b (List.mem_cons_of_mem _ hb)
    have h2 := h a List.mem_cons_self
    rw [List.flatMap_cons, List.length_append, List.length_cons, Nat.add_mul, Nat.one_mul]
    omega
theorem moreQ_len (s : List Cube) : (moreQ s).length ≤ s.length * 6 := flatQ_len _ 6 s fun c _ => by
  rw [List.length_map]
  exact freeQ_len s (nbQ c)
theorem nextQ_len {n : Nat} {l : List (List Cube)} (h : ∀ s ∈ l, s.length = n) : (nextQ l).length ≤ l.length * (n * 6) := by
  have h1 := foldAdd_len (l.flatMap moreQ) []
  have h2 := flatQ_len moreQ (n * 6) l fun s hs => by have := moreQ_len s; rw [h s hs] at this; exact this
  unfold nextQ
  simp only [List.length_nil, Nat.zero_add] at h1
  omega
theorem allQ_good : ∀ (q : Nat) (m : Int) (n : Nat) (l : List (List Cube)), (∀ s ∈ l, GoodQ m n s) → 0 ≤ m → m + q * 2 ≤ 20 → ∀ x ∈ allQ q l, GoodQ (m + q * 2) (n + q) x
  | 0, m, n, l, h, _, _ => by simpa [allQ] using h
  | q + 1, m, n, l, h, h0, h1 => by
    intro x hx
    have := allQ_good q (m + 2) (n + 1) (nextQ l) (good_next h (by omega)) (by omega) (by omega) x hx
    have e1 : m + 2 + (q : Int) * 2 = m + ((q + 1 : Nat) : Int) * 2 := by omega
    have e2 : n + 1 + q = n + (q + 1) := by omega
    rw [e1, e2] at this
    exact this
theorem allQ_asc : ∀ (q : Nat) (l : List (List Cube)), asc l → asc (allQ q l)
  | 0, _, h => h
  | q + 1, l, _ => allQ_asc q _ (foldAdd_asc _ _ List.Pairwise.nil)
theorem specAllQ_3 (N x4 i j : Int) (now : List (List Cube)) (s : List Cube) (hs : s.length ≤ 63) (hi0 : 0 ≤ i) (hi1 : i < (now.length : Int)) (hrd : rd_L2 now i = s) (c : Cube) (hj0 : 0 ≤ j) (hj1 : j < (s.length : Int)) (hrc : rd_T43 s j = c) {r : List (List Cube)} : ∀ (suf pre : List Cube) (next : List (List Cube)), stepsQ = pre ++ suf → next.length + suf.length ≤ 900000000 → (∀ y ∈ next, y.length ≤ 64) →
    Ev (fun k => spec_l09All.l2 k N now x4 (((freeQ s (suf.map (addQ c))).map (normS s)).foldl addL next) i (wrap64 (j + 1))) r → Ev (fun k => spec_l09All.l3 k N now x4 next i j (pre.length : Int)) r
  | [], pre, next, hx, hl, hn, hc => by
    refine Ev.succ ?_
    rw [List.append_nil] at hx
    subst hx
    simp only [spec_l09All.l3]
    exact Ev.neg (by simp [stepsQ]) (by simpa [freeQ] using hc)
  | d :: suf, pre, next, hx, hl, hn, hc => by
    refine Ev.succ ?_
    have hsm : small stepsQ := by unfold small; simp [stepsQ]
    have h6 : stepsQ.length = 6 := rfl
    have hp := pre_len hx
    simp only [List.length_cons] at hl
    have hi (next' : List (List Cube)) (ho : next'.length + suf.length ≤ 900000000) (hn' : ∀ y ∈ next', y.length ≤ 64) (hc' : Ev (fun k => spec_l09All.l2 k N now x4 (((freeQ s (suf.map (addQ c))).map (normS s)).foldl addL next') i (wrap64 (j + 1))) r) := specAllQ_3 N x4 i j now s hs hi0 hi1 hrd c hj0 hj1 hrc suf (pre ++ [d]) next' (by rw [hx]; simp) ho hn' hc'
    simp only [List.length_append, List.length_singleton, Int.natCast_add] at hi
    have hl6 : ((pre.length : Int) < 6) := by omega
    simp only [spec_l09All.l3, steps_eq, Option.bind_some, pre_lt hx, pre_0, if_true, at_preQ hx, pre_w hx hsm, hrd, hrc, List.nil_append, List.length_nil, List.length_singleton]
    refine Ev.pos hl6 (Ev.pos hi0 (Ev.pos hi1 (Ev.pos hj0 (Ev.pos hj1 ?_))))
    refine Ev.bind0 (a := (wrap64 (c.f0 + d.f0), wrap64 (c.f1 + d.f1), wrap64 (c.f2 + d.f2))) rfl ?_
    refine Ev.bind (specIndexQ_ev s (addQ c d) (by unfold small; omega)) ?_
    by_cases hm : idxQ s (addQ c d) < 0
    · refine Ev.pos hm (Ev.pos (by omega) (Ev.pos (by omega) (Ev.bind (specSortQ_ev (s ++ [addQ c d]) (by simp; omega)) (Ev.bind (specNormalQ_ev (sortC (s ++ [addQ c d])) (by rw [sortQ_len]; simp; omega) (by rw [sortQ_len]; simp)) ?_))))
      have hnl : (normS s (addQ c d)).length = s.length + 1 := by unfold normS; rw [normalQ_len, sortQ_len]; simp
      have hal := addL_len next (normS s (addQ c d))
      refine Ev.bind (specAdd_ev next (normS s (addQ c d)) (by omega) (fun y hy => by have := hn y hy; unfold small; omega)) (hi _ (by omega) (fun y hy => ?_) ?_)
      · rcases addL_mem.1 hy with rfl | hy
        · omega
        · exact hn y hy
      · have : freeQ s ((d :: suf).map (addQ c)) = addQ c d :: freeQ s (suf.map (addQ c)) := by simp [freeQ, hm]
        rw [this] at hc
        simpa using hc
    · refine Ev.neg hm (hi next (by omega) hn ?_)
      have : freeQ s ((d :: suf).map (addQ c)) = freeQ s (suf.map (addQ c)) := by simp [freeQ, hm]
      rw [this] at hc
      exact hc
theorem foldAdd_le {n : Nat} {xs acc : List (List Cube)} (h : ∀ y ∈ xs, y.length ≤ n) (h' : ∀ y ∈ acc, y.length ≤ n) : ∀ y ∈ xs.foldl addL acc, y.length ≤ n := fun y hy => by
  rcases (foldAdd_mem xs acc y).1 hy with hy | hy
  · exact h y hy
  · exact h' y hy
theorem normS_len (s : List Cube) (d : Cube) : (normS s d).length = s.length + 1 := by unfold normS; rw [normalQ_len, sortQ_len]; simp
theorem specAllQ_2 {m : Int} {n : Nat} (N x4 i : Int) (now : List (List Cube)) (s : List Cube) (h : GoodQ m n s) (hm : 0 ≤ m ∧ m ≤ 20) (hs : s.length ≤ 63) (hi0 : 0 ≤ i) (hi1 : i < (now.length : Int)) (hrd : rd_L2 now i = s) {r : List (List Cube)} : ∀ (suf pre : List Cube) (next : List (List Cube)), s = pre ++ suf → next.length + suf.length * 6 ≤ 800000000 → (∀ y ∈ next, y.length ≤ 64) →
    Ev (fun k => spec_l09All.l1 k N now x4 ((suf.flatMap fun c => (freeQ s (nbQ c)).map (normS s)).foldl addL next) (wrap64 (i + 1))) r → Ev (fun k => spec_l09All.l2 k N now x4 next i (pre.length : Int)) r
  | [], pre, next, hx, hl, hn, hc => by
    refine Ev.succ ?_
    rw [List.append_nil] at hx
    subst hx
    simp only [spec_l09All.l2, hrd]
    exact Ev.pos hi0 (Ev.pos hi1 (Ev.neg (by omega) (by simpa using hc)))
  | c :: suf, pre, next, hx, hl, hn, hc => by
    refine Ev.succ ?_
    have hsm : small s := by unfold small; omega
    simp only [List.length_cons] at hl
    have hcs : c ∈ s := by rw [hx]; simp
    have hp := pre_len hx
    simp only [spec_l09All.l2, hrd]
    refine Ev.pos hi0 (Ev.pos hi1 ?_)
    simp only [pre_lt hx, if_true]
    refine specAllQ_3 N x4 i (pre.length : Int) now s hs hi0 hi1 hrd c (by omega) (by omega) (at_preQ hx) stepsQ [] next rfl (by simp [stepsQ]; omega) hn ?_
    rw [pre_w hx hsm, steps_nb (h.ok hm.2 c hcs)]
    have hfl := foldAdd_len ((freeQ s (nbQ c)).map (normS s)) next
    rw [List.length_map] at hfl
    have hfr := freeQ_len s (nbQ c)
    have h6 := nbQ_len c
    have hn' : ∀ y ∈ ((freeQ s (nbQ c)).map (normS s)).foldl addL next, y.length ≤ 64 := foldAdd_le (fun y hy => by
      obtain ⟨d, _, rfl⟩ := List.mem_map.1 hy
      rw [normS_len]; omega) hn
    have hi := specAllQ_2 N x4 i now s h hm hs hi0 hi1 hrd suf (pre ++ [c]) (((freeQ s (nbQ c)).map (normS s)).foldl addL next) (by rw [hx]; simp) (by omega) hn' (by simpa using hc)
    simp only [List.length_append, List.length_singleton, Int.natCast_add] at hi
    exact hi
theorem moreQ_le {s : List Cube} (hs : s.length ≤ 63) : ∀ y ∈ moreQ s, y.length ≤ 64 := fun y hy => by
  obtain ⟨c, _, hy⟩ := List.mem_flatMap.1 hy
  obtain ⟨d, _, rfl⟩ := List.mem_map.1 hy
  rw [normS_len]; omega
theorem specAllQ_1 {m : Int} {n : Nat} (N x4 : Int) (now : List (List Cube)) (h : ∀ s ∈ now, GoodQ m n s) (hm : 0 ≤ m ∧ m ≤ 20) (hn : n ≤ 6) (hnl : now.length ≤ 20000000) {r : List (List Cube)} : ∀ (suf pre : List (List Cube)) (next : List (List Cube)), now = pre ++ suf → next.length + suf.length * 36 ≤ 720000000 → (∀ y ∈ next, y.length ≤ 64) →
    Ev (fun k => spec_l09All.l0 k N ((suf.flatMap moreQ).foldl addL next) (wrap64 (x4 + 1))) r → Ev (fun k => spec_l09All.l1 k N now x4 next (pre.length : Int)) r
  | [], pre, next, hx, hl, hy, hc => by
    refine Ev.succ ?_
    rw [List.append_nil] at hx
    subst hx
    simp only [spec_l09All.l1]
    exact Ev.neg (by omega) (by simpa using hc)
  | s :: suf, pre, next, hx, hl, hy, hc => by
    refine Ev.succ ?_
    have hsm : small now := by unfold small; omega
    simp only [List.length_cons] at hl
    have hs : s ∈ now := by rw [hx]; simp
    have hg := h s hs
    have hgl := hg.len
    have hp := pre_len hx
    simp only [spec_l09All.l1, pre_lt hx, if_true]
    refine specAllQ_2 N x4 (pre.length : Int) now s hg hm (by omega) (by omega) (by omega) (at_preLQS hx) s [] next rfl (by omega) hy ?_
    rw [pre_w hx hsm]
    have hml := moreQ_len s
    have hfl := foldAdd_len (moreQ s) next
    have hi := specAllQ_1 N x4 now h hm hn hnl suf (pre ++ [s]) ((moreQ s).foldl addL next) (by rw [hx]; simp) (by omega) (foldAdd_le (moreQ_le (by omega)) hy) (by simpa using hc)
    simp only [List.length_append, List.length_singleton, Int.natCast_add] at hi
    exact hi
theorem specAllQ_q (N : Nat) (hN : N ≤ 6) : ∀ (q i : Nat) (m : Int) (n : Nat) (now : List (List Cube)), i + q = N → (∀ s ∈ now, GoodQ m n s) → 0 ≤ m → m + q * 2 ≤ 20 → n + q ≤ 6 → now.length * 36 ^ q ≤ 2000000 →
    Ev (fun k => spec_l09All.l0 k (N : Int) now (i : Int)) (allQ q now)
  | 0, i, m, n, now, hi, h, h0, h1, h2, h4 => by
    refine Ev.succ ?_
    simp only [spec_l09All.l0]
    exact Ev.neg (by omega) (Ev.now _)
  | q + 1, i, m, n, now, hi, h, h0, h1, h2, h4 => by
    have e36 : 36 ^ (q + 1) = 36 ^ q * 36 := Nat.pow_succ ..
    have e1 : 0 < 36 ^ q := Nat.pow_pos (by omega)
    have hnl : now.length * 36 ≤ 2000000 := Nat.le_trans (Nat.mul_le_mul_left _ (by rw [e36]; omega)) h4
    have ew : wrap64 ((i : Int) + 1) = ((i + 1 : Nat) : Int) := by rw [w64 (by omega) (by omega)]; omega
    have hg := good_next h (by omega : 0 ≤ m ∧ m ≤ 20)
    have hnx : (nextQ now).length ≤ now.length * 36 := Nat.le_trans (nextQ_len (n := n) fun s hs => (h s hs).len) (Nat.mul_le_mul_left _ (by omega))
    have hb : (nextQ now).length * 36 ^ q ≤ 2000000 := by
      refine Nat.le_trans (Nat.mul_le_mul_right _ hnx) ?_
      rw [Nat.mul_assoc, Nat.mul_comm 36, ← e36]
      exact h4
    refine Ev.succ ?_
    simp only [spec_l09All.l0]
    refine Ev.pos (by omega) (specAllQ_1 (N : Int) (i : Int) now h (by omega) (by omega) (by omega) now [] [] rfl (by simp; omega) (by simp) ?_)
    rw [ew]
    exact specAllQ_q N hN q (i + 1) (m + 2) (n + 1) _ (by omega) hg (by omega) (by omega) (by omega) hb
theorem implAllQ_3 (x16 x17 x22 x28 : Int) (now : List (List Cube)) (x21 : Int) (s : List Cube) (hs : s.length ≤ 63) (x27 : Int) (arr : List Cube) (ha : arr.length ≤ 64) {r : List (List Cube)} : ∀ (suf pre : List Cube) (acc : List (List Cube)), arr = pre ++ suf → acc.length + suf.length ≤ 900000000 →
    Ev (fun k => impl_allSolids.l2 k (acc ++ (freeQ s suf).map (normS s)) s x16 x17 now x21 x22 s x27 (wrap64 (x28 + 1))) r → Ev (fun k => impl_allSolids.l3 k acc s x16 x17 now x21 x22 s x27 x28 arr (arr.length : Int) (pre.length : Int)) r
  | [], pre, acc, hx, hl, hc => by
    refine Ev.succ ?_
    rw [List.append_nil] at hx
    subst hx
    simp only [impl_allSolids.l3]
    exact Ev.neg (by omega) (by simpa [freeQ] using hc)
  | d :: suf, pre, acc, hx, hl, hc => by
    refine Ev.succ ?_
    have hsm : small arr := by unfold small; omega
    have hp := pre_len hx
    simp only [List.length_cons] at hl
    have hi (acc' : List (List Cube)) (ho : acc'.length + suf.length ≤ 900000000) (hc' : Ev (fun k => impl_allSolids.l2 k (acc' ++ (freeQ s suf).map (normS s)) s x16 x17 now x21 x22 s x27 (wrap64 (x28 + 1))) r) := implAllQ_3 x16 x17 x22 x28 now x21 s hs x27 arr ha suf (pre ++ [d]) acc' (by rw [hx]; simp) ho hc'
    simp only [List.length_append, List.length_singleton, Int.natCast_add] at hi
    simp only [impl_allSolids.l3, pre_lt hx, pre_0, if_true, at_preQ hx, pre_w hx hsm, Option.bind_some, List.length_singleton]
    refine Ev.bind (implContainsQ_ev s d (by unfold small; omega)) ?_
    by_cases hm : idxQ s d < 0
    · have e1 : impl_Cube_36.f s = some s := by
        unfold impl_Cube_36.f
        rw [if_pos (by omega)]
      refine Ev.neg (by simp; omega) (Ev.bind0 e1 ?_)
      refine Ev.pos (by omega) (Ev.bind0 (implSortQ_eq (s ++ [d]) (by simp) (by simp; omega)) (Ev.bind (implNormalQ_ev (sortC (s ++ [d])) (by rw [sortQ_len]; simp; omega) (by rw [sortQ_len]; simp)) (Ev.pos (by omega) (hi _ (by simp; omega) ?_))))
      have : freeQ s (d :: suf) = d :: freeQ s suf := by simp [freeQ, hm]
      rw [this] at hc
      simpa [normS] using hc
    · refine Ev.pos (by simp; omega) (hi acc (by omega) ?_)
      have : freeQ s (d :: suf) = freeQ s suf := by simp [freeQ, hm]
      rw [this] at hc
      exact hc
theorem implAllQ_2 (x16 x17 x22 : Int) (now : List (List Cube)) (x21 : Int) (s : List Cube) (hs : s.length ≤ 63) {r : List (List Cube)} : ∀ (suf pre : List Cube) (acc : List (List Cube)), s = pre ++ suf → acc.length + suf.length * 6 ≤ 800000000 →
    Ev (fun k => impl_allSolids.l1 k (acc ++ suf.flatMap fun c => (freeQ s (nbQ c)).map (normS s)) x16 x17 now x21 (wrap64 (x22 + 1))) r → Ev (fun k => impl_allSolids.l2 k acc s x16 x17 now x21 x22 s (s.length : Int) (pre.length : Int)) r
  | [], pre, acc, hx, hl, hc => by
    refine Ev.succ ?_
    have hp : s.length = pre.length := by rw [hx]; simp
    simp only [impl_allSolids.l2]
    exact Ev.neg (by omega) (by simpa using hc)
  | c :: suf, pre, acc, hx, hl, hc => by
    refine Ev.succ ?_
    have hsm : small s := by unfold small; omega
    simp only [List.length_cons] at hl
    have hp := pre_len hx
    simp only [impl_allSolids.l2, pre_lt hx, pre_0, if_true, at_preQ hx]
    refine Ev.bind0 (implAroundQ_eq c) ?_
    refine implAllQ_3 x16 x17 x22 (pre.length : Int) now x21 s hs (s.length : Int) (nbQ c) (by rw [nbQ_len]; omega) (nbQ c) [] acc rfl (by rw [nbQ_len]; omega) ?_
    rw [pre_w hx hsm]
    have hfr := freeQ_len s (nbQ c)
    have h6 := nbQ_len c
    have hi := implAllQ_2 x16 x17 x22 now x21 s hs suf (pre ++ [c]) (acc ++ (freeQ s (nbQ c)).map (normS s)) (by rw [hx]; simp) (by rw [List.length_append, List.length_map]; omega) (by simpa using hc)
    simp only [List.length_append, List.length_singleton, Int.natCast_add] at hi
    exact hi
theorem implAllQ_1 {m : Int} {n : Nat} (x16 x17 : Int) (now : List (List Cube)) (h : ∀ s ∈ now, GoodQ m n s) (hn : n ≤ 6) (hnl : now.length ≤ 20000000) {r : List (List Cube)} : ∀ (suf pre : List (List Cube)) (acc : List (List Cube)), now = pre ++ suf → acc.length + suf.length * 36 ≤ 720000000 → 0 < (acc ++ suf.flatMap moreQ).length →
    Ev (fun k => impl_allSolids.l0 k (tidyL (acc ++ suf.flatMap moreQ)) x16 (wrap64 (x17 + 1))) r → Ev (fun k => impl_allSolids.l1 k acc x16 x17 now (now.length : Int) (pre.length : Int)) r
  | [], pre, acc, hx, hl, h0, hc => by
    refine Ev.succ ?_
    have hp : now.length = pre.length := by rw [hx]; simp
    simp only [List.flatMap_nil, List.append_nil] at h0 hc
    simp only [impl_allSolids.l1]
    have hsl : (sortS acc).length = acc.length := (List.mergeSort_perm _ _).length_eq
    refine Ev.neg (by omega) (Ev.bind0 (implSortS_eq acc h0 (by omega)) (Ev.bind0 (implCompS_eq (sortS acc) (by omega) (by omega)) hc))
  | s :: suf, pre, acc, hx, hl, h0, hc => by
    refine Ev.succ ?_
    have hsm : small now := by unfold small; omega
    simp only [List.length_cons] at hl
    have hs : s ∈ now := by rw [hx]; simp
    have hgl := (h s hs).len
    have hp := pre_len hx
    simp only [impl_allSolids.l1, pre_lt hx, pre_0, if_true, at_preLQS hx]
    refine implAllQ_2 x16 x17 (pre.length : Int) now (now.length : Int) s (by omega) s [] acc rfl (by omega) ?_
    rw [pre_w hx hsm]
    have hml := moreQ_len s
    have e : acc ++ (s :: suf).flatMap moreQ = (acc ++ moreQ s) ++ suf.flatMap moreQ := by simp
    rw [e] at h0 hc
    have hi := implAllQ_1 x16 x17 now h hn hnl suf (pre ++ [s]) (acc ++ moreQ s) (by rw [hx]; simp) (by rw [List.length_append]; omega) h0 hc
    simp only [List.length_append, List.length_singleton, Int.natCast_add] at hi
    exact hi
theorem idxFQ_in : ∀ (l : List Cube) (c : Cube) (i : Int), 0 ≤ i → (0 ≤ idxFQ l c i ↔ c ∈ l)
  | [], c, i, _ => by simp [idxFQ]
  | a :: r, c, i, hi => by
    rw [idxFQ]
    by_cases h : sameQ a c = true
    · rw [if_pos h]
      simp [sameQ_iff.1 h, hi]
    · rw [if_neg h, idxFQ_in r c (i + 1) (by omega), List.mem_cons]
      have hne : ¬ c = a := fun e => h (sameQ_iff.2 e.symm)
      simp [hne]
theorem idxQ_in (l : List Cube) (c : Cube) : 0 ≤ idxQ l c ↔ c ∈ l := idxFQ_in l c 0 (by omega)
theorem maxQ : ∀ (l : List Cube), l ≠ [] → ∃ c ∈ l, ∀ d ∈ l, d.f0 ≤ c.f0
  | [], h => absurd rfl h
  | [a], _ => ⟨a, by simp, fun d hd => by rw [List.mem_singleton.1 hd]; omega⟩
  | a :: b :: r, _ => by
    obtain ⟨c, hc, h⟩ := maxQ (b :: r) (by simp)
    by_cases hac : a.f0 ≤ c.f0
    · refine ⟨c, List.mem_cons_of_mem _ hc, fun d hd => ?_⟩
      rcases List.mem_cons.1 hd with rfl | hd
      · exact hac
      · exact h d hd
    · refine ⟨a, List.mem_cons_self, fun d hd => ?_⟩
      rcases List.mem_cons.1 hd with rfl | hd
      · omega
      · have := h d hd; omega
theorem more_pos {m : Int} {n : Nat} {s : List Cube} (h : GoodQ m n s) (hm : 0 ≤ m ∧ m ≤ 20) : 0 < (moreQ s).length := by
  have hne : s ≠ [] := by
    intro e
    have h1 := h.len
    have h2 := h.pos
    rw [e] at h1
    simp at h1
    omega
  obtain ⟨c, hc, hmax⟩ := maxQ s hne
  have hb := h.box c hc
  have hw : wrap64 (c.f0 + 1) = c.f0 + 1 := w64 (by omega) (by omega)
  have hd : (⟨c.f0 + 1, c.f1, c.f2⟩ : Cube) ∈ nbQ c := by unfold nbQ; rw [hw]; simp
  have hf : (⟨c.f0 + 1, c.f1, c.f2⟩ : Cube) ∈ freeQ s (nbQ c) := by
    refine List.mem_filter.2 ⟨hd, decide_eq_true ?_⟩
    have : ¬ 0 ≤ idxQ s (⟨c.f0 + 1, c.f1, c.f2⟩ : Cube) := fun h0 => by
      have := hmax _ ((idxQ_in s _).1 h0)
      simp only at this
      omega
    omega
  exact List.length_pos_of_mem (List.mem_flatMap.2 ⟨c, hc, List.mem_map.2 ⟨_, hf, rfl⟩⟩)
theorem implAllQ_q (N : Nat) (hN : N ≤ 6) : ∀ (q i : Nat) (m : Int) (n : Nat) (now : List (List Cube)), i + q = N → (∀ s ∈ now, GoodQ m n s) → 0 ≤ m → m + q * 2 ≤ 20 → n + q ≤ 6 → 0 < now.length → now.length * 36 ^ q ≤ 2000000 →
    Ev (fun k => impl_allSolids.l0 k now (N : Int) (i : Int)) (allQ q now)
  | 0, i, m, n, now, hi, h, h0, h1, h2, h3, h4 => by
    refine Ev.succ ?_
    simp only [impl_allSolids.l0]
    exact Ev.neg (by omega) (Ev.now _)
  | q + 1, i, m, n, now, hi, h, h0, h1, h2, h3, h4 => by
    have e36 : 36 ^ (q + 1) = 36 ^ q * 36 := Nat.pow_succ ..
    have e1 : 0 < 36 ^ q := Nat.pow_pos (by omega)
    have hnl : now.length * 36 ≤ 2000000 := Nat.le_trans (Nat.mul_le_mul_left _ (by rw [e36]; omega)) h4
    have ew : wrap64 ((i : Int) + 1) = ((i + 1 : Nat) : Int) := by rw [w64 (by omega) (by omega)]; omega
    have hg := good_next h (by omega : 0 ≤ m ∧ m ≤ 20)
    have hnx : (nextQ now).length ≤ now.length * 36 := Nat.le_trans (nextQ_len (n := n) fun s hs => (h s hs).len) (Nat.mul_le_mul_left _ (by omega))
    have hb : (nextQ now).length * 36 ^ q ≤ 2000000 := by
      refine Nat.le_trans (Nat.mul_le_mul_right _ hnx) ?_
      rw [Nat.mul_assoc, Nat.mul_comm 36, ← e36]
      exact h4
    obtain ⟨s, hs⟩ := List.exists_mem_of_length_pos h3
    have hsp := more_pos (h s hs) (by omega)
    obtain ⟨x, hx⟩ := List.exists_mem_of_length_pos hsp
    have hfm : x ∈ now.flatMap moreQ := List.mem_flatMap.2 ⟨s, hs, hx⟩
    have hfp : 0 < ([] ++ now.flatMap moreQ).length := by rw [List.nil_append]; exact List.length_pos_of_mem hfm
    have hn0 : 0 < (nextQ now).length := by
      rw [← tidy_next]
      exact List.length_pos_of_mem (tidyL_mem.2 hfm)
    refine Ev.succ ?_
    simp only [impl_allSolids.l0]
    refine Ev.pos (by omega) (implAllQ_1 (N : Int) (i : Int) now h (by omega) (by omega) now [] [] rfl (by simp; omega) hfp ?_)
    rw [ew, List.nil_append, tidy_next]
    exact implAllQ_q N hN q (i + 1) (m + 2) (n + 1) _ (by omega) hg (by omega) (by omega) (by omega) hn0 hb
def oneQ : List (List Cube) := [[⟨0, 0, 0⟩]]
theorem oneQ_good : ∀ s ∈ oneQ, GoodQ 0 1 s := fun s hs => by
  rw [List.mem_singleton.1 hs]
  exact ⟨rfl, by omega, fun c hc => by rw [List.mem_singleton.1 hc]; simp⟩
theorem specAllQ_ev (n : Nat) (h1 : 1 ≤ n) (h2 : n ≤ 4) : Ev (fun k => spec_l09All.f k (n : Int)) (allQ (n - 1) oneQ) := by
  have h36 : 36 ^ (n - 1) ≤ 36 ^ 3 := Nat.pow_le_pow_right (by omega) (by omega)
  unfold spec_l09All.f
  exact specAllQ_q n (by omega) (n - 1) 1 0 1 oneQ (by omega) oneQ_good (by omega) (by omega) (by omega) (by simp [oneQ]; omega)
theorem implAllQ_ev (n : Nat) (h1 : 1 ≤ n) (h2 : n ≤ 4) : Ev (fun k => impl_allSolids.f k (n : Int)) (allQ (n - 1) oneQ) := by
  have h36 : 36 ^ (n - 1) ≤ 36 ^ 3 := Nat.pow_le_pow_right (by omega) (by omega)
  have e : wrap64 ((n : Int) - 1) = ((n - 1 : Nat) : Int) := by rw [w64 (by omega) (by omega)]; omega
  unfold impl_allSolids.f
  rw [e]
  exact implAllQ_q (n - 1) (by omega) (n - 1) 0 0 1 oneQ (by omega) oneQ_good (by omega) (by omega) (by omega) (by simp [oneQ]) (by simp [oneQ]; omega)
theorem allQ_ok (n : Nat) (h1 : 1 ≤ n) (h2 : n ≤ 4) : ∀ x ∈ allQ (n - 1) oneQ, x.length = n ∧ ∀ c ∈ x, okQ c := fun x hx => by
  have h := allQ_good (n - 1) 0 1 oneQ oneQ_good (by omega) (by omega) x hx
  exact ⟨by rw [h.len]; omega, h.ok (by omega)⟩
theorem equalQ_ev (a b : List Cube) (ha : small a) : Ev (fun k => impl_Cube_44.f k a b) (decide (a = b)) := by
  unfold impl_Cube_44.f
  by_cases hl : a.length = b.length
  · refine Ev.pos (by omega) ?_
    refine loop_list a (fun k i (_ : Unit) => impl_Cube_44.l0 k a b (a.length : Int) i) (fun pre suf _ => decide (suf = b.drop pre.length)) (fun _ _ => True) ?_ ?_ () trivial
    · intro _ _
      simp only [impl_Cube_44.l0, len_lt, if_false]
      refine Ev.of_eq (Ev.now _) ?_
      rw [hl, List.drop_length]
      simp
    · intro pre c suf _ hx _ ih
      have hp := pre_len hx
      have hpb : pre.length < b.length := by omega
      have hlt : ((pre.length : Int) < (b.length : Int)) = True := by simp; omega
      have eb := rdQ b pre.length hpb
      simp only [impl_Cube_44.l0, pre_lt hx, pre_0, if_true, hlt, at_preQ hx, pre_w hx ha, eb]
      rw [List.drop_eq_getElem_cons hpb]
      by_cases he : c = b[pre.length]
      · refine Ev.neg (by rw [← he]; simp) (Ev.of_eq (ih () trivial) ?_)
        rw [List.length_append, List.length_singleton]
        generalize b.drop (pre.length + 1) = R
        rw [← he]
        simp only [List.cons.injEq, true_and]
      · refine Ev.pos ?_ (Ev.of_eq (Ev.now _) ?_)
        · refine Decidable.byContradiction fun h => he ?_
          generalize b[pre.length] = d at h
          obtain ⟨c0, c1, c2⟩ := c
          obtain ⟨d0, d1, d2⟩ := d
          simp at h
          simp [h]
        · generalize b.drop (pre.length + 1) = R
          simp only [List.cons.injEq, he, false_and, decide_false]
  · refine Ev.neg (by omega) (Ev.of_eq (Ev.now _) ?_)
    have : a ≠ b := fun e => hl (by rw [e])
    simp [this]
def keepQ (b : Bool) (l : List (List Cube)) : List (List Cube) := l.filter fun s => decide (leastForm s (turnsQ b) = s)
theorem keepQ_snoc (b : Bool) (l : List (List Cube)) (s : List Cube) : keepQ b (l ++ [s]) = keepQ b l ++ (if leastForm s (turnsQ b) = s then [s] else []) := by
  unfold keepQ
  rw [List.filter_append]
  congr 1
  by_cases h : leastForm s (turnsQ b) = s
  · rw [if_pos h]; simp [h]
  · rw [if_neg h]; simp [h]
theorem turnsQ_eq (b : Bool) : spec_l09Turns.f b = some ((turnsQ b : Nat) : Int) := by cases b <;> rfl
theorem specOwnQ_ev (b : Bool) (l : List (List Cube)) (hl : l.length ≤ 1000000000) (h : ∀ s ∈ l, 0 < s.length ∧ s.length ≤ 64) : Ev (fun k => spec_l09Own.f k l b) (keepQ b l) := by
  have hsm : small l := by unfold small; omega
  unfold spec_l09Own.f
  refine loop_list l (fun k i (acc : List (List Cube)) => spec_l09Own.l0 k l b acc i) (fun _ _ _ => keepQ b l) (fun pre acc => acc = keepQ b pre) ?_ ?_ [] rfl
  · rintro acc rfl
    simp only [spec_l09Own.l0, len_lt, if_false]
    exact Ev.now _
  · rintro pre s suf acc hx rfl ih
    have hp := pre_len hx
    have hg := h s (by rw [hx]; simp)
    have hk : (keepQ b pre).length ≤ pre.length := List.length_filter_le _ _
    have hn : 1 ≤ turnsQ b ∧ turnsQ b ≤ 1000 := by cases b <;> decide
    have hll := leastForm_len s (turnsQ b)
    simp only [spec_l09Own.l0, pre_lt hx, pre_0, if_true, at_preLQS hx, pre_w hx hsm, turnsQ_eq, Option.bind_some]
    refine Ev.bind (specLeastQ_ev s (turnsQ b) hn.1 hn.2 (by omega) hg.1) (Ev.bind (specCompareQ_ev _ s (by unfold small; omega)) ?_)
    by_cases e : leastForm s (turnsQ b) = s
    · refine Ev.pos ((cmpSQ_zero _ _).2 e) (Ev.pos (by omega) (ih _ ?_))
      rw [keepQ_snoc, if_pos e]
    · refine Ev.neg (fun h0 => e ((cmpSQ_zero _ _).1 h0)) (ih _ ?_)
      rw [keepQ_snoc, if_neg e, List.append_nil]
theorem implOwnQ_ev (b : Bool) (l : List (List Cube)) (hl : l.length ≤ 1000000000) (h : ∀ s ∈ l, 0 < s.length ∧ s.length ≤ 64 ∧ ∀ c ∈ s, okQ c) (hA : apartB (keepQ b l) = true) : Ev (fun k => impl_ownSolids.f k l b) (keepQ b l) := by
  have hsm : small l := by unfold small; omega
  unfold impl_ownSolids.f
  refine Ev.bind (a := keepQ b l) ?_ (Ev.pos hA (Ev.now _))
  refine loop_list l (fun k i (acc : List (List Cube)) => impl_ownSolids.l0 k b acc l (l.length : Int) i) (fun _ _ _ => keepQ b l) (fun pre acc => acc = keepQ b pre) ?_ ?_ [] rfl
  · rintro acc rfl
    simp only [impl_ownSolids.l0, len_lt, if_false]
    exact Ev.now _
  · rintro pre s suf acc hx rfl ih
    have hp := pre_len hx
    have hg := h s (by rw [hx]; simp)
    have hk : (keepQ b pre).length ≤ pre.length := List.length_filter_le _ _
    have hll := leastForm_len s (turnsQ b)
    simp only [impl_ownSolids.l0, pre_lt hx, pre_0, if_true, at_preLQS hx, pre_w hx hsm]
    refine Ev.bind (implLeastQ_ev s b (by omega) hg.1 hg.2.2) (Ev.bind (equalQ_ev (leastForm s (turnsQ b)) s (by unfold small; omega)) ?_)
    by_cases e : leastForm s (turnsQ b) = s
    · refine Ev.pos (by simpa using e) (Ev.pos (by omega) (ih _ ?_))
      rw [keepQ_snoc, if_pos e]
    · refine Ev.neg (by simpa using e) (ih _ ?_)
      rw [keepQ_snoc, if_neg e, List.append_nil]
theorem allQ_len (n : Nat) (h1 : 1 ≤ n) (h2 : n ≤ 4) : (allQ (n - 1) oneQ).length ≤ 1000000 := by
  have key : ∀ (q : Nat) (m : Int) (n : Nat) (l : List (List Cube)), (∀ s ∈ l, GoodQ m n s) → 0 ≤ m → m + q * 2 ≤ 20 → n + q ≤ 6 → (allQ q l).length ≤ l.length * 36 ^ q := by
    intro q
    induction q with
    | zero => intro m n l _ _ _ _; simp [allQ]
    | succ q ih =>
      intro m n l h h0 h1 h2
      have e36 : 36 ^ (q + 1) = 36 ^ q * 36 := Nat.pow_succ ..
      have hnx : (nextQ l).length ≤ l.length * 36 := Nat.le_trans (nextQ_len (n := n) fun s hs => (h s hs).len) (Nat.mul_le_mul_left _ (by omega))
      have := ih (m + 2) (n + 1) (nextQ l) (good_next h (by omega)) (by omega) (by omega) (by omega)
      rw [allQ]
      refine Nat.le_trans this (Nat.le_trans (Nat.mul_le_mul_right _ hnx) ?_)
      rw [Nat.mul_assoc, Nat.mul_comm 36, ← e36]
      exact Nat.le_refl _
  have h36 : 36 ^ (n - 1) ≤ 36 ^ 3 := Nat.pow_le_pow_right (by omega) (by omega)
  have := key (n - 1) 0 1 oneQ oneQ_good (by omega) (by omega) (by omega)
  simp only [oneQ, List.length_singleton, Nat.one_mul] at this
  have h3 : 36 ^ 3 = 46656 := rfl
  exact Nat.le_trans this (by omega)
theorem inQ4 (a b c : Int) : spec_l01In.f a b c = some (decide (b ≤ a ∧ a ≤ c)) := by
  unfold spec_l01In.f
  by_cases h : a ≥ b
  · rw [if_pos h]
    congr 1
    simp
    omega
  · rw [if_neg h]
    congr 1
    simp
    omega
theorem withinQ4 (a b c : Int) : impl_within.f a b c = some (decide (b ≤ a ∧ a ≤ c)) := inQ4 a b c
theorem allQ_h1 (n : Nat) (h1 : 1 ≤ n) (h2 : n ≤ 4) : ∀ s ∈ allQ (n - 1) oneQ, 0 < s.length ∧ s.length ≤ 64 := fun s hs => by
  have := (allQ_ok n h1 h2 s hs).1
  omega
theorem allQ_h2 (n : Nat) (h1 : 1 ≤ n) (h2 : n ≤ 4) : ∀ s ∈ allQ (n - 1) oneQ, 0 < s.length ∧ s.length ≤ 64 ∧ ∀ c ∈ s, okQ c := fun s hs => by
  have := allQ_ok n h1 h2 s hs
  exact ⟨by omega, by omega, this.2⟩
theorem oneQ_asc : asc oneQ := by unfold asc oneQ; simp
theorem keepQ_apart (b : Bool) (n : Nat) (h1 : 1 ≤ n) (h2 : n ≤ 4) : apartB (keepQ b (allQ (n - 1) oneQ)) = true := by
  have ha : asc (keepQ b (allQ (n - 1) oneQ)) := List.Pairwise.filter _ (allQ_asc (n - 1) _ oneQ_asc)
  have hl : ∀ x ∈ keepQ b (allQ (n - 1) oneQ), x.length = n := fun x hx => (allQ_ok n h1 h2 x (List.mem_filter.1 hx).1).1
  unfold apartB
  rw [Bool.and_eq_true, List.all_eq_true]
  refine ⟨decide_eq_true (ha.imp fun h e => by rw [(cmpSQ_zero _ _).2 e] at h; omega), fun x hx => ?_⟩
  have hx' := hl x hx
  have hh : ((keepQ b (allQ (n - 1) oneQ)).headD []).length = n := by
    cases e : keepQ b (allQ (n - 1) oneQ) with
    | nil => rw [e] at hx; simp at hx
    | cons a r => exact hl a (by rw [e]; simp)
  rw [hh, Bool.and_eq_true]
  exact ⟨decide_eq_true hx', decide_eq_true (by omega)⟩
def cntQ (a : Int) : Int × Int × Int × Int := if 1 ≤ a ∧ a ≤ 4 then (((allQ (a.toNat - 1) oneQ).length : Int), ((keepQ false (allQ (a.toNat - 1) oneQ)).length : Int), ((keepQ true (allQ (a.toNat - 1) oneQ)).length : Int), 0) else (0, 0, 0, 2)
theorem specCountQ_ev (a : Int) : Ev (fun k => spec_CountSolids.f k a) (cntQ a) := by
  unfold spec_CountSolids.f cntQ
  refine Ev.bind0 (inQ4 a 1 4) ?_
  by_cases h : 1 ≤ a ∧ a ≤ 4
  · obtain ⟨n, rfl⟩ : ∃ n : Nat, a = (n : Int) := ⟨a.toNat, by omega⟩
    rw [if_pos h]
    have hl := allQ_len n (by omega) (by omega)
    have h1 := allQ_h1 n (by omega) (by omega)
    exact Ev.pos (by simpa using h) (Ev.bind (specAllQ_ev n (by omega) (by omega)) (Ev.bind (specOwnQ_ev false _ (by omega) h1) (Ev.bind (specOwnQ_ev true _ (by omega) h1) (Ev.now _))))
  · rw [if_neg h]
    exact Ev.neg (by simpa using h) (Ev.now _)
theorem implCountQ_ev (a : Int) : Ev (fun k => impl_CountSolids.f k a) (cntQ a) := by
  unfold impl_CountSolids.f cntQ
  refine Ev.bind0 (withinQ4 a 1 4) ?_
  by_cases h : 1 ≤ a ∧ a ≤ 4
  · obtain ⟨n, rfl⟩ : ∃ n : Nat, a = (n : Int) := ⟨a.toNat, by omega⟩
    rw [if_pos h]
    have hl := allQ_len n (by omega) (by omega)
    have h1 := allQ_h2 n (by omega) (by omega)
    exact Ev.pos (by simpa using h) (Ev.bind (implAllQ_ev n (by omega) (by omega)) (Ev.bind (implOwnQ_ev false _ (by omega) h1 (keepQ_apart false n (by omega) (by omega))) (Ev.bind (implOwnQ_ev true _ (by omega) h1 (keepQ_apart true n (by omega) (by omega))) (Ev.now _))))
  · rw [if_neg h]
    exact Ev.neg (by simpa using h) (Ev.now _)
end Go.Proofs.Ytlompfboheiliaa.L
end
section
namespace Go.Proofs.Ytlompfboheiliaa.L
open Go.RowKit Go.Proofs.YtlompfboheiliaaW.PrintWords Go.Proofs.YtlompfboheiliaaW.PrintLast Go.Proofs.YtlompfboheiliaaW.PrintMore Go.Proofs.Ytlompfboheiliaa.F
set_option linter.unusedVariables false
def solR (a : Int) (b : Bool) : List (List Cube) × Int := if 1 ≤ a ∧ a ≤ 4 then (keepQ b (allQ (a.toNat - 1) oneQ), 0) else ([], 2)
theorem implSolR_ev (a : Int) (b : Bool) : Ev (fun k => impl_Solids.f k a b) (solR a b) := by
  unfold impl_Solids.f solR
  refine Ev.bind0 (withinQ4 a 1 4) ?_
  by_cases h : 1 ≤ a ∧ a ≤ 4
  · obtain ⟨n, rfl⟩ : ∃ n : Nat, a = (n : Int) := ⟨a.toNat, by omega⟩
    rw [if_pos h]
    have hl := allQ_len n (by omega) (by omega)
    exact Ev.pos (by simpa using h) (Ev.bind (implAllQ_ev n (by omega) (by omega)) (Ev.bind (implOwnQ_ev b _ (by omega) (allQ_h2 n (by omega) (by omega)) (keepQ_apart b n (by omega) (by omega))) (Ev.now _)))
  · rw [if_neg h]
    exact Ev.neg (by simpa using h) (Ev.now _)
end Go.Proofs.Ytlompfboheiliaa.L
end
section
namespace Go.Proofs.Ytlompfboheiliaa.L
open Go.RowKit Go.Proofs.YtlompfboheiliaaW.PrintWords Go.Proofs.YtlompfboheiliaaW.PrintLast Go.Proofs.YtlompfboheiliaaW.PrintMore Go.Proofs.Ytlompfboheiliaa.F
set_option linter.unusedVariables false
set_option linter.unusedSimpArgs false
structure Src (cs : List Int) (a s : Int) : Prop where
  at0 : 0 ≤ a
  at1 : a ≤ (cs.length : Int)
  sd0 : 0 ≤ s
  sd1 : s < 2147483647
  len : cs.length ≤ 1000000000000000000
  byte : ∀ x ∈ cs, 0 ≤ x ∧ x ≤ 255
theorem rd_byte {cs : List Int} {a s : Int} (h : Src cs a s) (i : Int) (h0 : 0 ≤ i) (h1 : i < (cs.length : Int)) : 0 ≤ rd cs i ∧ rd cs i ≤ 255 := by
  unfold rd
  obtain ⟨n, rfl⟩ : ∃ n : Nat, i = (n : Int) := ⟨i.toNat, by omega⟩
  have hn : n < cs.length := by omega
  have e : cs.getD (n : Int).toNat 0 = cs[n] := by simp [List.getD, hn]
  rw [e]
  exact h.byte _ (List.getElem_mem hn)
theorem next_ex {cs : List Int} {a s : Int} (h : Src cs a s) (n : Int) (hn : n ≤ 1000000000000) : ∃ v a' s', spec_l01Next.f cs a s n = some (v, a', s') ∧ Src cs a' s' ∧ 0 ≤ v ∧ (1 ≤ n → v < n) := by
  have ⟨h0, h1, h2, h3, h4, h5⟩ := h
  unfold spec_l01Next.f
  by_cases hn1 : n ≤ 1
  · rw [if_pos hn1]
    exact ⟨_, _, _, rfl, h, by omega, by omega⟩
  · rw [if_neg hn1]
    have ew : wrap64 ((wrap64 (s * 48271)) + 29) = s * 48271 + 29 := by rw [w64 (n := s * 48271) (by omega) (by omega), w64 (by omega) (by omega)]
    have em : Int.tmod (s * 48271 + 29) 2147483647 = (s * 48271 + 29) % 2147483647 := Int.tmod_eq_emod_of_nonneg (by omega)
    have hs0 : 0 ≤ (s * 48271 + 29) % 2147483647 := Int.emod_nonneg _ (by omega)
    have hs1 : (s * 48271 + 29) % 2147483647 < 2147483647 := Int.emod_lt_of_pos _ (by omega)
    rw [ew, em]
    generalize (s * 48271 + 29) % 2147483647 = s' at hs0 hs1 ⊢
    have et : Int.tdiv s' 31 = s' / 31 := Int.tdiv_eq_ediv_of_nonneg hs0
    rw [et, w64 (n := s' / 31) (by omega) (by omega)]
    have tm (x : Int) (hx : 0 ≤ x) : 0 ≤ Int.tmod x n ∧ Int.tmod x n < n := by
      rw [Int.tmod_eq_emod_of_nonneg hx]
      exact ⟨Int.emod_nonneg _ (by omega), Int.emod_lt_of_pos _ (by omega)⟩
    by_cases ha : a < (cs.length : Int)
    · have ea : wrap64 (a + 1) = a + 1 := w64 (by omega) (by omega)
      have hr := rd_byte h a h0 ha
      have e1 : wrap64 (rd cs a) = rd cs a := w64 (by omega) (by omega)
      have e2 : wrap64 (a + 1 - 1) = a := by rw [w64 (by omega) (by omega)]; omega
      have e3 : wrap64 (s' / 31 + rd cs a) = s' / 31 + rd cs a := w64 (by omega) (by omega)
      have hS : Src cs (a + 1) s' := ⟨by omega, by omega, hs0, hs1, h4, h5⟩
      rw [if_pos ha, if_pos h0, ea, e1, e2, e1, e3, if_pos h0, if_pos ha, if_neg (by omega : ¬ n = 0)]
      repeat' split
      all_goals first
        | exact ⟨_, _, _, rfl, hS, (tm _ (by omega)).1, fun _ => (tm _ (by omega)).2⟩
        | omega
    · have hS : Src cs a s' := ⟨by omega, by omega, hs0, hs1, h4, h5⟩
      rw [if_neg ha, if_neg (by omega : ¬ n = 0)]
      have := tm (s' / 31) (by omega)
      exact ⟨_, _, _, rfl, hS, this.1, fun _ => this.2⟩
def Ex {α : Type} (g : Nat → Option α) (P : α → Prop) : Prop := ∃ r, Ev g r ∧ P r
theorem Ex.now {α : Type} {P : α → Prop} {r : α} (h : P r) : Ex (fun _ => some r) P := ⟨r, Ev.now _, h⟩
theorem Ex.mono {α : Type} {g : Nat → Option α} {P Q : α → Prop} (h : Ex g P) (hi : ∀ r, P r → Q r) : Ex g Q := by
  obtain ⟨r, h1, h2⟩ := h
  exact ⟨r, h1, hi r h2⟩
theorem Ex.bind {α β : Type} {g : Nat → Option α} {f : Nat → α → Option β} {P : α → Prop} {Q : β → Prop} (h : Ex g P) (k : ∀ a, P a → Ex (fun n => f n a) Q) : Ex (fun n => (g n).bind (f n)) Q := by
  obtain ⟨a, h1, h2⟩ := h
  obtain ⟨b, h3, h4⟩ := k a h2
  exact ⟨b, Ev.bind h1 h3, h4⟩
theorem Ex.bind0 {α β : Type} {o : Option α} {f : Nat → α → Option β} {a : α} {Q : β → Prop} (h : o = some a) (k : Ex (fun n => f n a) Q) : Ex (fun n => o.bind (f n)) Q := by
  subst h
  exact k
theorem Ex.pos {α : Type} {c : Prop} [Decidable c] {f g : Nat → Option α} {P : α → Prop} (h : c) (e : Ex f P) : Ex (fun k => if c then f k else g k) P := by
  obtain ⟨r, h1, h2⟩ := e
  exact ⟨r, Ev.pos h h1, h2⟩
theorem Ex.neg {α : Type} {c : Prop} [Decidable c] {f g : Nat → Option α} {P : α → Prop} (h : ¬ c) (e : Ex g P) : Ex (fun k => if c then f k else g k) P := by
  obtain ⟨r, h1, h2⟩ := e
  exact ⟨r, Ev.neg h h1, h2⟩
theorem Ex.if_ {α : Type} {c : Prop} [Decidable c] {f g : Nat → Option α} {P : α → Prop} (h : c → Ex f P) (h' : ¬ c → Ex g P) : Ex (fun k => if c then f k else g k) P := by
  by_cases hc : c
  · exact Ex.pos hc (h hc)
  · exact Ex.neg hc (h' hc)
theorem Ex.succ {α : Type} {g : Nat → Option α} {P : α → Prop} (h : Ex (fun k => g (k + 1)) P) : Ex g P := by
  obtain ⟨r, h1, h2⟩ := h
  exact ⟨r, Ev.succ h1, h2⟩
theorem Ex.next {β : Type} {cs : List Int} {a s : Int} (h : Src cs a s) (n : Int) (hn : n ≤ 1000000000000) {f : Nat → Int × Int × Int → Option β} {Q : β → Prop}
    (k : ∀ v a' s', Src cs a' s' → 0 ≤ v → (1 ≤ n → v < n) → Ex (fun q => f q (v, a', s')) Q) : Ex (fun q => (spec_l01Next.f cs a s n).bind (f q)) Q := by
  obtain ⟨v, a', s', e, h1, h2, h3⟩ := next_ex h n hn
  exact Ex.bind0 e (k v a' s' h1 h2 h3)
theorem from_l (cs : List Int) (hl : cs.length ≤ 1000000000000000000) (hb : ∀ x ∈ cs, 0 ≤ x ∧ x ≤ 255) : ∀ (q i : Nat) (s : Int), i + q = min cs.length 64 → 0 ≤ s → s < 2147483647 →
    Ex (fun k => spec_l01From.l0 k cs (i : Int) cs 0 s) fun r => r.1 = cs ∧ r.2.1 = 0 ∧ Src cs 0 r.2.2
  | 0, i, s, hi, h0, h1 => by
    refine Ex.succ ?_
    simp only [spec_l01From.l0]
    have hS : Src cs 0 s := ⟨by omega, by omega, h0, h1, hl, hb⟩
    refine Ex.if_ (fun _ => Ex.neg (by omega) (Ex.now ⟨rfl, rfl, hS⟩)) (fun _ => Ex.now ⟨rfl, rfl, hS⟩)
  | q + 1, i, s, hi, h0, h1 => by
    refine Ex.succ ?_
    simp only [spec_l01From.l0]
    have hS : Src cs 0 s := ⟨by omega, by omega, h0, h1, hl, hb⟩
    have hr := rd_byte hS (i : Int) (by omega) (by omega)
    have ei : wrap64 ((i : Int) + 1) = ((i + 1 : Nat) : Int) := by rw [w64 (by omega) (by omega)]; omega
    have es : Int.tmod (wrap64 ((wrap64 (s * 47)) + (wrap64 (rd cs (i : Int))))) 2147483647 = (s * 47 + rd cs (i : Int)) % 2147483647 := by
      rw [w64 (n := s * 47) (by omega) (by omega), w64 (n := rd cs (i : Int)) (by omega) (by omega), w64 (by omega) (by omega), Int.tmod_eq_emod_of_nonneg (by omega)]
    rw [ei, es]
    exact Ex.pos (by omega) (Ex.pos (by omega) (Ex.pos (by omega) (from_l cs hl hb q (i + 1) _ (by omega) (Int.emod_nonneg _ (by omega)) (Int.emod_lt_of_pos _ (by omega)))))
theorem from_ex (cs : List Int) (hl : cs.length ≤ 1000000000000000000) (hb : ∀ x ∈ cs, 0 ≤ x ∧ x ≤ 255) : Ex (fun k => spec_l01From.f k cs) fun r => r.1 = cs ∧ r.2.1 = 0 ∧ Src cs 0 r.2.2 := by
  unfold spec_l01From.f
  exact from_l cs hl hb (min cs.length 64) 0 61003 (by omega) (by omega) (by omega)
end Go.Proofs.Ytlompfboheiliaa.L
end
section
namespace Go.Proofs.Ytlompfboheiliaa.L
open Go.RowKit Go.Proofs.YtlompfboheiliaaW.PrintWords Go.Proofs.YtlompfboheiliaaW.PrintLast Go.Proofs.YtlompfboheiliaaW.PrintMore Go.Proofs.Ytlompfboheiliaa.F
set_option linter.unusedVariables false
set_option linter.unusedSimpArgs false
def normK (s : List Cube) (d : Cube) : List Cube := normalQ (insAllQ [] (s ++ [d]))
theorem normK_eq (s : List Cube) : normK s = normS s := by funext d; unfold normK normS; rw [insAllQ_eq]
def moreK (s : List Cube) : List (List Cube) := s.flatMap fun c => (freeQ s (nbQ c)).map (normK s)
theorem moreK_eq : moreK = moreQ := by funext s; unfold moreK moreQ; rw [normK_eq]
def allK : Nat → List (List Cube) → List (List Cube)
  | 0, l => l
  | n + 1, l => allK n ((l.flatMap moreK).foldl addL [])
theorem allK_eq : ∀ (n : Nat) (l : List (List Cube)), allK n l = allQ n l
  | 0, _ => rfl
  | n + 1, l => by rw [allK, allQ, moreK_eq]; exact allK_eq n _
def formK (l : List Cube) (t : Int) : List Cube := normalQ (insAllQ [] (l.map (turnE t)))
theorem formK_eq (l : List Cube) (t : Int) : formK l t = formQ l t := by unfold formK formQ; rw [insAllQ_eq]
def lessK (l : List Cube) : Nat → Int → List Cube → List Cube
  | 0, _, b => b
  | n + 1, t, b => lessK l n (t + 1) (if cmpSQ (formK l t) b < 0 then formK l t else b)
theorem lessK_eq (l : List Cube) : ∀ (n : Nat) (t : Int) (b : List Cube), lessK l n t b = lessQ l n t b
  | 0, _, _ => rfl
  | n + 1, t, b => by rw [lessK, lessQ, formK_eq]; exact lessK_eq l n _ _
def leastK (l : List Cube) (n : Nat) : List Cube := lessK l (n - 1) 1 (formK l 0)
theorem leastK_eq (l : List Cube) (n : Nat) : leastK l n = leastForm l n := by unfold leastK leastForm; rw [lessK_eq, formK_eq]
def isLeastK (n : Nat) (s : List Cube) : Bool := decide (cmpSQ (leastK s n) s = 0)
def chkK (l : List (List Cube)) : Bool := decide ((l.filter (isLeastK 48)).length ≤ (l.filter (isLeastK 24)).length ∧ (l.filter (isLeastK 24)).length ≤ l.length ∧ l.length ≤ 24 * (l.filter (isLeastK 24)).length)
theorem isLeastK_eq (b : Bool) (l : List (List Cube)) : l.filter (isLeastK (turnsQ b)) = keepQ b l := by
  unfold keepQ
  refine List.filter_congr fun s _ => ?_
  unfold isLeastK
  rw [leastK_eq]
  exact decide_eq_decide.2 (cmpSQ_zero _ _)
theorem chk_all : chkK (allK 0 oneQ) = true ∧ chkK (allK 1 oneQ) = true ∧ chkK (allK 2 oneQ) = true ∧ chkK (allK 3 oneQ) = true := by
  refine ⟨?_, ?_, ?_, ?_⟩ <;> decide +kernel
theorem counts (n : Nat) (h1 : 1 ≤ n) (h2 : n ≤ 4) : (keepQ true (allQ (n - 1) oneQ)).length ≤ (keepQ false (allQ (n - 1) oneQ)).length ∧ (keepQ false (allQ (n - 1) oneQ)).length ≤ (allQ (n - 1) oneQ).length ∧ (allQ (n - 1) oneQ).length ≤ 24 * (keepQ false (allQ (n - 1) oneQ)).length := by
  have key : chkK (allK (n - 1) oneQ) = true := by
    obtain ⟨c0, c1, c2, c3⟩ := chk_all
    have : n = 1 ∨ n = 2 ∨ n = 3 ∨ n = 4 := by omega
    rcases this with rfl | rfl | rfl | rfl
    · exact c0
    · exact c1
    · exact c2
    · exact c3
  rw [allK_eq] at key
  unfold chkK at key
  have e1 := isLeastK_eq true (allQ (n - 1) oneQ)
  have e2 := isLeastK_eq false (allQ (n - 1) oneQ)
  have t1 : turnsQ true = 48 := rfl
  have t2 : turnsQ false = 24 := rfl
  rw [t1] at e1
  rw [t2] at e2
  rw [e1, e2] at key
  exact of_decide_eq_true key
theorem drawCount_ex (cs : List Int) (hl : cs.length ≤ 1000000000000000000) (hb : ∀ x ∈ cs, 0 ≤ x ∧ x ≤ 255) : Ex (fun k => spec_DrawCountSolids.f k cs) fun _ => True := by
  unfold spec_DrawCountSolids.f spec_DrawSolids.f
  refine Ex.bind (P := fun _ => True) ?_ fun _ _ => Ex.now trivial
  refine Ex.bind (from_ex cs hl hb) fun ⟨c1, a1, s1⟩ ⟨e1, e2, h1⟩ => ?_
  simp only at e1 e2 h1
  subst e1 e2
  refine Ex.bind0 rfl (Ex.next h1 7 (by omega) fun v a s h q0 q1 => ?_)
  have q2 := q1 (by omega)
  have e3 : (([1, 2, 3, 3, 4, 0, 5] : List Int).length : Int) = 7 := rfl
  exact Ex.pos q0 (Ex.pos (by rw [e3]; exact q2) (Ex.next h 2 (by omega) fun _ _ _ _ _ _ => Ex.now trivial))
end Go.Proofs.Ytlompfboheiliaa.L
namespace Go.Proofs.Ytlompfboheiliaa.Pure
open Go.RowKit Go.Proofs.YtlompfboheiliaaW.PrintWords Go.Proofs.Ytlompfboheiliaa.F Go.Proofs.Ytlompfboheiliaa.L
set_option linter.unusedVariables false
theorem FnSolidTotals (l0 : List Int) (hv0 : l0.length ≤ 9223372036854775807 ∧ ∀ x ∈ l0, (Lit.int .u8 x).wf = true) : ∃ k, laws_FnSolidTotals.f k l0 = some true := by
  refine Ev.rounds ?_
  obtain ⟨hm, hv⟩ := hv0
  have hb : ∀ x ∈ l0, 0 ≤ x ∧ x ≤ 255 := fun x hx => by
    have := hv x hx
    have m0 : IntKind.u8.min = 0 := by decide
    have m1 : IntKind.u8.max = 255 := by decide
    simp [Lit.wf, m0, m1] at this
    omega
  unfold laws_FnSolidTotals.f
  refine Ev.bind0 rfl ?_
  by_cases hbig : (l0.length : Int) > 4096
  · exact Ev.pos (by simpa using hbig) (Ev.now _)
  refine Ev.neg (by simpa using hbig) ?_
  obtain ⟨a, e1, _⟩ := drawCount_ex l0 (by omega) hb
  refine Ev.bind e1 (Ev.bind (implCountQ_ev a) (Ev.bind (specCountQ_ev a) (Ev.pos rfl (Ev.pos rfl (Ev.pos rfl ?_)))))
  refine Ev.step (fun k => laws_FnSolidTotals.j0.eq_2 _ _ _ _ _ _ _) (Ev.neg (by simp) ?_)
  by_cases h : 1 ≤ a ∧ a ≤ 4
  · obtain ⟨n, rfl⟩ : ∃ n : Nat, a = (n : Int) := ⟨a.toNat, by omega⟩
    have hc := counts n (by omega) (by omega)
    have hl := allQ_len n (by omega) (by omega)
    have e2 : cntQ (n : Int) = (((allQ (n - 1) oneQ).length : Int), ((keepQ false (allQ (n - 1) oneQ)).length : Int), ((keepQ true (allQ (n - 1) oneQ)).length : Int), 0) := by unfold cntQ; rw [if_pos h]; rfl
    have e3 : ∀ b, solR (n : Int) b = (keepQ b (allQ (n - 1) oneQ), 0) := fun b => by unfold solR; rw [if_pos h]; rfl
    rw [e2]
    have s1 := implSolR_ev (n : Int) false
    have s2 := implSolR_ev (n : Int) true
    rw [e3] at s1 s2
    have ew : wrap64 (24 * ((keepQ false (allQ (n - 1) oneQ)).length : Int)) = 24 * ((keepQ false (allQ (n - 1) oneQ)).length : Int) := w64 (by omega) (by omega)
    refine Ev.pos rfl (Ev.bind s1 (Ev.bind s2 (Ev.pos rfl (Ev.pos rfl (Ev.pos rfl (Ev.pos rfl (Ev.pos (by simp only; omega) (Ev.pos (by simp only; omega) ?_))))))))
    refine Ev.of_eq (Ev.now _) (decide_eq_true ?_)
    simp only
    rw [ew]
    omega
  · have e2 : cntQ a = (0, 0, 0, 2) := by unfold cntQ; rw [if_neg h]
    rw [e2]
    exact Ev.neg (by decide) (Ev.now _)
end Go.Proofs.Ytlompfboheiliaa.Pure
end
