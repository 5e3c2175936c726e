/- Solids: normal form, order, turns, forms. -/
import Derived.Test.YthgkgimjepbegaaCube
import Derived.Test.YthgkgimjepbegaaFx0
import Derived.Test.YthgkgimjepbegaaFx11
import Derived.Test.YthgkgimjepbegaaFx3
import Derived.Test.YthgkgimjepbegaaFx4
import Derived.Test.YthgkgimjepbegaaFx5
import Derived.Test.YthgkgimjepbegaaFx6
import Derived.Test.YthgkgimjepbegaaFx9
namespace Go.Proofs.Ythgkgimjepbegaa.L
open Go.RowKit Go.Proofs.YthgkgimjepbegaaW.PrintWords Go.Proofs.YthgkgimjepbegaaW.PrintLast Go.Proofs.YthgkgimjepbegaaW.PrintMore Go.Proofs.Ythgkgimjepbegaa.F
set_option linter.unusedVariables false
set_option linter.unusedSimpArgs false
/-- A loop that begins behind the first element. -/
theorem loop_tailQ {α σ ρ : Type} (c : α) (r : List α) (l : Nat → Int → σ → Option ρ) (g : List α → List α → σ → ρ) (Inv : List α → σ → Prop)
    (hn : ∀ s, Inv (c :: r) s → Ev (fun k => l (k + 1) ((c :: r).length : Int) s) (g (c :: r) [] s))
    (hs : ∀ (pre : List α) (d : α) (suf : List α) (s : σ), c :: r = pre ++ d :: suf → pre ≠ [] → Inv pre s → (∀ s', Inv (pre ++ [d]) s' → Ev (fun k => l k ((pre.length : Int) + 1) s') (g (pre ++ [d]) suf s')) → Ev (fun k => l (k + 1) (pre.length : Int) s) (g pre (d :: suf) s)) :
    ∀ s, Inv [c] s → Ev (fun k => l k 1 s) (g [c] r s) := by
  have key : ∀ (suf pre : List α), c :: r = pre ++ suf → pre ≠ [] → ∀ s, Inv pre s → Ev (fun k => l k (pre.length : Int) s) (g pre suf s) := by
    intro suf
    induction suf with
    | nil =>
      intro pre hx _ s hi
      rw [List.append_nil] at hx
      subst hx
      exact Ev.succ (hn s hi)
    | cons d suf ih =>
      intro pre hx hp s hi
      refine Ev.succ (hs pre d suf s hx hp hi fun s' hi' => ?_)
      have := ih (pre ++ [d]) (by rw [hx]; simp) (by simp) s' hi'
      rw [List.length_append] at this
      exact this
  intro s hi
  exact key r [c] rfl (by simp) s hi
def minQ (z : Int × Int × Int) (l : List Cube) : Int × Int × Int := l.foldl (fun m c => (mn m.1 c.f0, mn m.2.1 c.f1, mn m.2.2 c.f2)) z
def leastQ (l : List Cube) : Int × Int × Int := match l with | [] => (0, 0, 0) | c :: r => minQ (c.f0, c.f1, c.f2) r
def moveQ (l : List Cube) (m : Int × Int × Int) : List Cube := l.map fun c => ⟨wrap64 (c.f0 - m.1), wrap64 (c.f1 - m.2.1), wrap64 (c.f2 - m.2.2)⟩
theorem moveQ_len (l : List Cube) (m : Int × Int × Int) : (moveQ l m).length = l.length := by simp [moveQ]
def normalQ (l : List Cube) : List Cube := moveQ l (leastQ l)
theorem normalQ_len (l : List Cube) : (normalQ l).length = l.length := moveQ_len _ _
theorem wsub (a b : Int) : wrap64 (a + wrap64 (-b)) = wrap64 (a - b) := by unfold wrap64; omega
theorem specMoveQ_ev (l : List Cube) (m : Int × Int × Int) (hl : l.length ≤ 1048576) : Ev (fun k => spec_l09Move.f k l (wrap64 (-m.1)) (wrap64 (-m.2.1)) (wrap64 (-m.2.2))) (moveQ l m) := by
  have hs : small l := by unfold small; omega
  unfold spec_l09Move.f
  have := loop_list l (fun k i (s : List Cube) => spec_l09Move.l0 k l s i (wrap64 (-m.1)) (wrap64 (-m.2.1)) (wrap64 (-m.2.2))) (fun pre suf s => s ++ moveQ suf m) (fun pre s => s.length = pre.length) ?_ ?_ [] rfl
  · simpa using this
  · intro s _
    simp only [spec_l09Move.l0, len_lt, if_false]
    exact Ev.of_eq (Ev.now _) (by simp [moveQ])
  · intro pre c suf s hx hi ih
    have hp := pre_len hx
    simp only [spec_l09Move.l0, pre_lt hx, pre_0, if_true, at_preQ hx, pre_w hx hs, spec_l09Add.f, Option.bind_some, wsub]
    refine Ev.pos (by omega) (Ev.of_eq (ih _ (by simp [hi])) ?_)
    simp [moveQ]
theorem specNormalQ_ev (l : List Cube) (hl : l.length ≤ 1048576) (h0 : 0 < l.length) : Ev (fun k => spec_l09Normal.f k l) (normalQ l) := by
  have hs : small l := by unfold small; omega
  unfold spec_l09Normal.f
  obtain ⟨c, r, rfl⟩ : ∃ c r, l = c :: r := by cases l with | nil => simp at h0 | cons c r => exact ⟨c, r, rfl⟩
  refine Ev.pos (by simp <;> omega) ?_
  have h1 : rd_T62 (c :: r) 0 = c := rfl
  rw [h1]
  refine loop_tailQ c r (fun k i (s : Int × Int × Int) => spec_l09Normal.l0 k (c :: r) s.1 s.2.1 s.2.2 i) (fun _ suf s => moveQ (c :: r) (minQ s suf)) (fun _ _ => True) ?_ ?_ (c.f0, c.f1, c.f2) trivial
  · rintro s _
    simp only [spec_l09Normal.l0, len_lt, if_false]
    exact Ev.bind (specMoveQ_ev (c :: r) s hl) (Ev.now _)
  · rintro pre d suf s hx _ _ ih
    simp only [spec_l09Normal.l0, pre_lt hx, pre_0, if_true, at_preQ hx, pre_w hx hs]
    exact ih (mn s.1 d.f0, mn s.2.1 d.f1, mn s.2.2 d.f2) trivial
theorem implMoveQ_ev (l : List Cube) (m : Int × Int × Int) (hl : l.length ≤ 1048576) : Ev (fun k => impl_normalCubes.l1 k [] l (l.length : Int) 0 m.1 m.2.1 m.2.2) (moveQ l m) := by
  have hs : small l := by unfold small; omega
  have := loop_list l (fun k i (s : List Cube) => impl_normalCubes.l1 k s l (l.length : Int) i m.1 m.2.1 m.2.2) (fun pre suf s => s ++ moveQ suf m) (fun pre s => s.length = pre.length) ?_ ?_ [] rfl
  · simpa using this
  · intro s _
    simp only [impl_normalCubes.l1, len_lt, if_false]
    exact Ev.of_eq (Ev.now _) (by simp [moveQ])
  · intro pre c suf s hx hi ih
    have hp := pre_len hx
    simp only [impl_normalCubes.l1, pre_lt hx, pre_0, if_true, at_preQ hx, pre_w hx hs]
    refine Ev.pos (by omega) (Ev.of_eq (ih _ (by simp [hi])) ?_)
    simp [moveQ]
theorem implNormalQ_ev (l : List Cube) (hl : l.length ≤ 1048576) (h0 : 0 < l.length) : Ev (fun k => impl_normalCubes.f k l) (normalQ l) := by
  have hs : small l := by unfold small; omega
  unfold impl_normalCubes.f
  obtain ⟨c, r, rfl⟩ : ∃ c r, l = c :: r := by cases l with | nil => simp at h0 | cons c r => exact ⟨c, r, rfl⟩
  refine Ev.pos (by simp <;> omega) ?_
  have h1 : rd_T62 (c :: r) 0 = c := rfl
  rw [h1]
  have := loop_list (c :: r) (fun k i (s : Int × Int × Int) => impl_normalCubes.l0 k (c :: r) (c :: r) ((c :: r).length : Int) i s.1 s.2.1 s.2.2) (fun _ suf s => moveQ (c :: r) (minQ s suf)) (fun _ _ => True) ?_ ?_ (c.f0, c.f1, c.f2) trivial
  · refine Ev.of_eq this ?_
    simp [normalQ, leastQ, minQ, mn]
  · rintro s _
    simp only [impl_normalCubes.l0, len_lt, if_false]
    exact Ev.pos (by omega) (Ev.pos (by omega) (implMoveQ_ev (c :: r) s hl))
  · rintro pre d suf s hx _ ih
    simp only [impl_normalCubes.l0, pre_lt hx, pre_0, if_true, at_preQ hx, pre_w hx hs]
    exact ih (mn s.1 d.f0, mn s.2.1 d.f1, mn s.2.2 d.f2) trivial

/-! the order -/
theorem sortedQ_le (x y : Cube) : (!Go.Proofs.ltOf cmpV y x) = decide (¬ ltQ y x) := by
  unfold Go.Proofs.ltOf
  by_cases h : ltQ y x
  · simp [h, (cmpV_lt y x).2 h]
  · have : ¬ cmpV y x < 0 := fun h' => h ((cmpV_lt y x).1 h')
    simp [h, this]
theorem sortQ_perm (l : List Cube) : (sortC l).Perm l := List.mergeSort_perm _ _
theorem sortQ_len (l : List Cube) : (sortC l).length = l.length := (sortQ_perm l).length_eq
theorem sortQ_sorted (l : List Cube) : (sortC l).Pairwise fun a b => ¬ ltQ b a := by
  have := List.pairwise_mergeSort (le := fun x y : Cube => !Go.Proofs.ltOf cmpV y x) (fun a b c h1 h2 => by
    rw [sortedQ_le, decide_eq_true_eq] at *
    unfold ltQ at *
    omega) (fun a b => by
    rw [sortedQ_le, sortedQ_le, Bool.or_eq_true, decide_eq_true_eq, decide_eq_true_eq]
    unfold ltQ
    omega) l
  exact this.imp fun h => by rw [sortedQ_le, decide_eq_true_eq] at h; exact h
theorem eq_of_sortedQ : ∀ (l l' : List Cube), l.Perm l' → (l.Pairwise fun a b => ¬ ltQ b a) → (l'.Pairwise fun a b => ¬ ltQ b a) → l = l'
  | [], l', hp, _, _ => (List.Perm.nil_eq hp)
  | a :: r, [], hp, _, _ => absurd hp.symm (by simp)
  | a :: r, b :: s, hp, h1, h2 => by
    obtain ⟨h3, h4⟩ := List.pairwise_cons.1 h1
    obtain ⟨h5, h6⟩ := List.pairwise_cons.1 h2
    have hab : a = b := by
      have ha : a ∈ b :: s := hp.mem_iff.1 List.mem_cons_self
      have hb : b ∈ a :: r := hp.mem_iff.2 List.mem_cons_self
      have n1 : ¬ ltQ b a := by
        rcases List.mem_cons.1 hb with e | e
        · rw [e]; exact ltQ_irrefl a
        · exact h3 b e
      have n2 : ¬ ltQ a b := by
        rcases List.mem_cons.1 ha with e | e
        · rw [e]; exact ltQ_irrefl b
        · exact h5 a e
      exact ltQ_total n2 n1
    subst hab
    rw [eq_of_sortedQ r s (List.Perm.cons_inv hp) h4 h6]
theorem sortQ_eq {l l' : List Cube} (hp : l'.Perm l) (hs : l'.Pairwise fun a b => ¬ ltQ b a) : sortC l = l' :=
  eq_of_sortedQ _ _ ((sortQ_perm l).trans hp.symm) (sortQ_sorted l) hs
theorem sortQ_id {l : List Cube} (hs : l.Pairwise fun a b => ¬ ltQ b a) : sortC l = l := sortQ_eq (List.Perm.refl _) hs
def insQ (c : Cube) : List Cube → List Cube
  | [] => [c]
  | a :: r => if ltQ a c then a :: insQ c r else c :: a :: r
theorem insQ_perm (c : Cube) : ∀ l : List Cube, (insQ c l).Perm (c :: l)
  | [] => List.Perm.refl _
  | a :: r => by
    unfold insQ
    split
    · exact ((insQ_perm c r).cons a).trans (List.Perm.swap c a r)
    · exact List.Perm.refl _
theorem insQ_sorted (c : Cube) : ∀ l : List Cube, (l.Pairwise fun a b => ¬ ltQ b a) → (insQ c l).Pairwise fun a b => ¬ ltQ b a
  | [], _ => by simp [insQ]
  | a :: r, h => by
    obtain ⟨h1, h2⟩ := List.pairwise_cons.1 h
    unfold insQ
    split
    · rename_i hc
      refine List.pairwise_cons.2 ⟨fun b hb => ?_, insQ_sorted c r h2⟩
      rcases List.mem_cons.1 ((insQ_perm c r).mem_iff.1 hb) with rfl | hb
      · unfold ltQ at *; omega
      · exact h1 b hb
    · rename_i hc
      refine List.pairwise_cons.2 ⟨fun b hb => ?_, h⟩
      rcases List.mem_cons.1 hb with rfl | hb
      · exact hc
      · have := h1 b hb
        unfold ltQ at *; omega
theorem specIns_l (l : List Cube) (i : Int) (c : Cube) (hi0 : 0 ≤ i) (hi1 : i < (l.length : Int)) (hc : rd_T62 l i = c) {r : List Cube} (xs : List Cube) (hl : xs.length ≤ 1048576) : ∀ (suf pre : List Cube), xs = pre ++ suf →
    Ev (fun k => spec_l09Sort.l0 k l (pre ++ insQ c suf) (wrap64 (i + 1))) r → Ev (fun k => spec_l09Sort.l1 k l xs i (pre.length : Int)) r := by
  have hs : small xs := by unfold small; omega
  have done : ∀ (suf pre : List Cube), xs = pre ++ suf → Ev (fun k => spec_l09Sort.l0 k l (pre ++ c :: suf) (wrap64 (i + 1))) r →
      Ev (fun k => if (pre.length : Int) ≤ (xs.length : Int) then (if ([] : List Cube).length + (xs.take ((pre.length : Int)).toNat).length < 5864062014805 then (if (([] : List Cube) ++ xs.take ((pre.length : Int)).toNat).length + ([(⟨(rd_T62 l i).f0, (rd_T62 l i).f1, (rd_T62 l i).f2⟩ : S62)] : List Cube).length < 5864062014805 then (if ((([] : List Cube) ++ xs.take ((pre.length : Int)).toNat) ++ ([(⟨(rd_T62 l i).f0, (rd_T62 l i).f1, (rd_T62 l i).f2⟩ : S62)] : List Cube)).length + (xs.drop ((pre.length : Int)).toNat).length < 5864062014805 then spec_l09Sort.l0 k l ((([] : List Cube) ++ xs.take ((pre.length : Int)).toNat) ++ ([(⟨(rd_T62 l i).f0, (rd_T62 l i).f1, (rd_T62 l i).f2⟩ : S62)] : List Cube) ++ xs.drop ((pre.length : Int)).toNat) (wrap64 (i + 1)) else none) else none) else none) else none) r := by
    intro suf pre hx h
    have e1 : xs.take pre.length = pre := by rw [hx]; simp
    have e2 : xs.drop pre.length = suf := by rw [hx]; simp
    have hn : xs.length = pre.length + suf.length := by rw [hx]; simp
    rw [hc]
    simp only [Int.toNat_natCast, e1, e2, List.nil_append, List.append_assoc, List.singleton_append, List.length_append, List.length_nil, List.length_singleton]
    exact Ev.pos (by omega) (Ev.pos (by omega) (Ev.pos (by omega) (Ev.pos (by omega) h)))
  intro suf
  induction suf with
  | nil =>
    intro pre hx h
    have hd := done [] pre hx h
    refine Ev.succ ?_
    simp only [spec_l09Sort.l1, Option.bind_some]
    have hlt : ¬ ((pre.length : Int) < (xs.length : Int)) := by rw [hx]; simp
    have h1 : pre.length ≤ xs.length := by rw [hx]; simp
    refine Ev.neg hlt (Ev.pos (by omega) ?_)
    have hi0' : (0 ≤ i) = True := eq_true hi0
    have hi1' : (i < (l.length : Int)) = True := eq_true hi1
    simp only [hi0', hi1', if_true]
    exact hd
  | cons a suf ih =>
    intro pre hx h
    refine Ev.succ ?_
    have hi0' : (0 ≤ i) = True := eq_true hi0
    have hi1' : (i < (l.length : Int)) = True := eq_true hi1
    simp only [spec_l09Sort.l1, Option.bind_some, pre_lt hx, pre_0, if_true, at_preQ hx, hi0', hi1', pre_w hx hs]
    have hless : spec_l09Less.f a.f0 a.f1 a.f2 (rd_T62 l i).f0 (rd_T62 l i).f1 (rd_T62 l i).f2 = some (decide (ltQ a c)) := by rw [hc]; exact less9_eq a c
    rw [hless]
    simp only [Option.bind_some]
    unfold insQ at h
    by_cases hac : ltQ a c
    · rw [if_pos hac] at h
      refine Ev.pos (by simpa using hac) ?_
      have := ih (pre ++ [a]) (by rw [hx]; simp) (by rw [List.append_assoc]; exact h)
      rw [List.length_append] at this
      exact this
    · rw [if_neg hac] at h
      refine Ev.neg (by simpa using hac) ?_
      exact done (a :: suf) pre hx h
def insAllQ : List Cube → List Cube → List Cube
  | acc, [] => acc
  | acc, c :: r => insAllQ (insQ c acc) r
theorem insAllQ_spec : ∀ (l acc : List Cube), (acc.Pairwise fun a b => ¬ ltQ b a) → (insAllQ acc l).Perm (acc ++ l) ∧ (insAllQ acc l).Pairwise fun a b => ¬ ltQ b a
  | [], acc, h => ⟨by simp [insAllQ], h⟩
  | c :: r, acc, h => by
    obtain ⟨h1, h2⟩ := insAllQ_spec r (insQ c acc) (insQ_sorted c acc h)
    refine ⟨h1.trans ?_, h2⟩
    refine ((insQ_perm c acc).append_right r).trans ?_
    exact List.perm_middle.symm
theorem insAllQ_eq (l : List Cube) : insAllQ [] l = sortC l := by
  obtain ⟨h1, h2⟩ := insAllQ_spec l [] List.Pairwise.nil
  exact (sortQ_eq (by simpa using h1) h2).symm
theorem specSortQ_ev (l : List Cube) (hl : l.length ≤ 1048576) : Ev (fun k => spec_l09Sort.f k l) (sortC l) := by
  have hs : small l := by unfold small; omega
  unfold spec_l09Sort.f
  rw [← insAllQ_eq]
  refine loop_list l (fun k i (s : List Cube) => spec_l09Sort.l0 k l s i) (fun pre suf s => insAllQ s suf) (fun pre s => s.length = pre.length) ?_ ?_ [] rfl
  · intro s _
    simp only [spec_l09Sort.l0, len_lt, if_false]
    exact Ev.now _
  · intro pre c suf s hx hi ih
    have hp := pre_len hx
    simp only [spec_l09Sort.l0, pre_lt hx, if_true]
    refine specIns_l l (pre.length : Int) c (by omega) (by omega) (at_preQ hx) s (by omega) s [] rfl ?_
    rw [List.nil_append, pre_w hx hs]
    exact ih _ (by rw [(insQ_perm c s).length_eq]; simp [hi])
theorem implSortQ_eq (l : List Cube) (h0 : 0 < l.length) (h1 : l.length ≤ 1000000000000) : impl_Cube_73__impl_compareCubes.f l = some (sortC l) := by
  unfold impl_Cube_73__impl_compareCubes.f
  rw [if_pos ⟨h0, by omega⟩]

/-! turns -/
def rotZ : Nat → Int × Int × Int → Int × Int × Int
  | 0, p => p
  | n + 1, p => rotZ n (wrap64 (-p.2.1), p.1, p.2.2)
def rotX : Nat → Int × Int × Int → Int × Int × Int
  | 0, p => p
  | n + 1, p => rotX n (p.1, wrap64 (-p.2.2), p.2.1)
def tiltQ (f : Int) (p : Int × Int × Int) : Int × Int × Int := if f < 4 then rotX f.toNat p else if f = 5 then (wrap64 (-p.2.2), p.2.1, p.1) else (p.2.2, p.2.1, wrap64 (-p.1))
def turnQ (c : Cube) (t : Int) : Int × Int × Int := tiltQ (t / 4 % 6) (rotZ (t % 4).toNat (if t ≥ 24 then (wrap64 (-c.f0), c.f1, c.f2) else (c.f0, c.f1, c.f2)))
def turnE (t : Int) (c : Cube) : Cube := ⟨(turnQ c t).1, (turnQ c t).2.1, (turnQ c t).2.2⟩
theorem w64_rng (n : Int) : -9223372036854775808 ≤ wrap64 n ∧ wrap64 n ≤ 9223372036854775807 := by unfold wrap64; omega
theorem wneg2 {x : Int} (h : -9223372036854775808 ≤ x) (h' : x ≤ 9223372036854775807) : wrap64 (-wrap64 (-x)) = x := by unfold wrap64; omega
def inr (p : Int × Int × Int) : Prop := (-9223372036854775808 ≤ p.1 ∧ p.1 ≤ 9223372036854775807) ∧ (-9223372036854775808 ≤ p.2.1 ∧ p.2.1 ≤ 9223372036854775807)
theorem rotZ_in : ∀ (n : Nat) (p : Int × Int × Int), inr p → inr (rotZ n p)
  | 0, p, h => h
  | n + 1, p, h => rotZ_in n _ ⟨w64_rng _, h.1⟩
theorem tdf {t : Int} (h : 0 ≤ t) (h' : t ≤ 1000) : Int.tmod (wrap64 (Int.tdiv t 4)) 6 = t / 4 % 6 := by
  have e : Int.tdiv t 4 = t / 4 := Int.tdiv_eq_ediv_of_nonneg h
  rw [e, w64 (by omega) (by omega), Int.tmod_eq_emod_of_nonneg (by omega)]
theorem tmod4' {t : Int} (h : 0 ≤ t) : Int.tmod t 4 = ((t % 4).toNat : Int) := by
  rw [Int.tmod_eq_emod_of_nonneg h]
  omega
theorem specTilt_l (n : Nat) (hn : n ≤ 1048576) : ∀ p : Int × Int × Int, Ev (fun k => spec_l09Turn.l1 k (n : Int) p.1 p.2.1 p.2.2) (rotX n p) := by
  induction n with
  | zero =>
    intro p
    refine Ev.succ ?_
    simp only [spec_l09Turn.l1]
    exact Ev.neg (by simp) (Ev.now _)
  | succ n ih =>
    intro p
    refine Ev.succ ?_
    simp only [spec_l09Turn.l1]
    have e1 : wrap64 (((n + 1 : Nat) : Int) - 1) = (n : Int) := by rw [w64 (by omega) (by omega)]; omega
    refine Ev.pos (by omega) ?_
    simp only [e1]
    exact ih (by omega) (p.1, wrap64 (-p.2.2), p.2.1)
theorem specTurnQ_l (t : Int) (h0 : 0 ≤ t) (h1 : t ≤ 1000) (n : Nat) (hn : n ≤ 1048576) : ∀ p : Int × Int × Int, Ev (fun k => spec_l09Turn.l0 k t (n : Int) p.1 p.2.1 p.2.2) (tiltQ (t / 4 % 6) (rotZ n p)) := by
  induction n with
  | zero =>
    intro p
    refine Ev.succ ?_
    simp only [spec_l09Turn.l0, tdf h0 h1]
    refine Ev.neg (by simp) ?_
    unfold tiltQ rotZ
    by_cases h4 : t / 4 % 6 = 4
    · rw [if_neg (by omega), if_neg (by omega)]
      exact Ev.pos h4 (Ev.now _)
    · by_cases h5 : t / 4 % 6 = 5
      · rw [if_neg (by omega), if_pos h5]
        exact Ev.neg h4 (Ev.pos h5 (Ev.now _))
      · rw [if_pos (by omega)]
        refine Ev.neg h4 (Ev.neg h5 ?_)
        have := specTilt_l (t / 4 % 6).toNat (by omega) p
        rw [Int.toNat_of_nonneg (by omega)] at this
        exact this
  | succ n ih =>
    intro p
    refine Ev.succ ?_
    simp only [spec_l09Turn.l0]
    have e1 : wrap64 (((n + 1 : Nat) : Int) - 1) = (n : Int) := by rw [w64 (by omega) (by omega)]; omega
    refine Ev.pos (by omega) ?_
    simp only [e1]
    exact ih (by omega) (wrap64 (-p.2.1), p.1, p.2.2)
theorem specTurnQ_ev (c : Cube) (t : Int) (h0 : 0 ≤ t) (h1 : t ≤ 1000) : Ev (fun k => spec_l09Turn.f k c.f0 c.f1 c.f2 t) (turnQ c t) := by
  unfold spec_l09Turn.f turnQ
  have := specTurnQ_l t h0 h1 (t % 4).toNat (by omega)
  by_cases h4 : t ≥ 24
  · rw [if_pos h4]
    refine Ev.pos h4 (Ev.step (fun k => spec_l09Turn.j0.eq_2 _ _ _ _ _) ?_)
    simp only [tmod4' h0]
    exact this (wrap64 (-c.f0), c.f1, c.f2)
  · rw [if_neg h4]
    refine Ev.neg h4 (Ev.step (fun k => spec_l09Turn.j0.eq_2 _ _ _ _ _) ?_)
    simp only [tmod4' h0]
    exact this (c.f0, c.f1, c.f2)
theorem implTilt_l (m : Nat) (hm : m ≤ 1048576) (n : Nat) : ∀ (i : Nat) (p : Int × Int × Int), i + n = m → Ev (fun k => impl_turnCube.l1 k (m : Int) (i : Int) p.1 p.2.1 p.2.2) (rotX n p) := by
  induction n with
  | zero =>
    intro i p hi
    refine Ev.succ ?_
    simp only [impl_turnCube.l1]
    exact Ev.neg (by omega) (Ev.now _)
  | succ n ih =>
    intro i p hi
    refine Ev.succ ?_
    simp only [impl_turnCube.l1]
    have e1 : wrap64 ((i : Int) + 1) = ((i + 1 : Nat) : Int) := by rw [w64 (by omega) (by omega)]; omega
    refine Ev.pos (by omega) ?_
    simp only [e1]
    exact ih (i + 1) (p.1, wrap64 (-p.2.2), p.2.1) (by omega)
theorem implFlip1 (p : Int × Int × Int) : Ev (fun k => impl_turnCube.j3 k 1 p.1 p.2.1 p.2.2) (p.2.2, p.2.1, wrap64 (-p.1)) := by
  refine Ev.step (fun k => impl_turnCube.j3.eq_2 _ _ _ _ _) (Ev.succ ?_)
  simp only [impl_turnCube.l2]
  refine Ev.pos (by decide) (Ev.succ ?_)
  simp only [impl_turnCube.l2]
  exact Ev.neg (by unfold wrap64; omega) (Ev.now _)
theorem implFlip3 (p : Int × Int × Int) (h : inr p) : Ev (fun k => impl_turnCube.j3 k 3 p.1 p.2.1 p.2.2) (wrap64 (-p.2.2), p.2.1, p.1) := by
  refine Ev.step (fun k => impl_turnCube.j3.eq_2 _ _ _ _ _) (Ev.succ ?_)
  simp only [impl_turnCube.l2]
  refine Ev.pos (by decide) (Ev.succ ?_)
  simp only [impl_turnCube.l2]
  refine Ev.pos (by unfold wrap64; omega) (Ev.succ ?_)
  simp only [impl_turnCube.l2]
  refine Ev.pos (by unfold wrap64; omega) (Ev.succ ?_)
  simp only [impl_turnCube.l2]
  refine Ev.neg (by unfold wrap64; omega) (Ev.of_eq (Ev.now _) ?_)
  rw [wneg2 h.1.1 h.1.2]
theorem implTurnQ_l (t : Int) (h0 : 0 ≤ t) (h1 : t ≤ 1000) (m : Nat) (hm : m ≤ 1048576) (n : Nat) : ∀ (i : Nat) (p : Int × Int × Int), i + n = m → inr p → Ev (fun k => impl_turnCube.l0 k t (m : Int) (i : Int) p.1 p.2.1 p.2.2) (tiltQ (t / 4 % 6) (rotZ n p)) := by
  induction n with
  | zero =>
    intro i p hi hp
    refine Ev.succ ?_
    simp only [impl_turnCube.l0, tdf h0 h1]
    refine Ev.neg (by omega) ?_
    unfold tiltQ rotZ
    by_cases h4 : t / 4 % 6 < 4
    · rw [if_pos h4]
      refine Ev.pos h4 ?_
      have := implTilt_l (t / 4 % 6).toNat (by omega) (t / 4 % 6).toNat 0 p (by omega)
      rw [Int.toNat_of_nonneg (by omega)] at this
      exact this
    · rw [if_neg h4]
      refine Ev.neg h4 ?_
      by_cases h5 : t / 4 % 6 = 5
      · rw [if_pos h5]
        exact Ev.pos h5 (implFlip3 p hp)
      · rw [if_neg h5]
        exact Ev.neg h5 (implFlip1 p)
  | succ n ih =>
    intro i p hi hp
    refine Ev.succ ?_
    simp only [impl_turnCube.l0]
    have e1 : wrap64 ((i : Int) + 1) = ((i + 1 : Nat) : Int) := by rw [w64 (by omega) (by omega)]; omega
    refine Ev.pos (by omega) ?_
    simp only [e1]
    exact ih (i + 1) (wrap64 (-p.2.1), p.1, p.2.2) (by omega) ⟨w64_rng _, hp.1⟩
theorem implTurnQ_ev (c : Cube) (t : Int) (h0 : 0 ≤ t) (h1 : t ≤ 1000) (hc : okQ c) : Ev (fun k => impl_turnCube.f k c.f0 c.f1 c.f2 t) (turnQ c t) := by
  unfold impl_turnCube.f turnQ
  have := implTurnQ_l t h0 h1 (t % 4).toNat (by omega) (t % 4).toNat 0
  obtain ⟨c0, c1, c2⟩ := hc
  unfold ok1 at c0 c1 c2
  by_cases h4 : t ≥ 24
  · rw [if_pos h4]
    refine Ev.pos h4 (Ev.step (fun k => impl_turnCube.j0.eq_2 _ _ _ _ _) ?_)
    simp only [tmod4' h0]
    exact this (wrap64 (-c.f0), c.f1, c.f2) (by omega) ⟨w64_rng _, (by show -9223372036854775808 ≤ c.f1; omega), (by show c.f1 ≤ 9223372036854775807; omega)⟩
  · rw [if_neg h4]
    refine Ev.neg h4 (Ev.step (fun k => impl_turnCube.j0.eq_2 _ _ _ _ _) ?_)
    simp only [tmod4' h0]
    exact this (c.f0, c.f1, c.f2) (by omega) ⟨⟨(by show -9223372036854775808 ≤ c.f0; omega), (by show c.f0 ≤ 9223372036854775807; omega)⟩, (by show -9223372036854775808 ≤ c.f1; omega), (by show c.f1 ≤ 9223372036854775807; omega)⟩

/-! forms -/
def formQ (l : List Cube) (t : Int) : List Cube := normalQ (sortC (l.map (turnE t)))
theorem formQ_len (l : List Cube) (t : Int) : (formQ l t).length = l.length := by unfold formQ; rw [normalQ_len, sortQ_len]; simp
theorem specFormQ_ev (l : List Cube) (t : Int) (h0 : 0 ≤ t) (h1 : t ≤ 1000) (hl : l.length ≤ 1048576) (hp : 0 < l.length) : Ev (fun k => spec_l09Form.f k l t) (formQ l t) := by
  have hs : small l := by unfold small; omega
  unfold spec_l09Form.f formQ
  have := loop_list l (fun k i (s : List Cube) => spec_l09Form.l0 k l t s i) (fun pre suf s => normalQ (sortC (s ++ suf.map (turnE t)))) (fun pre s => s.length = pre.length) ?_ ?_ [] rfl
  · simpa using this
  · intro s hi
    have hi' : s.length = l.length := hi
    simp only [spec_l09Form.l0, len_lt, if_false]
    exact Ev.bind (specSortQ_ev s (by omega)) (Ev.bind (specNormalQ_ev _ (by rw [sortQ_len]; omega) (by rw [sortQ_len]; omega)) (Ev.of_eq (Ev.now _) (by simp)))
  · intro pre c suf s hx hi ih
    have hp := pre_len hx
    simp only [spec_l09Form.l0, pre_lt hx, pre_0, if_true, at_preQ hx, pre_w hx hs]
    refine Ev.bind (specTurnQ_ev c t h0 h1) (Ev.pos (by omega) (Ev.of_eq (ih (s ++ [turnE t c]) (by simp [hi])) (by simp)))
theorem implFormQ_ev (l : List Cube) (t : Int) (h0 : 0 ≤ t) (h1 : t ≤ 1000) (hl : l.length ≤ 1048576) (hp : 0 < l.length) (ho : ∀ c ∈ l, okQ c) : Ev (fun k => impl_cubeForm.f k l t) (formQ l t) := by
  have hs : small l := by unfold small; omega
  unfold impl_cubeForm.f formQ
  refine Ev.pos (by omega) (Ev.pos (by omega) ?_)
  have := loop_list l (fun k i (s : List Cube) => impl_cubeForm.l0 k t s l (l.length : Int) i) (fun pre suf s => normalQ (sortC (s ++ suf.map (turnE t)))) (fun pre s => s.length = pre.length) ?_ ?_ [] rfl
  · simpa using this
  · intro s hi
    have hi' : s.length = l.length := hi
    simp only [impl_cubeForm.l0, len_lt, if_false, implSortQ_eq s (by omega) (by omega), Option.bind_some]
    exact Ev.bind (implNormalQ_ev _ (by rw [sortQ_len]; omega) (by rw [sortQ_len]; omega)) (Ev.of_eq (Ev.now _) (by simp))
  · intro pre c suf s hx hi ih
    have hp := pre_len hx
    simp only [impl_cubeForm.l0, pre_lt hx, pre_0, if_true, at_preQ hx, pre_w hx hs]
    refine Ev.bind (implTurnQ_ev c t h0 h1 (ho c (by rw [hx]; simp))) (Ev.pos (by omega) (Ev.of_eq (ih (s ++ [turnE t c]) (by simp [hi])) (by simp)))
/-- The code of a solid whose normal form has to be one. -/
def codeQ (l : List Cube) : Int := if solidB l = true then (if solidB (normalQ l) = true then 0 else 3) else 1
theorem codeQ_zero {l : List Cube} (h : codeQ l = 0) : solidB l = true ∧ solidB (normalQ l) = true := by
  unfold codeQ at h
  by_cases h1 : solidB l = true
  · rw [if_pos h1] at h
    by_cases h2 : solidB (normalQ l) = true
    · exact ⟨h1, h2⟩
    · rw [if_neg h2] at h; omega
  · rw [if_neg h1] at h; omega
theorem specCodeQ_ev (l : List Cube) (hl : l.length ≤ 1048576) : Ev (fun k => spec_l09Code.f k l) (codeQ l) := by
  have hs : small l := by unfold small; omega
  unfold spec_l09Code.f codeQ
  refine Ev.bind (specSolid_ev l hs) (Ev.if_ (fun h => ?_) (fun _ => Ev.now _))
  exact Ev.bind (specNormalQ_ev l (by omega) (solid_pos h)) (Ev.bind (specSolid_ev _ (by unfold small; rw [normalQ_len]; omega)) (Ev.if_ (fun _ => Ev.now _) (fun _ => Ev.now _)))
theorem implCodeQ_ev (l : List Cube) (hl : l.length ≤ 1048576) : Ev (fun k => impl_solidCode.f k l) (codeQ l) := by
  have hs : small l := by unfold small; omega
  unfold impl_solidCode.f codeQ
  refine Ev.bind (implSolid_ev l hs) (Ev.if_ (fun h => ?_) (fun _ => Ev.now _))
  exact Ev.bind (implNormalQ_ev l (by omega) (solid_pos h)) (Ev.bind (implSolid_ev _ (by unfold small; rw [normalQ_len]; omega)) (Ev.if_ (fun _ => Ev.now _) (fun _ => Ev.now _)))
end Go.Proofs.Ythgkgimjepbegaa.L
