/- Lattice turns and the forms. -/
import Derived.Test.YtnohbmnoioikbaaSort2
import Derived.Test.YtnohbmnoioikbaaNormal
import Derived.Test.YtnohbmnoioikbaaFx10
import Derived.Test.YtnohbmnoioikbaaFx14
import Derived.Test.YtnohbmnoioikbaaFx5
import Derived.Test.YtnohbmnoioikbaaFx6
namespace Go.Proofs.Ytnohbmnoioikbaa.L
open Go.RowKit Go.Proofs.YtnohbmnoioikbaaW.PrintWords Go.Proofs.YtnohbmnoioikbaaW.PrintLast Go.Proofs.YtnohbmnoioikbaaW.PrintMore Go.Proofs.Ytnohbmnoioikbaa.F
set_option linter.unusedVariables false
set_option linter.unusedSimpArgs false
/-- A sixth of a turn, n times. -/
def rot6 : Nat → Int × Int → Int × Int
  | 0, p => p
  | n + 1, p => rot6 n (wrap64 (-p.2), wrap64 (p.1 + p.2))
def latC (c : Cell) (t : Int) : Int × Int := rot6 (t % 6).toNat (if t ≥ 6 then (c.f1, c.f0) else (c.f0, c.f1))
def latD (t : Int) (c : Cell) : Cell := ⟨(latC c t).1, (latC c t).2⟩
theorem tmod6 {t : Int} (h : 0 ≤ t) : Int.tmod t 6 = ((t % 6).toNat : Int) := by
  rw [Int.tmod_eq_emod_of_nonneg h]
  omega
theorem specLat_l (n : Nat) (hn : n ≤ 1048576) : ∀ p : Int × Int, Ev (fun k => spec_l07Turn.l0 k (n : Int) p.1 p.2) (rot6 n p) := by
  induction n with
  | zero =>
    intro p
    refine Ev.succ ?_
    simp only [spec_l07Turn.l0]
    exact Ev.neg (by simp) (Ev.now _)
  | succ n ih =>
    intro p
    refine Ev.succ ?_
    simp only [spec_l07Turn.l0]
    have e1 : wrap64 (((n + 1 : Nat) : Int) - 1) = (n : Int) := by rw [w64 (by omega) (by omega)]; omega
    refine Ev.pos (by omega) ?_
    simp only [e1]
    exact ih (by omega) (wrap64 (-p.2), wrap64 (p.1 + p.2))
theorem specLat_ev (c : Cell) (t : Int) (h : 0 ≤ t) : Ev (fun k => spec_l07Turn.f k c.f0 c.f1 t) (latC c t) := by
  unfold spec_l07Turn.f latC
  have := specLat_l (t % 6).toNat (by omega)
  by_cases h4 : t ≥ 6
  · rw [if_pos h4]
    refine Ev.pos h4 (Ev.step (fun k => spec_l07Turn.j0.eq_2 _ _ _ _) ?_)
    simp only [tmod6 h]
    exact this (c.f1, c.f0)
  · rw [if_neg h4]
    refine Ev.neg h4 (Ev.step (fun k => spec_l07Turn.j0.eq_2 _ _ _ _) ?_)
    simp only [tmod6 h]
    exact this (c.f0, c.f1)
def latL (l : List Cell) (t : Int) : List Cell := sortC (l.map (latD t))
theorem latL_len (l : List Cell) (t : Int) : (latL l t).length = l.length := by unfold latL; rw [sortC_len]; simp
theorem implLat_l (m : Nat) (hm : m ≤ 1048576) (t : Int) (l s : List Cell) (len_ i_ : Int) {r : List Cell} (n : Nat) : ∀ (i : Nat) (p : Int × Int), i + n = m → s.length ≤ 1048576 →
    Ev (fun k => impl_latticeCells.l0 k t (s ++ [(⟨(rot6 n p).1, (rot6 n p).2⟩ : Cell)]) l len_ (wrap64 (i_ + 1))) r → Ev (fun k => impl_latticeCells.l1 k t s l len_ i_ (m : Int) (i : Int) p.1 p.2) r := by
  induction n with
  | zero =>
    intro i p hi hs hc
    refine Ev.succ ?_
    simp only [impl_latticeCells.l1]
    exact Ev.neg (by omega) (Ev.pos (by omega) hc)
  | succ n ih =>
    intro i p hi hs hc
    refine Ev.succ ?_
    simp only [impl_latticeCells.l1]
    have e1 : wrap64 ((i : Int) + 1) = ((i + 1 : Nat) : Int) := by rw [w64 (by omega) (by omega)]; omega
    refine Ev.pos (by omega) ?_
    simp only [e1]
    exact ih (i + 1) (wrap64 (-p.2), wrap64 (p.1 + p.2)) (by omega) hs hc
theorem implLattice_ev (l : List Cell) (t : Int) (ht : 0 ≤ t) (hl : l.length ≤ 1048576) (h0 : 0 < l.length) : Ev (fun k => impl_latticeCells.f k l t) (latL l t) := by
  have hs : small l := by unfold small; omega
  unfold impl_latticeCells.f latL
  refine Ev.pos (by omega) (Ev.pos (by omega) ?_)
  have := loop_list l (fun k i (s : List Cell) => impl_latticeCells.l0 k t s l (l.length : Int) i) (fun pre suf s => sortC (s ++ suf.map (latD t))) (fun pre s => s.length = pre.length) ?_ ?_ [] rfl
  · simpa using this
  · intro s hi
    have hi' : s.length = l.length := hi
    simp only [impl_latticeCells.l0, len_lt, if_false, implSorted_eq s (by omega) (by omega), Option.bind_some]
    exact Ev.of_eq (Ev.now _) (by simp)
  · intro pre c suf s hx hi ih
    have hp := pre_len hx
    simp only [impl_latticeCells.l0, pre_lt hx, pre_0, if_true, at_pre hx]
    have hc := implLat_l (t % 6).toNat (by omega) t l s (l.length : Int) (pre.length : Int) (r := sortC (s ++ (c :: suf).map (latD t))) (t % 6).toNat 0
    have hih := ih (s ++ [latD t c]) (by simp [hi])
    have e : s ++ [latD t c] ++ suf.map (latD t) = s ++ (c :: suf).map (latD t) := by simp
    simp only [e] at hih
    by_cases h6 : t ≥ 6
    · refine Ev.pos h6 (Ev.step (fun k => impl_latticeCells.j1.eq_2 _ _ _ _ _ _ _ _) ?_)
      simp only [tmod6 ht]
      refine hc (c.f1, c.f0) (by omega) (by omega) ?_
      rw [pre_w hx hs]
      have e2 : (⟨(rot6 (t % 6).toNat (c.f1, c.f0)).1, (rot6 (t % 6).toNat (c.f1, c.f0)).2⟩ : Cell) = latD t c := by unfold latD latC; rw [if_pos h6]
      rw [e2]
      exact hih
    · refine Ev.neg h6 (Ev.step (fun k => impl_latticeCells.j1.eq_2 _ _ _ _ _ _ _ _) ?_)
      simp only [tmod6 ht]
      refine hc (c.f0, c.f1) (by omega) (by omega) ?_
      rw [pre_w hx hs]
      have e2 : (⟨(rot6 (t % 6).toNat (c.f0, c.f1)).1, (rot6 (t % 6).toNat (c.f0, c.f1)).2⟩ : Cell) = latD t c := by unfold latD latC; rw [if_neg h6]
      rw [e2]
      exact hih
theorem specNormal1_ev (l : List Cell) (hl : l.length ≤ 1048576) (h0 : 0 < l.length) : Ev (fun k => spec_l07Normal.f k 1 l) (normalL l) := by
  unfold spec_l07Normal.f
  refine Ev.bind (specLeast_ev l (by unfold small; omega) h0) (Ev.pos rfl (Ev.bind (specMove_ev l _ _ hl) (Ev.now _)))
theorem specForm1_ev (l : List Cell) (t : Int) (ht : 0 ≤ t) (hl : l.length ≤ 1048576) (h0 : 0 < l.length) : Ev (fun k => spec_l07Form.f k 1 l t) (normalL (latL l t)) := by
  have hs : small l := by unfold small; omega
  unfold spec_l07Form.f latL
  have := loop_list l (fun k i (s : List Cell) => spec_l07Form.l0 k 1 l t s i) (fun pre suf s => normalL (sortC (s ++ suf.map (latD t)))) (fun pre s => s.length = pre.length) ?_ ?_ [] rfl
  · simpa using this
  · intro s hi
    have hi' : s.length = l.length := hi
    simp only [spec_l07Form.l0, len_lt, if_false]
    refine Ev.bind (specSort_ev s (by omega)) (Ev.bind (specNormal1_ev _ (by rw [sortC_len]; omega) (by rw [sortC_len]; omega)) (Ev.of_eq (Ev.now _) (by simp)))
  · intro pre c suf s hx hi ih
    have hp := pre_len hx
    simp only [spec_l07Form.l0, pre_lt hx, pre_0, if_true, at_pre hx, pre_w hx hs]
    refine Ev.bind (specLat_ev c t ht) (Ev.pos (by omega) (Ev.of_eq (ih (s ++ [latD t c]) (by simp [hi])) (by simp)))
theorem implHexForm_ev (l : List Cell) (t : Int) (ht : 0 ≤ t) (hl : l.length ≤ 1048576) (h0 : 0 < l.length) : Ev (fun k => impl_hexForm.f k l t) (normalL (latL l t)) := by
  unfold impl_hexForm.f
  exact Ev.bind (implLattice_ev l t ht hl h0) (Ev.bind (implNormal_ev _ (by rw [latL_len]; omega) (by rw [latL_len]; omega)) (Ev.now _))
theorem shape_pos {l : List Cell} (h : shapeB l = true) : 0 < l.length := List.length_pos_iff.2 (shape_ne h)
end Go.Proofs.Ytnohbmnoioikbaa.L
