/- Moving cells, the normal form, turns. -/
import Derived.Test.YtpblcdlpcgfhgaaShapes
import Derived.Test.YtpblcdlpcgfhgaaFx11
import Derived.Test.YtpblcdlpcgfhgaaFx15
import Derived.Test.YtpblcdlpcgfhgaaFx5
import Derived.Test.YtpblcdlpcgfhgaaFx7
import Derived.Test.YtpblcdlpcgfhgaaFx9
namespace Go.Proofs.Ytpblcdlpcgfhgaa.L
open Go.RowKit Go.Proofs.YtpblcdlpcgfhgaaW.PrintWords Go.Proofs.YtpblcdlpcgfhgaaW.PrintLast Go.Proofs.YtpblcdlpcgfhgaaW.PrintMore Go.Proofs.Ytpblcdlpcgfhgaa.F
set_option linter.unusedVariables false
set_option linter.unusedSimpArgs false

def moveL (l : List Cell) (x y : Int) : List Cell := l.map fun c => ⟨wrap64 (c.f0 + x), wrap64 (c.f1 + y)⟩
theorem moveL_len (l : List Cell) (x y : Int) : (moveL l x y).length = l.length := by simp [moveL]
theorem specMove_ev (l : List Cell) (x y : Int) (hl : l.length ≤ 1048576) : Ev (fun k => spec_l02Move.f k l x y) (moveL l x y) := by
  have hs : small l := by unfold small; omega
  unfold spec_l02Move.f
  have := loop_list l (fun k i (s : List Cell) => spec_l02Move.l0 k l x y s i) (fun pre suf s => s ++ moveL suf x y) (fun pre s => s.length = pre.length) ?_ ?_ [] rfl
  · simpa using this
  · intro s _
    simp only [spec_l02Move.l0, len_lt, if_false]
    exact Ev.of_eq (Ev.now _) (by simp [moveL])
  · intro pre c suf s hx hi ih
    have hp := pre_len hx
    simp only [spec_l02Move.l0, pre_lt hx, pre_0, if_true, at_pre hx, pre_w hx hs]
    refine Ev.pos (by omega) (Ev.of_eq (ih _ (by simp [hi])) ?_)
    simp [moveL]
theorem implMoved_ev (l : List Cell) (x y : Int) (hl : l.length ≤ 1048576) : Ev (fun k => impl_moved.f k l x y) (moveL l x y) := by
  have hs : small l := by unfold small; omega
  unfold impl_moved.f
  refine Ev.pos (by omega) (Ev.pos (by omega) ?_)
  have := loop_list l (fun k i (s : List Cell) => impl_moved.l0 k x y s l (l.length : Int) i) (fun pre suf s => s ++ moveL suf x y) (fun pre s => s.length = pre.length) ?_ ?_ [] rfl
  · simpa using this
  · intro s _
    simp only [impl_moved.l0, len_lt, if_false]
    exact Ev.of_eq (Ev.now _) (by simp [moveL])
  · intro pre c suf s hx hi ih
    have hp := pre_len hx
    simp only [impl_moved.l0, pre_lt hx, pre_0, if_true, at_pre hx, pre_w hx hs]
    refine Ev.pos (by omega) (Ev.of_eq (ih _ (by simp [hi])) ?_)
    simp [moveL]
/-- The normal form. -/
def normalL (l : List Cell) : List Cell := moveL l (wrap64 (-(leastOf l).1)) (wrap64 (-(leastOf l).2))
theorem normalL_len (l : List Cell) : (normalL l).length = l.length := moveL_len _ _ _
theorem specNormal_ev (l : List Cell) (hl : l.length ≤ 1048576) (h0 : 0 < l.length) : Ev (fun k => spec_l02Normal.f k l) (normalL l) := by
  unfold spec_l02Normal.f
  refine Ev.bind (specLeast_ev l (by unfold small; omega) h0) (Ev.bind (specMove_ev l _ _ hl) (Ev.now _))
theorem implNormal_ev (l : List Cell) (hl : l.length ≤ 1048576) (h0 : 0 < l.length) : Ev (fun k => impl_normal.f k l) (normalL l) := by
  unfold impl_normal.f
  refine Ev.bind (implCorner_ev l (by unfold small; omega) h0) (Ev.bind (implMoved_ev l _ _ hl) (Ev.now _))
/-- A quarter turn, n times. -/
def rotP : Nat → Int × Int → Int × Int
  | 0, p => p
  | n + 1, p => rotP n (wrap64 (-p.2), p.1)
def turnC (c : Cell) (t : Int) : Int × Int := rotP (t % 4).toNat (if t ≥ 4 then (wrap64 (-c.f0), c.f1) else (c.f0, c.f1))
theorem specTurn_l (n : Nat) (hn : n ≤ 1048576) : ∀ p : Int × Int, Ev (fun k => spec_l03Turn.l0 k (n : Int) p.1 p.2) (rotP n p) := by
  induction n with
  | zero =>
    intro p
    refine Ev.succ ?_
    simp only [spec_l03Turn.l0]
    exact Ev.neg (by simp) (Ev.now _)
  | succ n ih =>
    intro p
    refine Ev.succ ?_
    simp only [spec_l03Turn.l0]
    have e1 : wrap64 (((n + 1 : Nat) : Int) - 1) = (n : Int) := by rw [w64 (by omega) (by omega)]; omega
    refine Ev.pos (by omega) ?_
    simp only [e1]
    exact ih (by omega) (wrap64 (-p.2), p.1)
theorem implTurn_l (m : Nat) (hm : m ≤ 1048576) (n : Nat) : ∀ (i : Nat) (p : Int × Int), i + n = m → Ev (fun k => impl_turnCell.l0 k (m : Int) (i : Int) p.1 p.2) (rotP n p) := by
  induction n with
  | zero =>
    intro i p hi
    refine Ev.succ ?_
    simp only [impl_turnCell.l0]
    exact Ev.neg (by omega) (Ev.now _)
  | succ n ih =>
    intro i p hi
    refine Ev.succ ?_
    simp only [impl_turnCell.l0]
    have e1 : wrap64 ((i : Int) + 1) = ((i + 1 : Nat) : Int) := by rw [w64 (by omega) (by omega)]; omega
    refine Ev.pos (by omega) ?_
    simp only [e1]
    exact ih (i + 1) (wrap64 (-p.2), p.1) (by omega)
theorem tmod4 {t : Int} (h : 0 ≤ t) : Int.tmod t 4 = ((t % 4).toNat : Int) := by
  rw [Int.tmod_eq_emod_of_nonneg h]
  omega
theorem specTurn_ev (c : Cell) (t : Int) (h : 0 ≤ t) : Ev (fun k => spec_l03Turn.f k c.f0 c.f1 t) (turnC c t) := by
  unfold spec_l03Turn.f turnC
  have := specTurn_l (t % 4).toNat (by omega)
  by_cases h4 : t ≥ 4
  · rw [if_pos h4]
    refine Ev.pos h4 (Ev.step (fun k => spec_l03Turn.j0.eq_2 _ _ _ _) ?_)
    simp only [tmod4 h]
    exact this (wrap64 (-c.f0), c.f1)
  · rw [if_neg h4]
    refine Ev.neg h4 (Ev.step (fun k => spec_l03Turn.j0.eq_2 _ _ _ _) ?_)
    simp only [tmod4 h]
    exact this (c.f0, c.f1)
theorem implTurn_ev (c : Cell) (t : Int) (h : 0 ≤ t) : Ev (fun k => impl_turnCell.f k c.f0 c.f1 t) (turnC c t) := by
  unfold impl_turnCell.f turnC
  have := implTurn_l (t % 4).toNat (by omega) (t % 4).toNat 0
  by_cases h4 : t ≥ 4
  · rw [if_pos h4]
    refine Ev.pos h4 (Ev.step (fun k => impl_turnCell.j0.eq_2 _ _ _ _) ?_)
    simp only [tmod4 h]
    exact this (wrap64 (-c.f0), c.f1) (by omega)
  · rw [if_neg h4]
    refine Ev.neg h4 (Ev.step (fun k => impl_turnCell.j0.eq_2 _ _ _ _) ?_)
    simp only [tmod4 h]
    exact this (c.f0, c.f1) (by omega)
def turnD (t : Int) (c : Cell) : Cell := ⟨(turnC c t).1, (turnC c t).2⟩
end Go.Proofs.Ytpblcdlpcgfhgaa.L
