/- Cells and shapes: what the printed functions over cells answer, in plain words. -/
import Derived.Test.YtabdmdkoffpppaaEv
import Derived.Test.YtabdmdkoffpppaaFx0
import Derived.Test.YtabdmdkoffpppaaFx10
import Derived.Test.YtabdmdkoffpppaaFx20
import Derived.Test.YtabdmdkoffpppaaFx27
import Derived.Test.YtabdmdkoffpppaaFx31
import Derived.Test.YtabdmdkoffpppaaFx32
namespace Go.Proofs.Ytabdmdkoffpppaa.L
open Go.RowKit Go.Proofs.YtabdmdkoffpppaaW.PrintWords Go.Proofs.YtabdmdkoffpppaaW.PrintLast Go.Proofs.YtabdmdkoffpppaaW.PrintMore Go.Proofs.Ytabdmdkoffpppaa.F

set_option linter.unusedVariables false
set_option linter.unusedSimpArgs false

abbrev Cell := S59
abbrev LCell := S95

theorem in_eq (a b c : Int) : spec_l01In.f a b c = some (decide (b ≤ a ∧ a ≤ c)) := by
  unfold spec_l01In.f
  by_cases h : a ≥ b
  · rw [if_pos h]; simp [show b ≤ a from h]
  · rw [if_neg h]; simp [show ¬ b ≤ a from h]
theorem within_eq (a b c : Int) : impl_within.f a b c = some (decide (b ≤ a ∧ a ≤ c)) := by
  unfold impl_within.f
  by_cases h : a ≥ b
  · rw [if_pos h]; simp [show b ≤ a from h]
  · rw [if_neg h]; simp [show ¬ b ≤ a from h]

def ok1 (n : Int) : Prop := -100 ≤ n ∧ n ≤ 100
instance (n : Int) : Decidable (ok1 n) := by unfold ok1; infer_instance
def okC (c : Cell) : Prop := ok1 c.f0 ∧ ok1 c.f1
instance (c : Cell) : Decidable (okC c) := by unfold okC; infer_instance
def ltC (a b : Cell) : Prop := a.f1 < b.f1 ∨ a.f1 = b.f1 ∧ a.f0 < b.f0
instance (a b : Cell) : Decidable (ltC a b) := by unfold ltC; infer_instance

theorem isCoordinate_eq (n : Int) : impl_isCoordinate.f n = some (decide (ok1 n)) := by
  unfold impl_isCoordinate.f
  rw [within_eq]
  rfl
theorem l02Cell_eq (x y : Int) : spec_l02Cell.f x y = some (decide (ok1 x ∧ ok1 y)) := by
  unfold spec_l02Cell.f
  rw [in_eq, in_eq]
  simp only [Option.bind_some]
  by_cases h : -100 ≤ x ∧ x ≤ 100
  · have h' : ok1 x := h
    simp only [h, and_self, decide_true, if_true, true_and, h', ok1]
  · have h' : ¬ ok1 x := h
    simp [h, h']
theorem toCell_eq (x y : Int) : laws_toCell.f x y = some (x, y) := rfl
theorem eqCell_eq (a b c d : Int) : laws_eqCell.f a b c d = some (decide (a = c ∧ b = d)) := by
  unfold laws_eqCell.f
  by_cases h : a = c
  · by_cases h' : b = d <;> simp [h, h']
  · simp [h]
/-- How long a list may be here. -/
def small {α : Type} (l : List α) : Prop := l.length ≤ 4611686018427387904
theorem pre_lt {α : Type} {xs pre suf : List α} {c : α} (h : xs = pre ++ c :: suf) : ((pre.length : Int) < (xs.length : Int)) = True := by
  subst h; simp; omega
theorem pre_w {α : Type} {xs pre suf : List α} {c : α} (h : xs = pre ++ c :: suf) (hs : small xs) : wrap64 ((pre.length : Int) + 1) = (pre.length : Int) + 1 := by
  subst h
  unfold small at hs
  rw [List.length_append, List.length_cons] at hs
  exact w64 (by omega) (by omega)
theorem pre_0 {α : Type} (pre : List α) : (0 ≤ (pre.length : Int)) = True := by simp
theorem len_lt {α : Type} (xs : List α) : ((xs.length : Int) < (xs.length : Int)) = False := by simp
theorem at_pre {xs pre suf : List Cell} {c : Cell} (h : xs = pre ++ c :: suf) : rd_T59 xs (pre.length : Int) = c := by
  subst h; exact getD_at pre suf c _
theorem at_preL {xs pre suf : List LCell} {c : LCell} (h : xs = pre ++ c :: suf) : rd_T95 xs (pre.length : Int) = c := by
  subst h; exact getD_at pre suf c _

theorem eqCellS_ev (a : List Cell) (ha : small a) : Ev (fun k => laws_eqCellS.f k a a) true := by
  unfold laws_eqCellS.f
  refine Ev.pos rfl ?_
  refine loop_list a (fun k i (_ : Unit) => laws_eqCellS.l0 k a a i) (fun _ _ _ => true) (fun _ _ => True) ?_ ?_ () trivial
  · intro _ _
    simp only [laws_eqCellS.l0, len_lt, if_false]
    exact Ev.now _
  · intro pre c suf _ hx _ ih
    simp only [laws_eqCellS.l0, pre_lt hx, pre_0, if_true, at_pre hx, eqCell_eq, and_self, decide_true, Option.bind_some, pre_w hx ha]
    exact ih () trivial

def cellOf (c : LCell) : Cell := ⟨c.f0, c.f1⟩
theorem toCellS_ev (a : List LCell) (ha : a.length ≤ 1048576) : Ev (fun k => laws_toCellS.f k a) (a.map cellOf) := by
  have hs : small a := by unfold small; omega
  unfold laws_toCellS.f
  refine Ev.pos (by omega) (Ev.pos (by omega) ?_)
  have := loop_list a (fun k i (s : List Cell) => laws_toCellS.l0 k a s i) (fun _ suf s => s.take (a.length - suf.length) ++ suf.map cellOf) (fun pre s => s.length = a.length) ?_ ?_ (List.replicate a.length z59) (by simp)
  · refine Ev.of_eq this ?_
    simp
  · intro s hl
    simp only [laws_toCellS.l0, len_lt, if_false]
    refine Ev.of_eq (Ev.now _) ?_
    simp [List.take_of_length_le, hl]
  · intro pre c suf s hx hl ih
    have hlt : ((pre.length : Int) < (s.length : Int)) = True := by rw [hl]; exact pre_lt hx
    simp only [laws_toCellS.l0, pre_lt hx, pre_0, if_true, at_preL hx, toCell_eq, Option.bind_some, hlt, pre_w hx hs]
    refine Ev.of_eq (ih (s.set (pre.length : Int).toNat ⟨c.f0, c.f1⟩) (by simpa using hl)) ?_
    have hn : a.length = pre.length + (suf.length + 1) := by rw [hx]; simp
    have e1 : a.length - suf.length = pre.length + 1 := by omega
    have e2 : a.length - (c :: suf).length = pre.length := by simp; omega
    rw [e1, e2, Int.toNat_natCast, List.take_add_one, List.getElem?_set_self (by omega), List.take_set_of_le (Nat.le_refl _)]
    simp [cellOf]

/-- The cells that 'mark' leaves. -/
def markedC (n : Nat) : List Cell := (List.range n).map fun (i : Nat) => ⟨1 + 2 * (i : Int), 2 + 2 * (i : Int)⟩
theorem markedC_len (n : Nat) : (markedC n).length = n := by simp [markedC]
theorem markedC_get (n i : Nat) (h : i < n) : (markedC n)[i]? = some ⟨1 + 2 * (i : Int), 2 + 2 * (i : Int)⟩ := by
  simp [markedC, h]
theorem pre_get {α : Type} {xs pre suf : List α} {c : α} (h : xs = pre ++ c :: suf) : xs[pre.length]? = some c := by
  subst h; simp
theorem pre_len {α : Type} {xs pre suf : List α} {c : α} (h : xs = pre ++ c :: suf) : pre.length < xs.length := by
  subst h; simp
/-- How long a list that is marked may be. -/
def fits {α : Type} (l : List α) : Prop := l.length ≤ 1048576
theorem fits.small {α : Type} {l : List α} (h : fits l) : small l := by unfold fits at h; unfold L.small; omega

theorem markCellS_ev (a : List Cell) (ha : fits a) : Ev (fun k => laws_markCellS.f k a 1) (1 + 2 * (a.length : Int), markedC a.length) := by
  unfold laws_markCellS.f
  have hs := ha.small
  unfold fits at ha
  have := loop_list a (fun k i (s : List Cell × Int) => laws_markCellS.l0 k s.1 s.2 i) (fun pre _ s => (1 + 2 * (a.length : Int), s.1.take pre.length ++ (markedC a.length).drop pre.length))
    (fun pre s => s.1.length = a.length ∧ s.2 = 1 + 2 * (pre.length : Int)) ?_ ?_ (a, 1) ⟨rfl, by simp⟩
  · simpa using this
  · rintro ⟨l, n⟩ ⟨hl, hn⟩
    simp only at hl hn
    simp only [laws_markCellS.l0, hl, len_lt, if_false]
    refine Ev.of_eq (Ev.now _) ?_
    rw [List.take_of_length_le (by omega), List.drop_of_length_le (by rw [markedC_len]; exact Nat.le_refl _), List.append_nil, hn]
  · rintro pre c suf ⟨l, n⟩ hx ⟨hl, hn⟩ ih
    have hp := pre_len hx
    simp only at hl hn
    subst hn
    have hlt : ((pre.length : Int) < (l.length : Int)) = True := by rw [hl]; exact pre_lt hx
    have e1 : wrap64 (1 + 2 * (pre.length : Int) + 1) = 2 + 2 * (pre.length : Int) := by rw [w64 (by omega) (by omega)]; omega
    have e2 : wrap64 (2 + 2 * (pre.length : Int) + 1) = 1 + 2 * ((pre.length : Int) + 1) := by rw [w64 (by omega) (by omega)]; omega
    have e3 : rd_T59 (l.set pre.length (⟨1 + 2 * (pre.length : Int), (rd_T59 l (pre.length : Int)).f1⟩ : Cell)) (pre.length : Int) = ⟨1 + 2 * (pre.length : Int), (rd_T59 l (pre.length : Int)).f1⟩ := by
      simp [rd_T59, List.getD, hl, hp]
    simp only [laws_markCellS.l0, hlt, pre_0, if_true, Option.bind_some, Int.toNat_natCast, e3, List.set_set, e1, e2, pre_w hx hs]
    refine Ev.of_eq (ih (l.set pre.length ⟨1 + 2 * (pre.length : Int), 2 + 2 * (pre.length : Int)⟩, 1 + 2 * ((pre.length : Int) + 1)) ⟨by simpa using hl, by simp⟩) ?_
    refine Prod.ext rfl ?_
    simp only [List.length_append, List.length_singleton]
    rw [List.take_add_one, List.getElem?_set_self (by omega), List.take_set_of_le (Nat.le_refl _), List.drop_eq_getElem_cons (i := pre.length) (by rw [markedC_len]; omega)]
    have := markedC_get a.length pre.length hp
    rw [List.getElem?_eq_getElem (by rw [markedC_len]; omega)] at this
    simp [Option.some.inj this]

theorem heldCellS_ev (n : Nat) (hn : n ≤ 1048576) : Ev (fun k => laws_heldCellS.f k (markedC n) 1) (1 + 2 * (n : Int)) := by
  unfold laws_heldCellS.f
  have hs : small (markedC n) := by unfold small; rw [markedC_len]; omega
  refine loop_list (markedC n) (fun k i (s : Int) => laws_heldCellS.l0 k (markedC n) s i) (fun _ _ _ => 1 + 2 * (n : Int)) (fun pre s => s = 1 + 2 * (pre.length : Int)) ?_ ?_ 1 (by simp)
  · rintro s rfl
    simp only [laws_heldCellS.l0, len_lt, if_false]
    rw [markedC_len]
    exact Ev.now _
  · rintro pre c suf s hx rfl ih
    have hp := pre_len hx
    rw [markedC_len] at hp
    have hc := pre_get hx
    rw [markedC_get n _ hp] at hc
    have hc := Option.some.inj hc
    have e1 : wrap64 (1 + 2 * (pre.length : Int) + 1) = 2 + 2 * (pre.length : Int) := by rw [w64 (by omega) (by omega)]; omega
    have e2 : wrap64 (2 + 2 * (pre.length : Int) + 1) = 1 + 2 * ((pre.length : Int) + 1) := by rw [w64 (by omega) (by omega)]; omega
    simp only [laws_heldCellS.l0, pre_lt hx, pre_0, if_true, at_pre hx, ← hc, e1, e2, pre_w hx hs]
    exact ih _ (by simp)

theorem szCellS_eq (a : List LCell) (n : Int) (h0 : 0 ≤ n) (h1 : n ≤ 1048576) (ha : a.length ≤ 9223372036854775807) : laws_szCellS.f a n = some (if n - (a.length : Int) < 0 then -1 else n - (a.length : Int)) := by
  unfold laws_szCellS.f
  rw [w64 (by omega) (by omega)]
  split <;> rfl
end Go.Proofs.Ytabdmdkoffpppaa.L
