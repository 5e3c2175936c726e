/- Placements are compared alike: by their piece, then by their cells. -/
import Derived.Test.YtkbhkdnanoddoaaInts
import Derived.Test.YtkbhkdnanoddoaaFx11
import Derived.Test.YtkbhkdnanoddoaaFx12
import Derived.Test.YtkbhkdnanoddoaaFx13
import Derived.Test.YtkbhkdnanoddoaaFx14
import Derived.Test.YtkbhkdnanoddoaaFx15
import Derived.Test.YtkbhkdnanoddoaaFOpn
namespace Go.Proofs.Ytkbhkdnanoddoaa.Pure
open Go.RowKit Go.Proofs.YtkbhkdnanoddoaaW.PrintWords Go.Proofs.Ytkbhkdnanoddoaa.F Go.Proofs.Ytkbhkdnanoddoaa.L
set_option linter.unusedVariables false
set_option linter.unusedSimpArgs false

/-- Lists in the order of their first difference. -/
def cmpL : List Int → List Int → Int
  | [], [] => 0
  | [], _ :: _ => -1
  | _ :: _, [] => 1
  | a :: r, b :: s => if a < b then -1 else if a > b then 1 else cmpL r s

theorem lists_ev (a b : List Int) (ha : small a) (hb : small b) : Ev (fun k => spec_l12Lists.f k a b) (cmpL a b) := by
  unfold spec_l12Lists.f
  have key : ∀ (s t pa pb : List Int), a = pa ++ s → b = pb ++ t → pa.length = pb.length → Ev (fun k => spec_l12Lists.l0 k a b (pa.length : Int)) (cmpL s t) := by
    intro s
    induction s with
    | nil =>
      intro t pa pb h1 h2 hl
      have e1 : a.length = pa.length := by rw [h1]; simp
      refine Ev.step (fun k => spec_l12Lists.l0.eq_2 ..) ?_
      have n1 : ¬ (pa.length : Int) < (a.length : Int) := by omega
      refine Ev.neg n1 (Ev.step (fun k => spec_l12Lists.j1.eq_2 ..) (Ev.neg (by simp) ?_))
      have e2 : b.length = pb.length + t.length := by rw [h2]; simp
      cases t with
      | nil => simp at e2; exact Ev.neg (by omega) (Ev.neg (by omega) (Ev.now _))
      | cons x t => simp at e2; exact Ev.pos (by omega) (Ev.now _)
    | cons c s ih =>
      intro t pa pb h1 h2 hl
      refine Ev.step (fun k => spec_l12Lists.l0.eq_2 ..) ?_
      have p1 := pre_lt h1
      refine Ev.pos (of_eq_true p1) (Ev.step (fun k => spec_l12Lists.j1.eq_2 ..) ?_)
      have e2 : b.length = pb.length + t.length := by rw [h2]; simp
      cases t with
      | nil =>
        simp at e2
        have e1 : a.length = pa.length + (s.length + 1) := by rw [h1]; simp
        exact Ev.neg (by simp; omega) (Ev.neg (by omega) (Ev.pos (by omega) (Ev.now _)))
      | cons x t =>
        have p2 := pre_lt h2
        rw [← hl] at p2
        refine Ev.pos (by simp only [p2]; rfl) (Ev.pos (by omega) (Ev.pos (of_eq_true p1) (Ev.pos (of_eq_true p2) ?_)))
        have r1 := at_preI h1
        have r2 := at_preI h2
        rw [← hl] at r2
        simp only [r1, r2, cmpL, pre_w h1 ha]
        refine Ev.if_ (fun _ => Ev.now _) fun _ => Ev.if_ (fun _ => Ev.now _) fun _ => ?_
        have := ih t (pa ++ [c]) (pb ++ [x]) (by rw [h1]; simp) (by rw [h2]; simp) (by simp [hl])
        rw [List.length_append] at this
        exact this
  exact key a b [] [] rfl rfl rfl

theorem slicesCompare_ev (a b : List Int) (ha : small a) (hb : small b) : Ev (fun k => slices_Compare_int64_int64.f k a b) (cmpL a b) := by
  unfold slices_Compare_int64_int64.f
  have key : ∀ (s t pa pb : List Int), a = pa ++ s → b = pb ++ t → pa.length = pb.length → Ev (fun k => slices_Compare_int64_int64.l0 k a b a (a.length : Int) (pa.length : Int)) (cmpL s t) := by
    intro s
    induction s with
    | nil =>
      intro t pa pb h1 h2 hl
      have e1 : a.length = pa.length := by rw [h1]; simp
      have e2 : b.length = pb.length + t.length := by rw [h2]; simp
      refine Ev.step (fun k => slices_Compare_int64_int64.l0.eq_2 ..) (Ev.neg (by omega) ?_)
      cases t with
      | nil => simp at e2; exact Ev.neg (by omega) (Ev.now _)
      | cons x t => simp at e2; exact Ev.pos (by omega) (Ev.now _)
    | cons c s ih =>
      intro t pa pb h1 h2 hl
      have p1 := pre_lt h1
      have e2 : b.length = pb.length + t.length := by rw [h2]; simp
      refine Ev.step (fun k => slices_Compare_int64_int64.l0.eq_2 ..) (Ev.pos (of_eq_true p1) (Ev.pos (by omega) (Ev.pos (of_eq_true p1) ?_)))
      cases t with
      | nil => simp at e2; exact Ev.pos (by omega) (Ev.now _)
      | cons x t =>
        have p2 := pre_lt h2
        rw [← hl] at p2
        have r1 := at_preI h1
        have r2 := at_preI h2
        rw [← hl] at r2
        refine Ev.neg (by have := of_eq_true p2; omega) (Ev.pos (of_eq_true p2) ?_)
        simp only [r1, r2, compare_eq, Option.bind_some, pre_w h1 ha, cmpL]
        by_cases e : c < x
        · simp only [cmpI, e, if_true]; exact Ev.neg (by decide) (Ev.now _)
        · by_cases e' : c > x
          · simp only [cmpI, e, e', if_true, if_false]; exact Ev.neg (by decide) (Ev.now _)
          · simp only [cmpI, e, e', if_false, if_true]
            have := ih t (pa ++ [c]) (pb ++ [x]) (by rw [h1]; simp) (by rw [h2]; simp) (by simp [hl])
            rw [List.length_append] at this
            exact this
  exact key a b [] [] rfl rfl rfl

def cmpP (p : Int) (a : List Int) (q : Int) (b : List Int) : Int := if p = q then cmpL a b else if p < q then -1 else 1
theorem specCompare_ev (p : Int) (a : List Int) (q : Int) (b : List Int) (ha : small a) (hb : small b) : Ev (fun k => spec_ComparePlacements.f k p a q b) (cmpP p a q b) := by
  unfold spec_ComparePlacements.f cmpP
  exact Ev.if_ (fun _ => Ev.bind (lists_ev a b ha hb) (Ev.now _)) fun _ => Ev.if_ (fun _ => Ev.now _) fun _ => Ev.now _
theorem implCompare_ev (p : Int) (a : List Int) (q : Int) (b : List Int) (ha : small a) (hb : small b) : Ev (fun k => impl_ComparePlacements.f k p a q b) (cmpP p a q b) := by
  unfold impl_ComparePlacements.f impl_comparePlacements.f
  refine Ev.bind ?_ (Ev.now _)
  simp only [compare_eq, Option.bind_some]
  unfold cmpP
  by_cases h : p = q
  · rw [if_pos h]
    exact Ev.pos (cmpI_zero.2 h) (Ev.bind (slicesCompare_ev a b ha hb) (Ev.now _))
  · rw [if_neg h]
    refine Ev.neg (fun e => h (cmpI_zero.1 e)) (Ev.of_eq (Ev.now _) ?_)
    unfold cmpI
    split
    · rfl
    · rw [if_pos (by omega)]

theorem toPlacement_ev (p : Int) (a : List Int) (ha : a.length ≤ 1048576) : Ev (fun k => laws_toPlacement.f k p a) (p, a) := by
  unfold laws_toPlacement.f
  exact Ev.bind (toInt64S_ev a ha) (Ev.now _)
theorem eqPlacement_ev (p : Int) (a : List Int) (ha : small a) : Ev (fun k => laws_eqPlacement.f k p a p a) true := by
  unfold laws_eqPlacement.f
  exact Ev.pos (by trivial) (Ev.bind (eqInt64S_ev a ha) (Ev.pos rfl (Ev.now _)))
theorem szPlacement_eq (p : Int) (a : List Int) (n : Int) (h0 : 0 ≤ n) (h1 : n ≤ 1048576) (ha : a.length ≤ 9223372036854775807) : laws_szPlacement.f p a n = some (if n - (a.length : Int) < 0 then -1 else n - (a.length : Int)) := by
  unfold laws_szPlacement.f
  rw [szInt64S_eq a n h0 h1 ha]
  simp only [Option.bind_some]
  by_cases h : n - (a.length : Int) < 0
  · simp only [h, if_true]; rfl
  · simp only [h, if_false]

theorem FnExactComparePlacements (p : Int) (a : List Int) (q : Int) (b : List Int) (va : V37 ⟨p, a⟩) (vb : V37 ⟨q, b⟩) : ∃ k, laws_FnExactComparePlacements.f k p a q b = some true := by
  refine Ev.rounds ?_
  have wa : a.length ≤ 9223372036854775807 := va.2.1
  have wb : b.length ≤ 9223372036854775807 := vb.2.1
  unfold laws_FnExactComparePlacements.f
  rw [szPlacement_eq p a 1048576 (by decide) (by decide) wa]
  simp only [Option.bind_some]
  by_cases h : (1048576 : Int) - (a.length : Int) < 0
  · rw [if_pos h]; exact Ev.pos (by decide) (Ev.now _)
  · rw [if_neg h]
    refine Ev.neg h ?_
    rw [szPlacement_eq q b _ (by omega) (by omega) wb]
    simp only [Option.bind_some]
    by_cases h' : (1048576 : Int) - (a.length : Int) - (b.length : Int) < 0
    · rw [if_pos h']; exact Ev.pos (by decide) (Ev.now _)
    · rw [if_neg h']
      refine Ev.neg h' ?_
      have la : a.length ≤ 1048576 := by omega
      have lb : b.length ≤ 1048576 := by omega
      have ha : small a := by unfold small; omega
      have hb : small b := by unfold small; omega
      refine Ev.bind (toPlacement_ev p a la) (Ev.bind (toPlacement_ev q b lb) (Ev.bind (specCompare_ev p a q b ha hb) (Ev.bind (toPlacement_ev p a la) (Ev.bind (toPlacement_ev q b lb) (Ev.bind (implCompare_ev p a q b ha hb) (Ev.pos rfl ?_))))))
      refine Ev.bind (toPlacement_ev p a la) (Ev.bind (eqPlacement_ev p a ha) (Ev.pos rfl (Ev.bind (toPlacement_ev q b lb) (Ev.bind (eqPlacement_ev q b hb) (Ev.pos rfl (Ev.now _))))))
end Go.Proofs.Ytkbhkdnanoddoaa.Pure
