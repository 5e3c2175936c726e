/- The least form of a solid. -/
import Derived.Test.YthgkgimjepbegaaCubeCmp
import Derived.Test.YthgkgimjepbegaaFx20
import Derived.Test.YthgkgimjepbegaaFx21
import Derived.Test.YthgkgimjepbegaaFx6
namespace Go.Proofs.Ythgkgimjepbegaa.L
open Go.RowKit Go.Proofs.YthgkgimjepbegaaW.PrintWords Go.Proofs.YthgkgimjepbegaaW.PrintLast Go.Proofs.YthgkgimjepbegaaW.PrintMore Go.Proofs.Ythgkgimjepbegaa.F
set_option linter.unusedVariables false
set_option linter.unusedSimpArgs false
/-- The order of whole numbers as cmp.Compare tells it. -/
def cmpJ (a b : Int) : Int := if a < b then -1 else if a > b then 1 else 0
theorem cmpJ_zero {a b : Int} : cmpJ a b = 0 ↔ a = b := by
  unfold cmpJ
  split
  · constructor <;> intro h <;> omega
  · split
    · constructor <;> intro h <;> omega
    · constructor <;> intro h <;> omega
theorem compareInt_eq (a b : Int) : cmp_Compare_int.f a b = some (cmpJ a b) := by
  unfold cmp_Compare_int.f cmp_isNaN_int.f cmpJ
  simp only [bne_self_eq_false, Option.bind_some, Bool.false_eq_true, if_false]
  split
  · rfl
  · split <;> rfl
theorem implCompareQ_ev (a b : List Cube) (ha : small a) : Ev (fun k => impl_compareSolids.f k a b) (cmpSQ a b) := by
  unfold impl_compareSolids.f cmpSQ
  rw [compareInt_eq]
  simp only [Option.bind_some]
  by_cases hl : a.length = b.length
  · rw [if_pos hl]
    refine Ev.pos (cmpJ_zero.2 (by omega)) (Ev.bind ?_ (Ev.now _))
    unfold impl_Cube_92__impl_compareCubes.f
    refine loop_list a (fun k i (_ : Unit) => impl_Cube_92__impl_compareCubes.l0 k a b a (a.length : Int) i) (fun pre suf _ => cmpLQ suf (b.drop pre.length)) (fun _ _ => True) ?_ ?_ () trivial
    · intro _ _
      simp only [impl_Cube_92__impl_compareCubes.l0, len_lt, if_false]
      exact Ev.neg (by omega) (Ev.of_eq (Ev.now _) (by simp [cmpLQ]))
    · intro pre c suf _ hx _ ih
      have hp := pre_len hx
      have hpb : pre.length < b.length := by omega
      have eb := rdQ b pre.length hpb
      have e1 := cmpV_eq c b[pre.length]
      simp only [impl_Cube_92__impl_compareCubes.l0, pre_lt hx, pre_0, if_true, at_preQ hx, pre_w hx ha, eb]
      refine Ev.neg (by omega) (Ev.pos (by omega) ?_)
      rw [e1]
      rw [List.drop_eq_getElem_cons hpb, cmpLQ]
      have hih := ih () trivial
      rw [List.length_append, List.length_singleton] at hih
      generalize b.drop (pre.length + 1) = R at hih ⊢
      generalize b[pre.length] = d at hih ⊢
      simp only [Option.bind_some]
      have hv := cmpV_val c d
      by_cases h1 : ltQ c d
      · rw [if_pos h1] at hv ⊢
        exact Ev.neg (by omega) (Ev.of_eq (Ev.now _) hv)
      · rw [if_neg h1] at hv ⊢
        by_cases h2 : ltQ d c
        · rw [if_pos h2] at hv ⊢
          exact Ev.neg (by omega) (Ev.of_eq (Ev.now _) hv)
        · rw [if_neg h2] at hv ⊢
          exact Ev.pos hv hih
  · rw [if_neg hl]
    refine Ev.neg (fun h => hl (by have := cmpJ_zero.1 h; omega)) (Ev.of_eq (Ev.now _) ?_)
    unfold cmpJ
    by_cases h : a.length < b.length
    · rw [if_pos h, if_pos (by omega)]
    · rw [if_neg h, if_neg (by omega), if_pos (by omega)]
/-- The least of some forms, the first of them. -/
def lessQ (l : List Cube) : Nat → Int → List Cube → List Cube
  | 0, _, b => b
  | n + 1, t, b => lessQ l n (t + 1) (if cmpSQ (formQ l t) b < 0 then formQ l t else b)
def leastForm (l : List Cube) (n : Nat) : List Cube := lessQ l (n - 1) 1 (formQ l 0)
theorem lessQ_len (l : List Cube) (m : Nat) (hm : l.length ≤ m) : ∀ (n : Nat) (t : Int) (b : List Cube), b.length ≤ m → (lessQ l n t b).length ≤ m
  | 0, _, _, h => h
  | n + 1, t, b, h => by
    unfold lessQ
    refine lessQ_len l m hm n _ _ ?_
    split
    · rw [formQ_len]; exact hm
    · exact h
theorem leastForm_len (l : List Cube) (n : Nat) : (leastForm l n).length ≤ l.length := lessQ_len l l.length (Nat.le_refl _) _ _ _ (by rw [formQ_len]; exact Nat.le_refl _)
theorem specLessQ_l (l : List Cube) (m : Int) (hm : m ≤ 1000) (hl : l.length ≤ 1048576) (hp : 0 < l.length) : ∀ (n : Nat) (t : Int) (b : List Cube), 0 ≤ t → t + (n : Int) = m → Ev (fun k => spec_l09Least.l0 k l m b t) (lessQ l n t b)
  | 0, t, b, h0, h1 => by
    refine Ev.succ ?_
    simp only [spec_l09Least.l0]
    exact Ev.neg (by omega) (Ev.now _)
  | n + 1, t, b, h0, h1 => by
    refine Ev.succ ?_
    simp only [spec_l09Least.l0]
    have ew : wrap64 (t + 1) = t + 1 := w64 (by omega) (by omega)
    have hf : small (formQ l t) := by unfold small; rw [formQ_len]; omega
    refine Ev.pos (by omega) (Ev.bind (specFormQ_ev l t h0 (by omega) hl hp) (Ev.bind (specCompareQ_ev _ b hf) ?_))
    simp only [ew]
    unfold lessQ
    by_cases h : cmpSQ (formQ l t) b < 0
    · rw [if_pos h]; exact Ev.pos h (specLessQ_l l m hm hl hp n (t + 1) _ (by omega) (by omega))
    · rw [if_neg h]; exact Ev.neg h (specLessQ_l l m hm hl hp n (t + 1) _ (by omega) (by omega))
theorem specLeastQ_ev (l : List Cube) (n : Nat) (h1 : 1 ≤ n) (hn : n ≤ 1000) (hl : l.length ≤ 1048576) (hp : 0 < l.length) : Ev (fun k => spec_l09Least.f k l (n : Int)) (leastForm l n) := by
  unfold spec_l09Least.f leastForm
  exact Ev.bind (specFormQ_ev l 0 (by omega) (by omega) hl hp) (specLessQ_l l n (by omega) hl hp (n - 1) 1 _ (by omega) (by omega))
theorem implLessQ_l (l : List Cube) (m : Int) (hm : m ≤ 1000) (hl : l.length ≤ 1048576) (hp : 0 < l.length) (ho : ∀ c ∈ l, okQ c) : ∀ (n : Nat) (t : Int) (b : List Cube), 0 ≤ t → t + (n : Int) = m → Ev (fun k => impl_leastSolid.l0 k l m b t) (lessQ l n t b)
  | 0, t, b, h0, h1 => by
    refine Ev.succ ?_
    simp only [impl_leastSolid.l0]
    exact Ev.neg (by omega) (Ev.now _)
  | n + 1, t, b, h0, h1 => by
    refine Ev.succ ?_
    simp only [impl_leastSolid.l0]
    have ew : wrap64 (t + 1) = t + 1 := w64 (by omega) (by omega)
    have hf : small (formQ l t) := by unfold small; rw [formQ_len]; omega
    refine Ev.pos (by omega) (Ev.bind (implFormQ_ev l t h0 (by omega) hl hp ho) (Ev.bind (implCompareQ_ev _ b hf) ?_))
    simp only [ew]
    unfold lessQ
    by_cases h : cmpSQ (formQ l t) b < 0
    · rw [if_pos h]; exact Ev.pos h (implLessQ_l l m hm hl hp ho n (t + 1) _ (by omega) (by omega))
    · rw [if_neg h]; exact Ev.neg h (implLessQ_l l m hm hl hp ho n (t + 1) _ (by omega) (by omega))
def turnsQ (b : Bool) : Nat := if b = true then 48 else 24
theorem implLeastQ_ev (l : List Cube) (b : Bool) (hl : l.length ≤ 1048576) (hp : 0 < l.length) (ho : ∀ c ∈ l, okQ c) : Ev (fun k => impl_leastSolid.f k l b) (leastForm l (turnsQ b)) := by
  unfold impl_leastSolid.f leastForm turnsQ
  refine Ev.of_eq (Ev.if_ (r := lessQ l 47 1 (formQ l 0)) (s := lessQ l 23 1 (formQ l 0)) (fun _ => ?_) (fun _ => ?_)) ?_
  · refine Ev.step (fun k => impl_leastSolid.j0.eq_2 _ _ _) ?_
    exact Ev.bind (implFormQ_ev l 0 (by omega) (by omega) hl hp ho) (implLessQ_l l 48 (by omega) hl hp ho 47 1 _ (by omega) (by omega))
  · refine Ev.step (fun k => impl_leastSolid.j0.eq_2 _ _ _) ?_
    exact Ev.bind (implFormQ_ev l 0 (by omega) (by omega) hl hp ho) (implLessQ_l l 24 (by omega) hl hp ho 23 1 _ (by omega) (by omega))
  · split <;> rfl
def leastR (l : List Cube) (b : Bool) : List Cube × Int := if codeQ l = 0 then (leastForm l (turnsQ b), 0) else ([], codeQ l)
theorem leastR_len (l : List Cube) (b : Bool) : (leastR l b).1.length ≤ l.length := by
  unfold leastR
  split
  · exact leastForm_len _ _
  · simp
theorem specLeastR_ev (l : List Cube) (b : Bool) (hl : l.length ≤ 1048576) : Ev (fun k => spec_LeastForm.f k l b) (leastR l b) := by
  unfold spec_LeastForm.f leastR
  refine Ev.bind (specCodeQ_ev l hl) (Ev.if_ (fun h => ?_) (fun _ => Ev.now _))
  have e : spec_l09Turns.f b = some ((turnsQ b : Nat) : Int) := by cases b <;> rfl
  simp only [e, Option.bind_some]
  exact Ev.bind (specLeastQ_ev l (turnsQ b) (by unfold turnsQ; split <;> decide) (by unfold turnsQ; split <;> decide) hl (solid_pos (codeQ_zero h).1)) (Ev.now _)
theorem implLeastR_ev (l : List Cube) (b : Bool) (hl : l.length ≤ 1048576) : Ev (fun k => impl_LeastForm.f k l b) (leastR l b) := by
  unfold impl_LeastForm.f leastR
  refine Ev.bind (implCodeQ_ev l hl) (Ev.if_ (fun h => ?_) (fun _ => Ev.now _))
  exact Ev.bind (implLeastQ_ev l b hl (solid_pos (codeQ_zero h).1) (solidB_iff.1 (codeQ_zero h).1).1) (Ev.now _)
end Go.Proofs.Ythgkgimjepbegaa.L
