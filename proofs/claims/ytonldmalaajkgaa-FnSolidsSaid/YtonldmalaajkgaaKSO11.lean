/- The row of FnSolids, with what it needs: text 12 of 13. -/
import Derived.Test.YtonldmalaajkgaaKSO10
set_option maxHeartbeats 8000000
set_option maxRecDepth 100000
section
namespace Go.Proofs.Ytonldmalaajkgaa.L
open Go.RowKit Go.Proofs.YtonldmalaajkgaaW.PrintWords Go.Proofs.YtonldmalaajkgaaW.PrintLast Go.Proofs.YtonldmalaajkgaaW.PrintMore Go.Proofs.Ytonldmalaajkgaa.F
set_option linter.unusedVariables false
set_option linter.unusedSimpArgs false
theorem w64_rng (n : Int) : -9223372036854775808 ≤ wrap64 n ∧ wrap64 n ≤ 9223372036854775807 := by unfold wrap64; omega
theorem wneg2 {x : Int} (h : -9223372036854775808 ≤ x) (h' : x ≤ 9223372036854775807) : wrap64 (-wrap64 (-x)) = x := by unfold wrap64; omega
def inr (p : Int × Int × Int) : Prop := (-9223372036854775808 ≤ p.1 ∧ p.1 ≤ 9223372036854775807) ∧ (-9223372036854775808 ≤ p.2.1 ∧ p.2.1 ≤ 9223372036854775807)
theorem tdf {t : Int} (h : 0 ≤ t) (h' : t ≤ 1000) : Int.tmod (wrap64 (Int.tdiv t 4)) 6 = t / 4 % 6 := by
  have e : Int.tdiv t 4 = t / 4 := Int.tdiv_eq_ediv_of_nonneg h
  rw [e, w64 (by omega) (by omega), Int.tmod_eq_emod_of_nonneg (by omega)]
theorem tmod4' {t : Int} (h : 0 ≤ t) : Int.tmod t 4 = ((t % 4).toNat : Int) := by
  rw [Int.tmod_eq_emod_of_nonneg h]
  omega
theorem specTilt_l (n : Nat) (hn : n ≤ 1048576) : ∀ p : Int × Int × Int, Ev (fun k => spec_l09Turn.l1 k (n : Int) p.1 p.2.1 p.2.2) (rotX n p) := by
  induction n with
  | zero =>
    intro p
    refine Ev.succ ?_
    simp only [spec_l09Turn.l1]
    exact Ev.neg (by simp) (Ev.now _)
  | succ n ih =>
    intro p
    refine Ev.succ ?_
    simp only [spec_l09Turn.l1]
    have e1 : wrap64 (((n + 1 : Nat) : Int) - 1) = (n : Int) := by rw [w64 (by omega) (by omega)]; omega
    refine Ev.pos (by omega) ?_
    simp only [e1]
    exact ih (by omega) (p.1, wrap64 (-p.2.2), p.2.1)
theorem specTurnQ_l (t : Int) (h0 : 0 ≤ t) (h1 : t ≤ 1000) (n : Nat) (hn : n ≤ 1048576) : ∀ p : Int × Int × Int, Ev (fun k => spec_l09Turn.l0 k t (n : Int) p.1 p.2.1 p.2.2) (tiltQ (t / 4 % 6) (rotZ n p)) := by
  induction n with
  | zero =>
    intro p
    refine Ev.succ ?_
    simp only [spec_l09Turn.l0, tdf h0 h1]
    refine Ev.neg (by simp) ?_
    unfold tiltQ rotZ
    by_cases h4 : t / 4 % 6 = 4
    · rw [if_neg (by omega), if_neg (by omega)]
      exact Ev.pos h4 (Ev.now _)
    · by_cases h5 : t / 4 % 6 = 5
      · rw [if_neg (by omega), if_pos h5]
        exact Ev.neg h4 (Ev.pos h5 (Ev.now _))
      · rw [if_pos (by omega)]
        refine Ev.neg h4 (Ev.neg h5 ?_)
        have := specTilt_l (t / 4 % 6).toNat (by omega) p
        rw [Int.toNat_of_nonneg (by omega)] at this
        exact this
  | succ n ih =>
    intro p
    refine Ev.succ ?_
    simp only [spec_l09Turn.l0]
    have e1 : wrap64 (((n + 1 : Nat) : Int) - 1) = (n : Int) := by rw [w64 (by omega) (by omega)]; omega
    refine Ev.pos (by omega) ?_
    simp only [e1]
    exact ih (by omega) (wrap64 (-p.2.1), p.1, p.2.2)
theorem specTurnQ_ev (c : Cube) (t : Int) (h0 : 0 ≤ t) (h1 : t ≤ 1000) : Ev (fun k => spec_l09Turn.f k c.f0 c.f1 c.f2 t) (turnQ c t) := by
  unfold spec_l09Turn.f turnQ
  have := specTurnQ_l t h0 h1 (t % 4).toNat (by omega)
  by_cases h4 : t ≥ 24
  · rw [if_pos h4]
    refine Ev.pos h4 (Ev.step (fun k => spec_l09Turn.j0.eq_2 _ _ _ _ _) ?_)
    simp only [tmod4' h0]
    exact this (wrap64 (-c.f0), c.f1, c.f2)
  · rw [if_neg h4]
    refine Ev.neg h4 (Ev.step (fun k => spec_l09Turn.j0.eq_2 _ _ _ _ _) ?_)
    simp only [tmod4' h0]
    exact this (c.f0, c.f1, c.f2)
theorem implTilt_l (m : Nat) (hm : m ≤ 1048576) (n : Nat) : ∀ (i : Nat) (p : Int × Int × Int), i + n = m → Ev (fun k => impl_turnCube.l1 k (m : Int) (i : Int) p.1 p.2.1 p.2.2) (rotX n p) := by
  induction n with
  | zero =>
    intro i p hi
    refine Ev.succ ?_
    simp only [impl_turnCube.l1]
    exact Ev.neg (by omega) (Ev.now _)
  | succ n ih =>
    intro i p hi
    refine Ev.succ ?_
    simp only [impl_turnCube.l1]
    have e1 : wrap64 ((i : Int) + 1) = ((i + 1 : Nat) : Int) := by rw [w64 (by omega) (by omega)]; omega
    refine Ev.pos (by omega) ?_
    simp only [e1]
    exact ih (i + 1) (p.1, wrap64 (-p.2.2), p.2.1) (by omega)
theorem implFlip1 (p : Int × Int × Int) : Ev (fun k => impl_turnCube.j3 k 1 p.1 p.2.1 p.2.2) (p.2.2, p.2.1, wrap64 (-p.1)) := by
  refine Ev.step (fun k => impl_turnCube.j3.eq_2 _ _ _ _ _) (Ev.succ ?_)
  simp only [impl_turnCube.l2]
  refine Ev.pos (by decide) (Ev.succ ?_)
  simp only [impl_turnCube.l2]
  exact Ev.neg (by unfold wrap64; omega) (Ev.now _)
theorem implFlip3 (p : Int × Int × Int) (h : inr p) : Ev (fun k => impl_turnCube.j3 k 3 p.1 p.2.1 p.2.2) (wrap64 (-p.2.2), p.2.1, p.1) := by
  refine Ev.step (fun k => impl_turnCube.j3.eq_2 _ _ _ _ _) (Ev.succ ?_)
  simp only [impl_turnCube.l2]
  refine Ev.pos (by decide) (Ev.succ ?_)
  simp only [impl_turnCube.l2]
  refine Ev.pos (by unfold wrap64; omega) (Ev.succ ?_)
  simp only [impl_turnCube.l2]
  refine Ev.pos (by unfold wrap64; omega) (Ev.succ ?_)
  simp only [impl_turnCube.l2]
  refine Ev.neg (by unfold wrap64; omega) (Ev.of_eq (Ev.now _) ?_)
  rw [wneg2 h.1.1 h.1.2]
theorem implTurnQ_l (t : Int) (h0 : 0 ≤ t) (h1 : t ≤ 1000) (m : Nat) (hm : m ≤ 1048576) (n : Nat) : ∀ (i : Nat) (p : Int × Int × Int), i + n = m → inr p → Ev (fun k => impl_turnCube.l0 k t (m : Int) (i : Int) p.1 p.2.1 p.2.2) (tiltQ (t / 4 % 6) (rotZ n p)) := by
  induction n with
  | zero =>
    intro i p hi hp
    refine Ev.succ ?_
    simp only [impl_turnCube.l0, tdf h0 h1]
    refine Ev.neg (by omega) ?_
    unfold tiltQ rotZ
    by_cases h4 : t / 4 % 6 < 4
    · rw [if_pos h4]
      refine Ev.pos h4 ?_
      have := implTilt_l (t / 4 % 6).toNat (by omega) (t / 4 % 6).toNat 0 p (by omega)
      rw [Int.toNat_of_nonneg (by omega)] at this
      exact this
    · rw [if_neg h4]
      refine Ev.neg h4 ?_
      by_cases h5 : t / 4 % 6 = 5
      · rw [if_pos h5]
        exact Ev.pos h5 (implFlip3 p hp)
      · rw [if_neg h5]
        exact Ev.neg h5 (implFlip1 p)
  | succ n ih =>
    intro i p hi hp
    refine Ev.succ ?_
    simp only [impl_turnCube.l0]
    have e1 : wrap64 ((i : Int) + 1) = ((i + 1 : Nat) : Int) := by rw [w64 (by omega) (by omega)]; omega
    refine Ev.pos (by omega) ?_
    simp only [e1]
    exact ih (i + 1) (wrap64 (-p.2.1), p.1, p.2.2) (by omega) ⟨w64_rng _, hp.1⟩
theorem implTurnQ_ev (c : Cube) (t : Int) (h0 : 0 ≤ t) (h1 : t ≤ 1000) (hc : okQ c) : Ev (fun k => impl_turnCube.f k c.f0 c.f1 c.f2 t) (turnQ c t) := by
  unfold impl_turnCube.f turnQ
  have := implTurnQ_l t h0 h1 (t % 4).toNat (by omega) (t % 4).toNat 0
  obtain ⟨c0, c1, c2⟩ := hc
  unfold ok1 at c0 c1 c2
  by_cases h4 : t ≥ 24
  · rw [if_pos h4]
    refine Ev.pos h4 (Ev.step (fun k => impl_turnCube.j0.eq_2 _ _ _ _ _) ?_)
    simp only [tmod4' h0]
    exact this (wrap64 (-c.f0), c.f1, c.f2) (by omega) ⟨w64_rng _, (by show -9223372036854775808 ≤ c.f1; omega), (by show c.f1 ≤ 9223372036854775807; omega)⟩
  · rw [if_neg h4]
    refine Ev.neg h4 (Ev.step (fun k => impl_turnCube.j0.eq_2 _ _ _ _ _) ?_)
    simp only [tmod4' h0]
    exact this (c.f0, c.f1, c.f2) (by omega) ⟨⟨(by show -9223372036854775808 ≤ c.f0; omega), (by show c.f0 ≤ 9223372036854775807; omega)⟩, (by show -9223372036854775808 ≤ c.f1; omega), (by show c.f1 ≤ 9223372036854775807; omega)⟩
def formQ (l : List Cube) (t : Int) : List Cube := normalQ (sortC (l.map (turnE t)))
theorem formQ_len (l : List Cube) (t : Int) : (formQ l t).length = l.length := by unfold formQ; rw [normalQ_len, sortQ_len]; simp
theorem specFormQ_ev (l : List Cube) (t : Int) (h0 : 0 ≤ t) (h1 : t ≤ 1000) (hl : l.length ≤ 1048576) (hp : 0 < l.length) : Ev (fun k => spec_l09Form.f k l t) (formQ l t) := by
  have hs : small l := by unfold small; omega
  unfold spec_l09Form.f formQ
  have := loop_list l (fun k i (s : List Cube) => spec_l09Form.l0 k l t s i) (fun pre suf s => normalQ (sortC (s ++ suf.map (turnE t)))) (fun pre s => s.length = pre.length) ?_ ?_ [] rfl
  · simpa using this
  · intro s hi
    have hi' : s.length = l.length := hi
    simp only [spec_l09Form.l0, len_lt, if_false]
    exact Ev.bind (specSortQ_ev s (by omega)) (Ev.bind (specNormalQ_ev _ (by rw [sortQ_len]; omega) (by rw [sortQ_len]; omega)) (Ev.of_eq (Ev.now _) (by simp)))
  · intro pre c suf s hx hi ih
    have hp := pre_len hx
    simp only [spec_l09Form.l0, pre_lt hx, pre_0, if_true, at_preQ hx, pre_w hx hs]
    refine Ev.bind (specTurnQ_ev c t h0 h1) (Ev.pos (by omega) (Ev.of_eq (ih (s ++ [turnE t c]) (by simp [hi])) (by simp)))
theorem implFormQ_ev (l : List Cube) (t : Int) (h0 : 0 ≤ t) (h1 : t ≤ 1000) (hl : l.length ≤ 1048576) (hp : 0 < l.length) (ho : ∀ c ∈ l, okQ c) : Ev (fun k => impl_cubeForm.f k l t) (formQ l t) := by
  have hs : small l := by unfold small; omega
  unfold impl_cubeForm.f formQ
  refine Ev.pos (by omega) (Ev.pos (by omega) ?_)
  have := loop_list l (fun k i (s : List Cube) => impl_cubeForm.l0 k t s l (l.length : Int) i) (fun pre suf s => normalQ (sortC (s ++ suf.map (turnE t)))) (fun pre s => s.length = pre.length) ?_ ?_ [] rfl
  · simpa using this
  · intro s hi
    have hi' : s.length = l.length := hi
    simp only [impl_cubeForm.l0, len_lt, if_false, implSortQ_eq s (by omega) (by omega), Option.bind_some]
    exact Ev.bind (implNormalQ_ev _ (by rw [sortQ_len]; omega) (by rw [sortQ_len]; omega)) (Ev.of_eq (Ev.now _) (by simp))
  · intro pre c suf s hx hi ih
    have hp := pre_len hx
    simp only [impl_cubeForm.l0, pre_lt hx, pre_0, if_true, at_preQ hx, pre_w hx hs]
    refine Ev.bind (implTurnQ_ev c t h0 h1 (ho c (by rw [hx]; simp))) (Ev.pos (by omega) (Ev.of_eq (ih (s ++ [turnE t c]) (by simp [hi])) (by simp)))
def codeQ (l : List Cube) : Int := if solidB l = true then (if solidB (normalQ l) = true then 0 else 3) else 1
theorem codeQ_zero {l : List Cube} (h : codeQ l = 0) : solidB l = true ∧ solidB (normalQ l) = true := by
  unfold codeQ at h
  by_cases h1 : solidB l = true
  · rw [if_pos h1] at h
    by_cases h2 : solidB (normalQ l) = true
    · exact ⟨h1, h2⟩
    · rw [if_neg h2] at h; omega
  · rw [if_neg h1] at h; omega
theorem specCodeQ_ev (l : List Cube) (hl : l.length ≤ 1048576) : Ev (fun k => spec_l09Code.f k l) (codeQ l) := by
  have hs : small l := by unfold small; omega
  unfold spec_l09Code.f codeQ
  refine Ev.bind (specSolid_ev l hs) (Ev.if_ (fun h => ?_) (fun _ => Ev.now _))
  exact Ev.bind (specNormalQ_ev l (by omega) (solid_pos h)) (Ev.bind (specSolid_ev _ (by unfold small; rw [normalQ_len]; omega)) (Ev.if_ (fun _ => Ev.now _) (fun _ => Ev.now _)))
theorem implCodeQ_ev (l : List Cube) (hl : l.length ≤ 1048576) : Ev (fun k => impl_solidCode.f k l) (codeQ l) := by
  have hs : small l := by unfold small; omega
  unfold impl_solidCode.f codeQ
  refine Ev.bind (implSolid_ev l hs) (Ev.if_ (fun h => ?_) (fun _ => Ev.now _))
  exact Ev.bind (implNormalQ_ev l (by omega) (solid_pos h)) (Ev.bind (implSolid_ev _ (by unfold small; rw [normalQ_len]; omega)) (Ev.if_ (fun _ => Ev.now _) (fun _ => Ev.now _)))
instance decEqCube : DecidableEq Cube := fun a b => decidable_of_iff (a.f0 = b.f0 ∧ a.f1 = b.f1 ∧ a.f2 = b.f2) (by cases a; cases b; simp)
def cmpLQ : List Cube → List Cube → Int
  | [], _ => 0
  | _ :: _, [] => 0
  | a :: r, b :: s => if ltQ a b then -1 else if ltQ b a then 1 else cmpLQ r s
def cmpSQ (a b : List Cube) : Int := if a.length = b.length then cmpLQ a b else if a.length < b.length then -1 else 1
theorem cmpLQ_zero : ∀ (a b : List Cube), a.length = b.length → (cmpLQ a b = 0 ↔ a = b)
  | [], b, h => by
    have : b = [] := List.length_eq_zero_iff.1 h.symm
    simp [cmpLQ, this]
  | a :: r, [], h => by simp at h
  | a :: r, b :: s, h => by
    unfold cmpLQ
    by_cases h1 : ltQ a b
    · rw [if_pos h1]
      have : a ≠ b := fun e => ltQ_irrefl b (e ▸ h1)
      simp [this]
    · rw [if_neg h1]
      by_cases h2 : ltQ b a
      · rw [if_pos h2]
        have : a ≠ b := fun e => ltQ_irrefl b (e ▸ h2)
        simp [this]
      · rw [if_neg h2, cmpLQ_zero r s (by simpa using h)]
        simp [ltQ_total h1 h2]
theorem cmpSQ_zero (a b : List Cube) : cmpSQ a b = 0 ↔ a = b := by
  unfold cmpSQ
  by_cases h : a.length = b.length
  · rw [if_pos h]; exact cmpLQ_zero a b h
  · rw [if_neg h]
    have : a ≠ b := fun e => h (by rw [e])
    split <;> simp [this]
theorem rdQ (b : List Cube) (i : Nat) (h : i < b.length) : rd_T63 b (i : Int) = b[i] := by
  unfold rd_T63
  rw [List.getD_eq_getElem?_getD, Int.toNat_natCast, List.getElem?_eq_getElem h]
  rfl
theorem specCompareQ_ev (a b : List Cube) (ha : small a) : Ev (fun k => spec_l09Compare.f k a b) (cmpSQ a b) := by
  unfold spec_l09Compare.f cmpSQ
  by_cases hl : a.length = b.length
  · rw [if_pos hl]
    refine Ev.pos (by omega) ?_
    refine loop_list a (fun k i (_ : Unit) => spec_l09Compare.l0 k a b i) (fun pre suf _ => cmpLQ suf (b.drop pre.length)) (fun _ _ => True) ?_ ?_ () trivial
    · intro _ _
      simp only [spec_l09Compare.l0, len_lt, if_false]
      exact Ev.of_eq (Ev.now _) (by simp [cmpLQ])
    · intro pre c suf _ hx _ ih
      have hp := pre_len hx
      have hpb : pre.length < b.length := by omega
      have hlt : ((pre.length : Int) < (b.length : Int)) = True := by simp; omega
      have eb := rdQ b pre.length hpb
      have e1 := less9_eq c b[pre.length]
      have e2 := less9_eq b[pre.length] c
      simp only [spec_l09Compare.l0, pre_lt hx, pre_0, if_true, hlt, at_preQ hx, pre_w hx ha, eb]
      rw [List.drop_eq_getElem_cons hpb, cmpLQ]
      have hih := ih () trivial
      rw [List.length_append, List.length_singleton] at hih
      rw [e1, e2]
      generalize b.drop (pre.length + 1) = R at hih ⊢
      generalize b[pre.length] = d at hih ⊢
      simp only [Option.bind_some, decide_eq_true_eq]
      by_cases h1 : ltQ c d
      · rw [if_pos h1]
        exact Ev.pos h1 (Ev.now _)
      · rw [if_neg h1]
        refine Ev.neg h1 ?_
        by_cases h2 : ltQ d c
        · rw [if_pos h2]
          exact Ev.pos h2 (Ev.now _)
        · rw [if_neg h2]
          exact Ev.neg h2 hih
  · rw [if_neg hl]
    refine Ev.neg (by omega) ?_
    by_cases h : a.length < b.length
    · rw [if_pos h]; exact Ev.pos (by omega) (Ev.now _)
    · rw [if_neg h]; exact Ev.neg (by omega) (Ev.now _)
def cmpJ (a b : Int) : Int := if a < b then -1 else if a > b then 1 else 0
theorem cmpJ_zero {a b : Int} : cmpJ a b = 0 ↔ a = b := by
  unfold cmpJ
  split
  · constructor <;> intro h <;> omega
  · split
    · constructor <;> intro h <;> omega
    · constructor <;> intro h <;> omega
theorem compareInt_eq (a b : Int) : cmp_Compare_int.f a b = some (cmpJ a b) := by
  unfold cmp_Compare_int.f cmp_isNaN_int.f cmpJ
  simp only [bne_self_eq_false, Option.bind_some, Bool.false_eq_true, if_false]
  split
  · rfl
  · split <;> rfl
theorem implCompareQ_ev (a b : List Cube) (ha : small a) : Ev (fun k => impl_compareSolids.f k a b) (cmpSQ a b) := by
  unfold impl_compareSolids.f cmpSQ
  rw [compareInt_eq]
  simp only [Option.bind_some]
  by_cases hl : a.length = b.length
  · rw [if_pos hl]
    refine Ev.pos (cmpJ_zero.2 (by omega)) (Ev.bind ?_ (Ev.now _))
    unfold impl_Cube_82__impl_compareCubes.f
    refine loop_list a (fun k i (_ : Unit) => impl_Cube_82__impl_compareCubes.l0 k a b a (a.length : Int) i) (fun pre suf _ => cmpLQ suf (b.drop pre.length)) (fun _ _ => True) ?_ ?_ () trivial
    · intro _ _
      simp only [impl_Cube_82__impl_compareCubes.l0, len_lt, if_false]
      exact Ev.neg (by omega) (Ev.of_eq (Ev.now _) (by simp [cmpLQ]))
    · intro pre c suf _ hx _ ih
      have hp := pre_len hx
      have hpb : pre.length < b.length := by omega
      have eb := rdQ b pre.length hpb
      have e1 := cmpV_eq c b[pre.length]
      simp only [impl_Cube_82__impl_compareCubes.l0, pre_lt hx, pre_0, if_true, at_preQ hx, pre_w hx ha, eb]
      refine Ev.neg (by omega) (Ev.pos (by omega) ?_)
      rw [e1]
      rw [List.drop_eq_getElem_cons hpb, cmpLQ]
      have hih := ih () trivial
      rw [List.length_append, List.length_singleton] at hih
      generalize b.drop (pre.length + 1) = R at hih ⊢
      generalize b[pre.length] = d at hih ⊢
      simp only [Option.bind_some]
      have hv := cmpV_val c d
      by_cases h1 : ltQ c d
      · rw [if_pos h1] at hv ⊢
        exact Ev.neg (by omega) (Ev.of_eq (Ev.now _) hv)
      · rw [if_neg h1] at hv ⊢
        by_cases h2 : ltQ d c
        · rw [if_pos h2] at hv ⊢
          exact Ev.neg (by omega) (Ev.of_eq (Ev.now _) hv)
        · rw [if_neg h2] at hv ⊢
          exact Ev.pos hv hih
  · rw [if_neg hl]
    refine Ev.neg (fun h => hl (by have := cmpJ_zero.1 h; omega)) (Ev.of_eq (Ev.now _) ?_)
    unfold cmpJ
    by_cases h : a.length < b.length
    · rw [if_pos h, if_pos (by omega)]
    · rw [if_neg h, if_neg (by omega), if_pos (by omega)]
def lessQ (l : List Cube) : Nat → Int → List Cube → List Cube
  | 0, _, b => b
  | n + 1, t, b => lessQ l n (t + 1) (if cmpSQ (formQ l t) b < 0 then formQ l t else b)
def leastForm (l : List Cube) (n : Nat) : List Cube := lessQ l (n - 1) 1 (formQ l 0)
theorem lessQ_len (l : List Cube) (m : Nat) (hm : l.length ≤ m) : ∀ (n : Nat) (t : Int) (b : List Cube), b.length ≤ m → (lessQ l n t b).length ≤ m
  | 0, _, _, h => h
  | n + 1, t, b, h => by
    unfold lessQ
    refine lessQ_len l m hm n _ _ ?_
    split
    · rw [formQ_len]; exact hm
    · exact h
theorem leastForm_len (l : List Cube) (n : Nat) : (leastForm l n).length ≤ l.length := lessQ_len l l.length (Nat.le_refl _) _ _ _ (by rw [formQ_len]; exact Nat.le_refl _)
theorem specLessQ_l (l : List Cube) (m : Int) (hm : m ≤ 1000) (hl : l.length ≤ 1048576) (hp : 0 < l.length) : ∀ (n : Nat) (t : Int) (b : List Cube), 0 ≤ t → t + (n : Int) = m → Ev (fun k => spec_l09Least.l0 k l m b t) (lessQ l n t b)
  | 0, t, b, h0, h1 => by
    refine Ev.succ ?_
    simp only [spec_l09Least.l0]
    exact Ev.neg (by omega) (Ev.now _)
  | n + 1, t, b, h0, h1 => by
    refine Ev.succ ?_
    simp only [spec_l09Least.l0]
    have ew : wrap64 (t + 1) = t + 1 := w64 (by omega) (by omega)
    have hf : small (formQ l t) := by unfold small; rw [formQ_len]; omega
    refine Ev.pos (by omega) (Ev.bind (specFormQ_ev l t h0 (by omega) hl hp) (Ev.bind (specCompareQ_ev _ b hf) ?_))
    simp only [ew]
    unfold lessQ
    by_cases h : cmpSQ (formQ l t) b < 0
    · rw [if_pos h]; exact Ev.pos h (specLessQ_l l m hm hl hp n (t + 1) _ (by omega) (by omega))
    · rw [if_neg h]; exact Ev.neg h (specLessQ_l l m hm hl hp n (t + 1) _ (by omega) (by omega))
theorem specLeastQ_ev (l : List Cube) (n : Nat) (h1 : 1 ≤ n) (hn : n ≤ 1000) (hl : l.length ≤ 1048576) (hp : 0 < l.length) : Ev (fun k => spec_l09Least.f k l (n : Int)) (leastForm l n) := by
  unfold spec_l09Least.f leastForm
  exact Ev.bind (specFormQ_ev l 0 (by omega) (by omega) hl hp) (specLessQ_l l n (by omega) hl hp (n - 1) 1 _ (by omega) (by omega))
theorem implLessQ_l (l : List Cube) (m : Int) (hm : m ≤ 1000) (hl : l.length ≤ 1048576) (hp : 0 < l.length) (ho : ∀ c ∈ l, okQ c) : ∀ (n : Nat) (t : Int) (b : List Cube), 0 ≤ t → t + (n : Int) = m → Ev (fun k => impl_leastSolid.l0 k l m b t) (lessQ l n t b)
  | 0, t, b, h0, h1 => by
    refine Ev.succ ?_
    simp only [impl_leastSolid.l0]
    exact Ev.neg (by omega) (Ev.now _)
  | n + 1, t, b, h0, h1 => by
    refine Ev.succ ?_
    simp only [impl_leastSolid.l0]
    have ew : wrap64 (t + 1) = t + 1 := w64 (by omega) (by omega)
    have hf : small (formQ l t) := by unfold small; rw [formQ_len]; omega
    refine Ev.pos (by omega) (Ev.bind (implFormQ_ev l t h0 (by omega) hl hp ho) (Ev.bind (implCompareQ_ev _ b hf) ?_))
    simp only [ew]
    unfold lessQ
    by_cases h : cmpSQ (formQ l t) b < 0
    · rw [if_pos h]; exact Ev.pos h (implLessQ_l l m hm hl hp ho n (t + 1) _ (by omega) (by omega))
    · rw [if_neg h]; exact Ev.neg h (implLessQ_l l m hm hl hp ho n (t + 1) _ (by omega) (by omega))
def turnsQ (b : Bool) : Nat := if b = true then 48 else 24
theorem implLeastQ_ev (l : List Cube) (b : Bool) (hl : l.length ≤ 1048576) (hp : 0 < l.length) (ho : ∀ c ∈ l, okQ c) : Ev (fun k => impl_leastSolid.f k l b) (leastForm l (turnsQ b)) := by
  unfold impl_leastSolid.f leastForm turnsQ
  refine Ev.of_eq (Ev.if_ (r := lessQ l 47 1 (formQ l 0)) (s := lessQ l 23 1 (formQ l 0)) (fun _ => ?_) (fun _ => ?_)) ?_
  · refine Ev.step (fun k => impl_leastSolid.j0.eq_2 _ _ _) ?_
    exact Ev.bind (implFormQ_ev l 0 (by omega) (by omega) hl hp ho) (implLessQ_l l 48 (by omega) hl hp ho 47 1 _ (by omega) (by omega))
  · refine Ev.step (fun k => impl_leastSolid.j0.eq_2 _ _ _) ?_
    exact Ev.bind (implFormQ_ev l 0 (by omega) (by omega) hl hp ho) (implLessQ_l l 24 (by omega) hl hp ho 23 1 _ (by omega) (by omega))
  · split <;> rfl
def leastR (l : List Cube) (b : Bool) : List Cube × Int := if codeQ l = 0 then (leastForm l (turnsQ b), 0) else ([], codeQ l)
theorem leastR_len (l : List Cube) (b : Bool) : (leastR l b).1.length ≤ l.length := by
  unfold leastR
  split
  · exact leastForm_len _ _
  · simp
theorem specLeastR_ev (l : List Cube) (b : Bool) (hl : l.length ≤ 1048576) : Ev (fun k => spec_LeastForm.f k l b) (leastR l b) := by
  unfold spec_LeastForm.f leastR
  refine Ev.bind (specCodeQ_ev l hl) (Ev.if_ (fun h => ?_) (fun _ => Ev.now _))
  have e : spec_l09Turns.f b = some ((turnsQ b : Nat) : Int) := by cases b <;> rfl
  simp only [e, Option.bind_some]
  exact Ev.bind (specLeastQ_ev l (turnsQ b) (by unfold turnsQ; split <;> decide) (by unfold turnsQ; split <;> decide) hl (solid_pos (codeQ_zero h).1)) (Ev.now _)
theorem implLeastR_ev (l : List Cube) (b : Bool) (hl : l.length ≤ 1048576) : Ev (fun k => impl_LeastForm.f k l b) (leastR l b) := by
  unfold impl_LeastForm.f leastR
  refine Ev.bind (implCodeQ_ev l hl) (Ev.if_ (fun h => ?_) (fun _ => Ev.now _))
  exact Ev.bind (implLeastQ_ev l b hl (solid_pos (codeQ_zero h).1) (solidB_iff.1 (codeQ_zero h).1).1) (Ev.now _)
theorem box_neg {m x : Int} (hm : m ≤ 1000000) (h : -m ≤ x ∧ x ≤ m) : wrap64 (-x) = -x ∧ (-m ≤ -x ∧ -x ≤ m) := ⟨w64 (by omega) (by omega), by omega⟩
theorem rotZ_app {m : Int} (hm : m ≤ 1000000) : ∀ (n : Nat) (p : V3), box3 m p → rotZ n p = app3 (pow3 mZ n) p ∧ box3 m (rotZ n p)
  | 0, p, h => ⟨(app_one3 p).symm, h⟩
  | n + 1, p, h => by
    obtain ⟨h1, h2⟩ := box_neg hm h.2.1
    obtain ⟨h3, h4⟩ := rotZ_app hm n (wrap64 (-p.2.1), p.1, p.2.2) ⟨by rw [h1]; exact h2, h.1, h.2.2⟩
    refine ⟨?_, h4⟩
    show rotZ n (wrap64 (-p.2.1), p.1, p.2.2) = app3 (mul3 (pow3 mZ n) mZ) p
    rw [h3, app_mul3, h1]
    congr 1
    simp only [app3, mZ, Prod.mk.injEq]
    omega
theorem rotX_app {m : Int} (hm : m ≤ 1000000) : ∀ (n : Nat) (p : V3), box3 m p → rotX n p = app3 (pow3 mX n) p
  | 0, p, h => (app_one3 p).symm
  | n + 1, p, h => by
    obtain ⟨h1, h2⟩ := box_neg hm h.2.2
    have h3 := rotX_app hm n (p.1, wrap64 (-p.2.2), p.2.1) ⟨h.1, by rw [h1]; exact h2, h.2.1⟩
    show rotX n (p.1, wrap64 (-p.2.2), p.2.1) = app3 (mul3 (pow3 mX n) mX) p
    rw [h3, app_mul3, h1]
    congr 1
    simp only [app3, mX, Prod.mk.injEq]
    omega
theorem tiltQ_app {m : Int} (hm : m ≤ 1000000) (f : Nat) (p : V3) (h : box3 m p) : tiltQ (f : Int) p = app3 (tilt3 f) p := by
  unfold tiltQ tilt3
  by_cases h4 : f < 4
  · rw [if_pos (by omega), if_pos h4, Int.toNat_natCast]
    exact rotX_app hm f p h
  · rw [if_neg (by omega), if_neg h4]
    by_cases h5 : f = 5
    · rw [if_pos (by omega), if_pos h5, (box_neg hm h.2.2).1]
      simp only [app3, m5, Prod.mk.injEq]
      omega
    · rw [if_neg (by omega), if_neg h5, (box_neg hm h.1).1]
      simp only [app3, m4, Prod.mk.injEq]
      omega
theorem turnE_app {c : Cube} (h : nearQ 1000000 c) (t : Nat) : toV (turnE (t : Int) c) = app3 (mat3 t) (toV c) := by
  show turnQ c (t : Int) = _
  unfold turnQ mat3
  have e1 : (t : Int) / 4 % 6 = ((t / 4 % 6 : Nat) : Int) := by omega
  have e2 : ((t : Int) % 4).toNat = t % 4 := by omega
  rw [e1, e2, app_mul3, app_mul3]
  have key (p : V3) (hp : box3 1000000 p) : tiltQ ((t / 4 % 6 : Nat) : Int) (rotZ (t % 4) p) = app3 (tilt3 (t / 4 % 6)) (app3 (pow3 mZ (t % 4)) p) := by
    obtain ⟨g1, g2⟩ := rotZ_app (Int.le_refl _) (t % 4) p hp
    rw [tiltQ_app (Int.le_refl _) _ _ g2, g1]
  by_cases h4 : t ≥ 24
  · rw [if_pos (by omega), if_pos h4]
    obtain ⟨g1, g2⟩ := box_neg (Int.le_refl _) h.1
    have g1' : wrap64 (-c.f0) = -c.f0 := g1
    rw [g1', key (-c.f0, c.f1, c.f2) ⟨g2, h.2.1, h.2.2⟩]
    congr 2
    simp only [app3, mN, toV, Prod.mk.injEq]
    omega
  · rw [if_neg (by omega), if_neg h4, key (c.f0, c.f1, c.f2) h, app_one3]
    rfl
def shiftQ (v : V3) (c : Cube) : Cube := ⟨c.f0 + v.1, c.f1 + v.2.1, c.f2 + v.2.2⟩
theorem shift_V (v : V3) (c : Cube) : toV (shiftQ v c) = add3 (toV c) v := rfl
theorem shift_lt (v : V3) (a b : Cube) : ltQ (shiftQ v a) (shiftQ v b) ↔ ltQ a b := by
  unfold ltQ shiftQ
  simp only
  omega
def IsMin (f : Cube → Int) (l : List Cube) (v : Int) : Prop := (∀ c ∈ l, v ≤ f c) ∧ ∃ c ∈ l, f c = v
theorem IsMin.eq {f : Cube → Int} {l : List Cube} {v w : Int} (h : IsMin f l v) (h' : IsMin f l w) : v = w := by
  obtain ⟨h1, c, hc, e⟩ := h
  obtain ⟨h2, d, hd, e'⟩ := h'
  have := h1 d hd
  have := h2 c hc
  omega
theorem minQ_spec : ∀ (l : List Cube) (pre : List Cube) (z : Int × Int × Int), IsMin S63.f0 pre z.1 ∧ IsMin S63.f1 pre z.2.1 ∧ IsMin S63.f2 pre z.2.2 → 
    IsMin S63.f0 (pre ++ l) (minQ z l).1 ∧ IsMin S63.f1 (pre ++ l) (minQ z l).2.1 ∧ IsMin S63.f2 (pre ++ l) (minQ z l).2.2
  | [], pre, z, h => by rw [List.append_nil]; exact h
  | c :: r, pre, z, h => by
    have one (f : Cube → Int) (v : Int) (h : IsMin f pre v) : IsMin f (pre ++ [c]) (mn v (f c)) := by
      obtain ⟨h1, d, hd, e⟩ := h
      unfold mn
      refine ⟨fun x hx => ?_, ?_⟩
      · rcases List.mem_append.1 hx with hx | hx
        · have := h1 x hx
          split <;> omega
        · simp at hx
          subst hx
          split <;> omega
      · split
        · exact ⟨c, by simp, by omega⟩
        · exact ⟨d, by simp [hd], by omega⟩
    have := minQ_spec r (pre ++ [c]) (mn z.1 c.f0, mn z.2.1 c.f1, mn z.2.2 c.f2) ⟨one _ _ h.1, one _ _ h.2.1, one _ _ h.2.2⟩
    rw [List.append_assoc] at this
    exact this
theorem leastQ_spec {l : List Cube} (h : l ≠ []) : IsMin S63.f0 l (leastQ l).1 ∧ IsMin S63.f1 l (leastQ l).2.1 ∧ IsMin S63.f2 l (leastQ l).2.2 := by
  cases l with
  | nil => exact absurd rfl h
  | cons c r =>
    have one (f : Cube → Int) : IsMin f [c] (f c) := ⟨fun x hx => by simp at hx; subst hx; exact Int.le_refl _, c, by simp, rfl⟩
    exact minQ_spec r [c] (c.f0, c.f1, c.f2) ⟨one _, one _, one _⟩
theorem IsMin.map {f : Cube → Int} {g : Cube → Cube} {l : List Cube} {v w : Int} (hg : ∀ c, f (g c) = f c + w) (h : IsMin f l v) : IsMin f (l.map g) (v + w) := by
  obtain ⟨h1, d, hd, e⟩ := h
  refine ⟨fun x hx => ?_, g d, List.mem_map.2 ⟨d, hd, rfl⟩, by rw [hg, e]⟩
  obtain ⟨c, hc, rfl⟩ := List.mem_map.1 hx
  have := h1 c hc
  rw [hg]; omega
theorem leastQ_shift {l : List Cube} (h : l ≠ []) (v : V3) : leastQ (l.map (shiftQ v)) = add3 (leastQ l) v := by
  obtain ⟨a1, a2, a3⟩ := leastQ_spec h
  obtain ⟨b1, b2, b3⟩ := leastQ_spec (l := l.map (shiftQ v)) (by simpa using h)
  refine Prod.ext ?_ (Prod.ext ?_ ?_)
  · exact b1.eq (a1.map (g := shiftQ v) fun _ => rfl)
  · exact b2.eq (a2.map (g := shiftQ v) fun _ => rfl)
  · exact b3.eq (a3.map (g := shiftQ v) fun _ => rfl)
theorem normalQ_shift {l : List Cube} (h : l ≠ []) (v : V3) : normalQ (l.map (shiftQ v)) = normalQ l := by
  unfold normalQ
  rw [leastQ_shift h]
  unfold moveQ
  rw [List.map_map]
  refine List.map_congr_left fun c _ => ?_
  simp only [Function.comp, shiftQ, add3]
  rw [show c.f0 + v.1 - ((leastQ l).1 + v.1) = c.f0 - (leastQ l).1 by omega, show c.f1 + v.2.1 - ((leastQ l).2.1 + v.2.1) = c.f1 - (leastQ l).2.1 by omega, show c.f2 + v.2.2 - ((leastQ l).2.2 + v.2.2) = c.f2 - (leastQ l).2.2 by omega]
theorem norm_eqQ {l1 l2 : List Cube} {v : V3} (hp : l1.Perm (l2.map (shiftQ v))) (h : l2 ≠ []) : normalQ (sortC l1) = normalQ (sortC l2) := by
  have e : sortC l1 = (sortC l2).map (shiftQ v) := by
    refine sortQ_eq (((sortQ_perm l2).map _).trans hp.symm) ?_
    rw [List.pairwise_map]
    exact (sortQ_sorted l2).imp fun hab => fun hl => hab ((shift_lt v _ _).1 hl)
  rw [e]
  refine normalQ_shift ?_ v
  intro e2
  have := congrArg List.length e2
  rw [sortQ_len] at this
  exact h (List.length_eq_zero_iff.1 this)
def extQ (l : List Cube) : Prop := ∀ c ∈ l, ∀ d ∈ l, box3 100 (sub3 (toV c) (toV d))
theorem solid_ne {l : List Cube} (h : solidB l = true) : l ≠ [] := by
  intro e
  have := solid_pos h
  rw [e] at this
  simp at this
theorem ext_of {l : List Cube} (h : solidB l = true) (hn : solidB (normalQ l) = true) : extQ l := by
  intro c hc d hd
  obtain ⟨⟨a1, _⟩, ⟨a2, _⟩, ⟨a3, _⟩⟩ := leastQ_spec (solid_ne h)
  have hok := (solidB_iff.1 h).1
  have hok2 := (solidB_iff.1 hn).1
  obtain ⟨_, _, ⟨⟨x, hx, ex⟩, ⟨y, hy, ey⟩, ⟨z, hz, ez⟩⟩⟩ : True ∧ True ∧ (∃ c ∈ l, c.f0 = (leastQ l).1) ∧ (∃ c ∈ l, c.f1 = (leastQ l).2.1) ∧ (∃ c ∈ l, c.f2 = (leastQ l).2.2) := by
    obtain ⟨⟨_, b1⟩, ⟨_, b2⟩, ⟨_, b3⟩⟩ := leastQ_spec (solid_ne h)
    exact ⟨trivial, trivial, b1, b2, b3⟩
  have ox := hok x hx
  have oy := hok y hy
  have oz := hok z hz
  have oc := hok c hc
  have od := hok d hd
  have nc := hok2 _ (List.mem_map.2 ⟨c, hc, rfl⟩)
  have nd := hok2 _ (List.mem_map.2 ⟨d, hd, rfl⟩)
  have := a1 c hc; have := a2 c hc; have := a3 c hc; have := a1 d hd; have := a2 d hd; have := a3 d hd
  unfold okQ ok1 at *
  simp only at nc nd
  rw [w64 (n := c.f0 - (leastQ l).1) (by omega) (by omega), w64 (n := c.f1 - (leastQ l).2.1) (by omega) (by omega), w64 (n := c.f2 - (leastQ l).2.2) (by omega) (by omega)] at nc
  rw [w64 (n := d.f0 - (leastQ l).1) (by omega) (by omega), w64 (n := d.f1 - (leastQ l).2.1) (by omega) (by omega), w64 (n := d.f2 - (leastQ l).2.2) (by omega) (by omega)] at nd
  unfold box3 sub3 toV
  simp only; omega
def negV (v : V3) : V3 := (-v.1, -v.2.1, -v.2.2)
theorem normalQ_val {l : List Cube} (h : l ≠ []) (he : extQ l) : normalQ l = l.map (shiftQ (negV (leastQ l))) ∧ ∀ c ∈ normalQ l, okQ c := by
  obtain ⟨⟨a1, x, hx, ex⟩, ⟨a2, y, hy, ey⟩, ⟨a3, z, hz, ez⟩⟩ := leastQ_spec h
  have hb (c : Cube) (hc : c ∈ l) : okQ (shiftQ (negV (leastQ l)) c) := by
    have h1 := he c hc x hx
    have h2 := he c hc y hy
    have h3 := he c hc z hz
    unfold box3 sub3 toV at h1 h2 h3
    unfold okQ ok1 shiftQ negV
    simp only at *
    omega
  have e : normalQ l = l.map (shiftQ (negV (leastQ l))) := by
    unfold normalQ moveQ
    refine List.map_congr_left fun c hc => ?_
    have := hb c hc
    unfold okQ ok1 shiftQ negV at this
    unfold shiftQ negV
    simp only at *
    rw [w64 (n := c.f0 - (leastQ l).1) (by omega) (by omega), w64 (n := c.f1 - (leastQ l).2.1) (by omega) (by omega), w64 (n := c.f2 - (leastQ l).2.2) (by omega) (by omega)]
    rfl
  refine ⟨e, fun c hc => ?_⟩
  rw [e] at hc
  obtain ⟨d, hd, rfl⟩ := List.mem_map.1 hc
  exact hb d hd
theorem norm_solid {l : List Cube} (h0 : 1 ≤ l.length) (h1 : l.length ≤ 24) (he : extQ l) (hs : l.Pairwise ltQ) : solidB (normalQ l) = true := by
  have hne : l ≠ [] := by intro e; rw [e] at h0; simp at h0
  obtain ⟨e, hok⟩ := normalQ_val hne he
  refine solidB_iff.2 ⟨hok, ?_, by rw [normalQ_len]; exact h0, by rw [normalQ_len]; exact h1⟩
  rw [e, List.pairwise_map]
  exact hs.imp fun hab => (shift_lt _ _ _).2 hab
theorem sub_shift (v p q : V3) : sub3 (add3 p v) (add3 q v) = sub3 p q := by
  unfold sub3 add3
  simp only [Prod.mk.injEq]
  omega
theorem form_move {l : List Cube} (h : codeQ l = 0) {t : Nat} (ht : t < 48) : MoveQ l (formQ l (t : Int)) (fun c => shiftQ (negV (leastQ (sortC (l.map (turnE (t : Int)))))) (turnE (t : Int) c)) ∧ solidB (formQ l (t : Int)) = true ∧ codeQ (formQ l (t : Int)) = 0 ∧ extQ l := by
  obtain ⟨h1, h2⟩ := codeQ_zero h
  obtain ⟨g1, g2, g3, g4⟩ := solidB_iff.1 h1
  have hext := ext_of h1 h2
  have hA := mat_mem ht
  have hnr (c : Cube) (hc : c ∈ l) : nearQ 100 c := nearQ_ok (g1 c hc)
  have hnr2 (c : Cube) (hc : c ∈ l) : nearQ 1000000 c := by
    have := hnr c hc
    unfold nearQ box3 at *; omega
  have hV (c : Cube) (hc : c ∈ l) := turnE_app (hnr2 c hc) t
  have hnd : l.Nodup := g2.imp fun {a b} hab e => by
    subst e
    exact ltQ_irrefl _ hab
  have hinj : ∀ c ∈ l, ∀ d ∈ l, turnE (t : Int) c = turnE (t : Int) d → c = d := fun c hc d hd e => by
    have := congrArg toV e
    rw [hV c hc, hV d hd] at this
    exact toV_inj (mats_inj hA this)
  have hLn : (sortC (l.map (turnE (t : Int)))).Nodup := (sortQ_perm _).nodup_iff.2 (nodup_mapG l hnd hinj)
  have hLs : (sortC (l.map (turnE (t : Int)))).Pairwise ltQ := by
    refine ((sortQ_sorted (l.map (turnE (t : Int)))).and hLn).imp fun {a b} hab => ?_
    by_cases hlt : ltQ a b
    · exact hlt
    · exact absurd (ltQ_total hlt hab.1) hab.2
  have hLe : extQ (sortC (l.map (turnE (t : Int)))) := fun c hc d hd => by
    obtain ⟨c', hc', rfl⟩ := List.mem_map.1 ((sortQ_perm _).mem_iff.1 hc)
    obtain ⟨d', hd', rfl⟩ := List.mem_map.1 ((sortQ_perm _).mem_iff.1 hd)
    rw [hV c' hc', hV d' hd', ← app_sub3]
    exact mats_box hA (hext c' hc' d' hd')
  have hl1 : 1 ≤ (sortC (l.map (turnE (t : Int)))).length := by rw [sortQ_len, List.length_map]; exact g3
  have hl2 : (sortC (l.map (turnE (t : Int)))).length ≤ 24 := by rw [sortQ_len, List.length_map]; exact g4
  have hLne : sortC (l.map (turnE (t : Int))) ≠ [] := by intro e; rw [e] at hl1; simp at hl1
  obtain ⟨hv, hok⟩ := normalQ_val hLne hLe
  have hx := norm_solid hl1 hl2 hLe hLs
  have hxe : formQ l (t : Int) = (sortC (l.map (turnE (t : Int)))).map (shiftQ (negV (leastQ (sortC (l.map (turnE (t : Int))))))) := hv
  have hp : (formQ l (t : Int)).Perm (l.map fun c => shiftQ (negV (leastQ (sortC (l.map (turnE (t : Int)))))) (turnE (t : Int) c)) := by
    rw [hxe]
    refine ((sortQ_perm _).map _).trans ?_
    rw [List.map_map]
    exact List.Perm.refl _
  have hxs : solidB (formQ l (t : Int)) = true := hx
  have hxext : extQ (formQ l (t : Int)) := fun c hc d hd => by
    rw [hxe] at hc hd
    obtain ⟨c', hc', rfl⟩ := List.mem_map.1 hc
    obtain ⟨d', hd', rfl⟩ := List.mem_map.1 hd
    rw [shift_V, shift_V, sub_shift]
    exact hLe c' hc' d' hd'
  obtain ⟨x1, x2, x3, x4⟩ := solidB_iff.1 hxs
  have hxn := norm_solid x3 x4 hxext x2
  refine ⟨⟨fun c hc => ?_, fun c hc => ?_, fun c hc d hd e => ?_, fun c hc d hd => ?_, hp⟩, hxs, ?_, hext⟩
  · have := hnr c hc
    unfold nearQ box3 at *; omega
  · have := nearQ_ok (x1 _ (hp.mem_iff.2 (List.mem_map.2 ⟨c, hc, rfl⟩)))
    unfold nearQ box3 at *; omega
  · have := congrArg toV e
    simp only [shift_V] at this
    refine hinj c hc d hd (toV_inj ?_)
    unfold add3 at this
    simp only [Prod.mk.injEq] at this
    exact Prod.ext (by omega) (Prod.ext (by omega) (by omega))
  · have n1 : nearQ 1000 c := by
      have := hnr c hc
      unfold nearQ box3 at *; omega
    have n2 : nearQ 1000 (shiftQ (negV (leastQ (sortC (l.map (turnE (t : Int)))))) (turnE (t : Int) c)) := by
      have := nearQ_ok (x1 _ (hp.mem_iff.2 (List.mem_map.2 ⟨c, hc, rfl⟩)))
      unfold nearQ box3 at *; omega
    rw [nbQ_adj n1, nbQ_adj n2, mats_adj hA, shift_V, shift_V, hV c hc, hV d hd]
    unfold adj3
    rw [sub_shift]
  · unfold codeQ
    rw [if_pos hxs, if_pos hxn]
theorem form_form {l : List Cube} (h : codeQ l = 0) {t s u : Nat} (ht : t < 48) (e : mul3 (mat3 s) (mat3 t) = mat3 u) : formQ (formQ l (t : Int)) (s : Int) = formQ l (u : Int) := by
  obtain ⟨hm, hxs, hxc, hext⟩ := form_move h ht
  obtain ⟨h1, _⟩ := codeQ_zero h
  have g1 := (solidB_iff.1 h1).1
  have x1 := (solidB_iff.1 hxs).1
  have hnr (c : Cube) (hc : c ∈ l) : nearQ 1000000 c := by
    have := nearQ_ok (g1 c hc)
    unfold nearQ box3 at *; omega
  show normalQ (sortC ((formQ l (t : Int)).map (turnE (s : Int)))) = normalQ (sortC (l.map (turnE (u : Int))))
  refine norm_eqQ (v := app3 (mat3 s) (negV (leastQ (sortC (l.map (turnE (t : Int))))))) ?_ ?_
  · refine (hm.perm.map (turnE (s : Int))).trans ?_
    rw [List.map_map, List.map_map]
    refine List.Perm.of_eq (List.map_congr_left fun c hc => toV_inj ?_)
    have hn2 : nearQ 1000000 (shiftQ (negV (leastQ (sortC (l.map (turnE (t : Int)))))) (turnE (t : Int) c)) := by
      have := nearQ_ok (x1 _ (hm.perm.mem_iff.2 (List.mem_map.2 ⟨c, hc, rfl⟩)))
      unfold nearQ box3 at *; omega
    simp only [Function.comp]
    rw [turnE_app hn2, shift_V, shift_V, turnE_app (hnr c hc), turnE_app (hnr c hc), app_add3, ← app_mul3, e]
  · simpa using solid_ne h1
theorem cmpLQ_le_trans : ∀ (a b c : List Cube), a.length = b.length → b.length = c.length → cmpLQ a b ≤ 0 → cmpLQ b c ≤ 0 → cmpLQ a c ≤ 0
  | [], _, _, _, _, _, _ => by simp [cmpLQ]
  | x :: r, [], c, h1, _, _, _ => by simp at h1
  | x :: r, y :: s, [], _, h2, _, _ => by simp at h2
  | x :: r, y :: s, z :: t, h1, h2, h3, h4 => by
    unfold cmpLQ at h3 h4 ⊢
    by_cases c1 : ltQ x y
    · by_cases c2 : ltQ y z
      · rw [if_pos (ltQ_trans c1 c2)]; omega
      · rw [if_neg c2] at h4
        by_cases c3 : ltQ z y
        · rw [if_pos c3] at h4; omega
        · rw [← ltQ_total c2 c3, if_pos c1]; omega
    · rw [if_neg c1] at h3
      by_cases c2 : ltQ y x
      · rw [if_pos c2] at h3; omega
      · rw [if_neg c2] at h3
        have exy := ltQ_total c1 c2
        subst exy
        by_cases c3 : ltQ x z
        · rw [if_pos c3]; omega
        · rw [if_neg c3] at h4 ⊢
          by_cases c4 : ltQ z x
          · rw [if_pos c4] at h4; omega
          · rw [if_neg c4] at h4 ⊢
            exact cmpLQ_le_trans r s t (by simpa using h1) (by simpa using h2) h3 h4
theorem cmpLQ_anti : ∀ (a b : List Cube), cmpLQ b a = - cmpLQ a b
  | [], [] => rfl
  | [], _ :: _ => rfl
  | _ :: _, [] => rfl
  | x :: r, y :: s => by
    unfold cmpLQ
    by_cases c1 : ltQ x y
    · have c2 : ¬ ltQ y x := fun h => ltQ_irrefl _ (ltQ_trans c1 h)
      simp [c1, c2]
    · by_cases c2 : ltQ y x
      · simp [c1, c2]
      · simp only [c1, c2, if_false]
        exact cmpLQ_anti r s
theorem cmpSQ_anti (a b : List Cube) : cmpSQ b a = - cmpSQ a b := by
  unfold cmpSQ
  by_cases h : a.length = b.length
  · rw [if_pos h, if_pos h.symm]; exact cmpLQ_anti a b
  · rw [if_neg h, if_neg (fun e => h e.symm)]
    by_cases h2 : a.length < b.length
    · rw [if_pos h2, if_neg (by omega)]; rfl
    · rw [if_neg h2, if_pos (by omega)]
theorem lessQ_min (l : List Cube) : ∀ (n : Nat) (t : Nat) (b : List Cube), b.length = l.length →
    (lessQ l n (t : Int) b = b ∨ ∃ u : Nat, t ≤ u ∧ u < t + n ∧ lessQ l n (t : Int) b = formQ l (u : Int)) ∧ cmpSQ (lessQ l n (t : Int) b) b ≤ 0 ∧ (∀ u : Nat, t ≤ u → u < t + n → cmpSQ (lessQ l n (t : Int) b) (formQ l (u : Int)) ≤ 0) ∧ (lessQ l n (t : Int) b).length = l.length
  | 0, t, b, hb => ⟨.inl rfl, by have := (cmpSQ_zero b b).2 rfl; simp only [lessQ]; omega, fun u _ _ => by omega, hb⟩
  | n + 1, t, b, hb => by
    have tr (a b c : List Cube) (ha : a.length = l.length) (hb : b.length = l.length) (hc : c.length = l.length) (h1 : cmpSQ a b ≤ 0) (h2 : cmpSQ b c ≤ 0) : cmpSQ a c ≤ 0 := by
      unfold cmpSQ at *
      rw [if_pos (by omega)] at h1 h2 ⊢
      exact cmpLQ_le_trans a b c (by omega) (by omega) h1 h2
    have hf : (formQ l (t : Int)).length = l.length := formQ_len l _
    unfold lessQ
    have e : (t : Int) + 1 = ((t + 1 : Nat) : Int) := by omega
    rw [e]
    by_cases h : cmpSQ (formQ l (t : Int)) b < 0
    · rw [if_pos h]
      obtain ⟨h1, h2, h3, h4⟩ := lessQ_min l n (t + 1) (formQ l (t : Int)) hf
      refine ⟨.inr ?_, tr _ _ _ h4 hf hb h2 (by omega), fun u hu hu2 => ?_, h4⟩
      · rcases h1 with h1 | ⟨u, hu, hu2, h1⟩
        · exact ⟨t, Nat.le_refl _, by omega, h1⟩
        · exact ⟨u, by omega, by omega, h1⟩
      · by_cases hut : u = t
        · subst hut; exact h2
        · exact h3 u (by omega) (by omega)
    · rw [if_neg h]
      obtain ⟨h1, h2, h3, h4⟩ := lessQ_min l n (t + 1) b hb
      refine ⟨?_, h2, fun u hu hu2 => ?_, h4⟩
      · rcases h1 with h1 | ⟨u, hu, hu2, h1⟩
        · exact .inl h1
        · exact .inr ⟨u, by omega, by omega, h1⟩
      · by_cases hut : u = t
        · subst hut
          refine tr _ _ _ h4 hb hf h2 ?_
          rw [cmpSQ_anti]; omega
        · exact h3 u (by omega) (by omega)
theorem leastForm_min (l : List Cube) : (∃ u : Nat, u < 48 ∧ leastForm l 48 = formQ l (u : Int)) ∧ ∀ u : Nat, u < 48 → cmpSQ (leastForm l 48) (formQ l (u : Int)) ≤ 0 := by
  obtain ⟨h1, h2, h3, h4⟩ := lessQ_min l 47 1 (formQ l 0) (formQ_len l 0)
  refine ⟨?_, fun u hu => ?_⟩
  · rcases h1 with h1 | ⟨u, hu, hu2, h1⟩
    · exact ⟨0, by omega, h1⟩
    · exact ⟨u, by omega, h1⟩
  · by_cases h0 : u = 0
    · subst h0; exact h2
    · exact h3 u (by omega) (by omega)
theorem leastForm_form {l : List Cube} (h : codeQ l = 0) {t : Nat} (ht : t < 48) : leastForm (formQ l (t : Int)) 48 = leastForm l 48 := by
  obtain ⟨⟨u, hu, e1⟩, m1⟩ := leastForm_min l
  obtain ⟨⟨v, hv, e2⟩, m2⟩ := leastForm_min (formQ l (t : Int))
  refine (cmpSQ_zero _ _).1 ?_
  have a1 : cmpSQ (leastForm (formQ l (t : Int)) 48) (leastForm l 48) ≤ 0 := by
    obtain ⟨B, hB, eB⟩ := mats_div (mat_mem ht) (mat_mem hu)
    obtain ⟨s, hs, rfl⟩ := mats_at hB
    have := m2 s hs
    rw [form_form h ht eB] at this
    rw [e1]; exact this
  have a2 : cmpSQ (leastForm l 48) (leastForm (formQ l (t : Int)) 48) ≤ 0 := by
    obtain ⟨w, hw, ew⟩ := mats_at (mats_mul _ (mat_mem hv) _ (mat_mem ht))
    have := m1 w hw
    rw [e2, form_form h ht ew.symm]; exact this
  rw [cmpSQ_anti] at a2
  omega
def cubeR (l : List Cube) (t : Int) : List Cube × Int := if solidB l = true then (if 0 ≤ t ∧ t ≤ 47 then (if codeQ l = 0 then (formQ l t, 0) else ([], codeQ l)) else ([], 2)) else ([], 1)
theorem cubeR_len (l : List Cube) (t : Int) : (cubeR l t).1.length ≤ l.length := by
  unfold cubeR
  split
  · split
    · split
      · rw [formQ_len]; exact Nat.le_refl _
      · simp
    · simp
  · simp
theorem specCubeR_ev (l : List Cube) (t : Int) (hl : l.length ≤ 1048576) : Ev (fun k => spec_CubeForm.f k l t) (cubeR l t) := by
  unfold spec_CubeForm.f cubeR
  refine Ev.bind (specCodeQ_ev l hl) ?_
  by_cases hs : solidB l = true
  · have hc : codeQ l ≠ 1 := by unfold codeQ; rw [if_pos hs]; split <;> decide
    rw [if_pos hs]
    simp only [in_eq, Option.bind_some]
    refine Ev.neg hc (Ev.step (fun k => spec_CubeForm.j0.eq_2 _ _ _ _ _) ?_)
    by_cases ht : 0 ≤ t ∧ t ≤ 47
    · rw [if_pos ht]
      refine Ev.neg (by simp [ht]) ?_
      by_cases h0 : codeQ l = 0
      · rw [if_pos h0]
        exact Ev.pos h0 (Ev.bind (specFormQ_ev l t ht.1 (by omega) hl (solid_pos hs)) (Ev.now _))
      · rw [if_neg h0]
        exact Ev.neg h0 (Ev.now _)
    · rw [if_neg ht]
      exact Ev.pos (by simp [ht]) (Ev.neg (by decide) (Ev.now _))
  · have hc : codeQ l = 1 := by unfold codeQ; rw [if_neg hs]
    rw [if_neg hs]
    refine Ev.pos hc (Ev.step (fun k => spec_CubeForm.j0.eq_2 _ _ _ _ _) ?_)
    refine Ev.neg (by simp) (Ev.neg (by omega) (Ev.of_eq (Ev.now _) ?_))
    rw [hc]
theorem implCubeR_ev (l : List Cube) (t : Int) (hl : l.length ≤ 1048576) : Ev (fun k => impl_CubeForm.f k l t) (cubeR l t) := by
  have hs : small l := by unfold small; omega
  unfold impl_CubeForm.f cubeR
  refine Ev.bind (implSolid_ev l hs) (Ev.if_ (fun h => ?_) (fun _ => Ev.now _))
  simp only [within_eq, Option.bind_some, decide_eq_true_eq]
  refine Ev.if_ (fun ht => ?_) (fun _ => Ev.now _)
  refine Ev.bind (implCodeQ_ev l hl) (Ev.if_ (fun h0 => ?_) (fun _ => Ev.now _))
  exact Ev.bind (implFormQ_ev l t ht.1 (by omega) hl (solid_pos h) (solidB_iff.1 h).1) (Ev.now _)
structure Src (cs : List Int) (a s : Int) : Prop where
  at0 : 0 ≤ a
  at1 : a ≤ (cs.length : Int)
  sd0 : 0 ≤ s
  sd1 : s < 2147483647
  len : cs.length ≤ 1000000000000000000
  byte : ∀ x ∈ cs, 0 ≤ x ∧ x ≤ 255
theorem rd_byte {cs : List Int} {a s : Int} (h : Src cs a s) (i : Int) (h0 : 0 ≤ i) (h1 : i < (cs.length : Int)) : 0 ≤ rd cs i ∧ rd cs i ≤ 255 := by
  unfold rd
  obtain ⟨n, rfl⟩ : ∃ n : Nat, i = (n : Int) := ⟨i.toNat, by omega⟩
  have hn : n < cs.length := by omega
  have e : cs.getD (n : Int).toNat 0 = cs[n] := by simp [List.getD, hn]
  rw [e]
  exact h.byte _ (List.getElem_mem hn)
theorem next_ex {cs : List Int} {a s : Int} (h : Src cs a s) (n : Int) (hn : n ≤ 1000000000000) : ∃ v a' s', spec_l01Next.f cs a s n = some (v, a', s') ∧ Src cs a' s' ∧ 0 ≤ v ∧ (1 ≤ n → v < n) := by
  have ⟨h0, h1, h2, h3, h4, h5⟩ := h
  unfold spec_l01Next.f
  by_cases hn1 : n ≤ 1
  · rw [if_pos hn1]
    exact ⟨_, _, _, rfl, h, by omega, by omega⟩
  · rw [if_neg hn1]
    have ew : wrap64 ((wrap64 (s * 48271)) + 29) = s * 48271 + 29 := by rw [w64 (n := s * 48271) (by omega) (by omega), w64 (by omega) (by omega)]
    have em : Int.tmod (s * 48271 + 29) 2147483647 = (s * 48271 + 29) % 2147483647 := Int.tmod_eq_emod_of_nonneg (by omega)
    have hs0 : 0 ≤ (s * 48271 + 29) % 2147483647 := Int.emod_nonneg _ (by omega)
    have hs1 : (s * 48271 + 29) % 2147483647 < 2147483647 := Int.emod_lt_of_pos _ (by omega)
    rw [ew, em]
    generalize (s * 48271 + 29) % 2147483647 = s' at hs0 hs1 ⊢
    have et : Int.tdiv s' 31 = s' / 31 := Int.tdiv_eq_ediv_of_nonneg hs0
    rw [et, w64 (n := s' / 31) (by omega) (by omega)]
    have tm (x : Int) (hx : 0 ≤ x) : 0 ≤ Int.tmod x n ∧ Int.tmod x n < n := by
      rw [Int.tmod_eq_emod_of_nonneg hx]
      exact ⟨Int.emod_nonneg _ (by omega), Int.emod_lt_of_pos _ (by omega)⟩
    by_cases ha : a < (cs.length : Int)
    · have ea : wrap64 (a + 1) = a + 1 := w64 (by omega) (by omega)
      have hr := rd_byte h a h0 ha
      have e1 : wrap64 (rd cs a) = rd cs a := w64 (by omega) (by omega)
      have e2 : wrap64 (a + 1 - 1) = a := by rw [w64 (by omega) (by omega)]; omega
      have e3 : wrap64 (s' / 31 + rd cs a) = s' / 31 + rd cs a := w64 (by omega) (by omega)
      have hS : Src cs (a + 1) s' := ⟨by omega, by omega, hs0, hs1, h4, h5⟩
      rw [if_pos ha, if_pos h0, ea, e1, e2, e1, e3, if_pos h0, if_pos ha, if_neg (by omega : ¬ n = 0)]
      repeat' split
      all_goals first
        | exact ⟨_, _, _, rfl, hS, (tm _ (by omega)).1, fun _ => (tm _ (by omega)).2⟩
        | omega
    · have hS : Src cs a s' := ⟨by omega, by omega, hs0, hs1, h4, h5⟩
      rw [if_neg ha, if_neg (by omega : ¬ n = 0)]
      have := tm (s' / 31) (by omega)
      exact ⟨_, _, _, rfl, hS, this.1, fun _ => this.2⟩
def Ex {α : Type} (g : Nat → Option α) (P : α → Prop) : Prop := ∃ r, Ev g r ∧ P r
theorem Ex.now {α : Type} {P : α → Prop} {r : α} (h : P r) : Ex (fun _ => some r) P := ⟨r, Ev.now _, h⟩
theorem Ex.mono {α : Type} {g : Nat → Option α} {P Q : α → Prop} (h : Ex g P) (hi : ∀ r, P r → Q r) : Ex g Q := by
  obtain ⟨r, h1, h2⟩ := h
  exact ⟨r, h1, hi r h2⟩
theorem Ex.bind {α β : Type} {g : Nat → Option α} {f : Nat → α → Option β} {P : α → Prop} {Q : β → Prop} (h : Ex g P) (k : ∀ a, P a → Ex (fun n => f n a) Q) : Ex (fun n => (g n).bind (f n)) Q := by
  obtain ⟨a, h1, h2⟩ := h
  obtain ⟨b, h3, h4⟩ := k a h2
  exact ⟨b, Ev.bind h1 h3, h4⟩
theorem Ex.bindE {α β : Type} {g : Nat → Option α} {f : Nat → α → Option β} {a : α} {Q : β → Prop} (h : Ev g a) (k : Ex (fun n => f n a) Q) : Ex (fun n => (g n).bind (f n)) Q := by
  obtain ⟨b, h3, h4⟩ := k
  exact ⟨b, Ev.bind h h3, h4⟩
theorem Ex.bind0 {α β : Type} {o : Option α} {f : Nat → α → Option β} {a : α} {Q : β → Prop} (h : o = some a) (k : Ex (fun n => f n a) Q) : Ex (fun n => o.bind (f n)) Q := by
  subst h
  exact k
theorem Ex.pos {α : Type} {c : Prop} [Decidable c] {f g : Nat → Option α} {P : α → Prop} (h : c) (e : Ex f P) : Ex (fun k => if c then f k else g k) P := by
  obtain ⟨r, h1, h2⟩ := e
  exact ⟨r, Ev.pos h h1, h2⟩
theorem Ex.neg {α : Type} {c : Prop} [Decidable c] {f g : Nat → Option α} {P : α → Prop} (h : ¬ c) (e : Ex g P) : Ex (fun k => if c then f k else g k) P := by
  obtain ⟨r, h1, h2⟩ := e
  exact ⟨r, Ev.neg h h1, h2⟩
theorem Ex.if_ {α : Type} {c : Prop} [Decidable c] {f g : Nat → Option α} {P : α → Prop} (h : c → Ex f P) (h' : ¬ c → Ex g P) : Ex (fun k => if c then f k else g k) P := by
  by_cases hc : c
  · exact Ex.pos hc (h hc)
  · exact Ex.neg hc (h' hc)
theorem Ex.succ {α : Type} {g : Nat → Option α} {P : α → Prop} (h : Ex (fun k => g (k + 1)) P) : Ex g P := by
  obtain ⟨r, h1, h2⟩ := h
  exact ⟨r, Ev.succ h1, h2⟩
theorem Ex.next {β : Type} {cs : List Int} {a s : Int} (h : Src cs a s) (n : Int) (hn : n ≤ 1000000000000) {f : Nat → Int × Int × Int → Option β} {Q : β → Prop}
    (k : ∀ v a' s', Src cs a' s' → 0 ≤ v → (1 ≤ n → v < n) → Ex (fun q => f q (v, a', s')) Q) : Ex (fun q => (spec_l01Next.f cs a s n).bind (f q)) Q := by
  obtain ⟨v, a', s', e, h1, h2, h3⟩ := next_ex h n hn
  exact Ex.bind0 e (k v a' s' h1 h2 h3)
theorem from_l (cs : List Int) (hl : cs.length ≤ 1000000000000000000) (hb : ∀ x ∈ cs, 0 ≤ x ∧ x ≤ 255) : ∀ (q i : Nat) (s : Int), i + q = min cs.length 64 → 0 ≤ s → s < 2147483647 →
    Ex (fun k => spec_l01From.l0 k cs (i : Int) cs 0 s) fun r => r.1 = cs ∧ r.2.1 = 0 ∧ Src cs 0 r.2.2
  | 0, i, s, hi, h0, h1 => by
    refine Ex.succ ?_
    simp only [spec_l01From.l0]
    have hS : Src cs 0 s := ⟨by omega, by omega, h0, h1, hl, hb⟩
    refine Ex.if_ (fun _ => Ex.neg (by omega) (Ex.now ⟨rfl, rfl, hS⟩)) (fun _ => Ex.now ⟨rfl, rfl, hS⟩)
  | q + 1, i, s, hi, h0, h1 => by
    refine Ex.succ ?_
    simp only [spec_l01From.l0]
    have hS : Src cs 0 s := ⟨by omega, by omega, h0, h1, hl, hb⟩
    have hr := rd_byte hS (i : Int) (by omega) (by omega)
    have ei : wrap64 ((i : Int) + 1) = ((i + 1 : Nat) : Int) := by rw [w64 (by omega) (by omega)]; omega
    have es : Int.tmod (wrap64 ((wrap64 (s * 47)) + (wrap64 (rd cs (i : Int))))) 2147483647 = (s * 47 + rd cs (i : Int)) % 2147483647 := by
      rw [w64 (n := s * 47) (by omega) (by omega), w64 (n := rd cs (i : Int)) (by omega) (by omega), w64 (by omega) (by omega), Int.tmod_eq_emod_of_nonneg (by omega)]
    rw [ei, es]
    exact Ex.pos (by omega) (Ex.pos (by omega) (Ex.pos (by omega) (from_l cs hl hb q (i + 1) _ (by omega) (Int.emod_nonneg _ (by omega)) (Int.emod_lt_of_pos _ (by omega)))))
theorem from_ex (cs : List Int) (hl : cs.length ≤ 1000000000000000000) (hb : ∀ x ∈ cs, 0 ≤ x ∧ x ≤ 255) : Ex (fun k => spec_l01From.f k cs) fun r => r.1 = cs ∧ r.2.1 = 0 ∧ Src cs 0 r.2.2 := by
  unfold spec_l01From.f
  exact from_l cs hl hb (min cs.length 64) 0 61003 (by omega) (by omega) (by omega)
theorem d09_l1 (cs : List Int) : ∀ (q i : Nat) (l : List Cube) (a s : Int), i + q = 26 → l.length = i → Src cs a s → Ex (fun k => spec_l09Draw.l1 k l (i : Int) cs a s) fun r => r.1.length ≤ 100 ∧ Src cs r.2.1 r.2.2
  | q, i, l, a, s, hi, hl, hS => by
    refine Ex.succ ?_
    simp only [spec_l09Draw.l1]
    refine Ex.next hS 2 (by omega) fun v a' s' hS' hv0 hv1 => ?_
    have hv := hv1 (by omega)
    have ew : wrap64 (24 + v) = 24 + v := w64 (by omega) (by omega)
    have ei : wrap64 ((i : Int) + 1) = ((i + 1 : Nat) : Int) := by rw [w64 (by omega) (by omega)]; omega
    simp only [ew, ei]
    match q, hi with
    | 0, hi => exact Ex.neg (by omega) (Ex.now ⟨by simp only; omega, hS'⟩)
    | q + 1, hi =>
      exact Ex.if_ (fun _ => Ex.pos (by omega) (d09_l1 cs q (i + 1) _ a' s' (by omega) (by simp [hl]) hS')) (fun _ => Ex.now ⟨by simp only; omega, hS'⟩)
theorem add9_eq (a b : Cube) : spec_l09Add.f a.f0 a.f1 a.f2 b.f0 b.f1 b.f2 = some ((addQ a b).f0, (addQ a b).f1, (addQ a b).f2) := rfl
theorem d09_l0 (cs : List Int) : ∀ (q n : Nat) (l : List Cube) (a s : Int), q + n ≤ 40 → l.length ≤ n → 1 ≤ l.length → Src cs a s →
    Ex (fun k => spec_l09Draw.l0 k l (q : Int) cs a s) fun r => r.1.length ≤ 100 ∧ Src cs r.2.1 r.2.2
  | q + 1, n, l, a, s, hq, hl, h1, hS => by
    refine Ex.succ ?_
    simp only [spec_l09Draw.l0]
    have ew : wrap64 (((q + 1 : Nat) : Int) - 1) = (q : Int) := by rw [w64 (by omega) (by omega)]; omega
    refine Ex.pos (by omega) (Ex.next hS (l.length : Int) (by omega) fun v a1 s1 hS1 hv0 hv1 => ?_)
    have := hv1 (by omega)
    refine Ex.pos hv0 (Ex.pos (by simp only; omega) (Ex.bind0 steps_eq (Ex.next hS1 6 (by omega) fun u a2 s2 hS2 hu0 hu1 => ?_)))
    have := hu1 (by omega)
    have h6 : stepsQ.length = 6 := rfl
    refine Ex.pos hu0 (Ex.pos (by simp only; omega) (Ex.bind0 (add9_eq _ _) (Ex.bindE (specIndexQ_ev l (addQ _ _) (by unfold small; omega)) ?_)))
    simp only [ew]
    refine Ex.if_ (fun _ => ?_) (fun _ => d09_l0 cs q n l a2 s2 (by omega) hl h1 hS2)
    refine Ex.pos (by omega) (Ex.bindE (specSort0_ev _ (by simp; omega)) ?_)
    have hp := (insAllQ_perm (l ++ [addQ (rd_T63 l v) (rd_T63 stepsQ u)]) []).length_eq
    simp only [List.nil_append, List.length_append, List.length_singleton] at hp
    exact d09_l0 cs q (n + 1) _ a2 s2 (by omega) (by rw [hp]; omega) (by rw [hp]; omega) hS2
  | 0, n, l, a, s, hq, hl, h1, hS => by
    refine Ex.succ ?_
    simp only [spec_l09Draw.l0]
    refine Ex.neg (by simp) (Ex.next hS (l.length : Int) (by omega) fun v a1 s1 hS1 hv0 hv1 => Ex.next hS1 24 (by omega) fun u a2 s2 hS2 hu0 hu1 => ?_)
    have hv := hv1 (by omega)
    have el : wrap64 ((l.length : Int) - 1) = (l.length : Int) - 1 := w64 (by omega) (by omega)
    refine Ex.if_ (fun _ => ?_) (fun _ => Ex.if_ (fun _ => ?_) (fun _ => Ex.if_ (fun _ => ?_) (fun _ => Ex.if_ (fun _ => ?_) (fun _ => Ex.if_ (fun _ => ?_) (fun _ => Ex.if_ (fun _ => ?_) (fun _ => ?_))))))
    · refine Ex.bind0 rfl (Ex.next hS2 3 (by omega) fun t a3 s3 hS3 ht0 ht1 => ?_)
      have := ht1 (by omega)
      refine Ex.pos ht0 (Ex.pos (by simp only [List.length_cons, List.length_nil]; omega) (Ex.pos hv0 (Ex.pos (by simp only; omega) (Ex.bindE (specSort0_ev _ (by simp; omega)) (Ex.now ⟨?_, hS3⟩)))))
      have hp := (insAllQ_perm (l.set v.toNat ⟨(rd_T63 l v).f0, (rd_T63 l v).f1, rd [(-100), 100, 101] t⟩) []).length_eq
      simp only [List.nil_append, List.length_set] at hp
      show (insAllQ [] _).length ≤ 100
      rw [hp]; omega
    · exact Ex.pos hv0 (Ex.pos (by simp only; omega) (Ex.pos (by omega) (Ex.now ⟨by simp; omega, hS2⟩)))
    · exact Ex.now ⟨by simp, hS2⟩
    · rw [el]
      exact Ex.pos (by omega) (Ex.pos (by omega) (Ex.pos (by omega) (Ex.now ⟨by simp; omega, hS2⟩)))
    · exact d09_l1 cs 26 0 [] a2 s2 (by omega) rfl hS2
    · exact Ex.next hS2 2 (by omega) fun t a3 s3 hS3 ht0 ht1 => Ex.now ⟨by simp, hS3⟩
    · exact Ex.now ⟨by simp only; omega, hS2⟩
theorem draw09_ex {cs : List Int} {a s : Int} (h : Src cs a s) : Ex (fun k => spec_l09Draw.f k cs a s) fun r => r.1.length ≤ 100 ∧ Src cs r.2.1 r.2.2 := by
  unfold spec_l09Draw.f
  refine Ex.next h 5 (by omega) fun v1 a1 s1 h1 _ _ => Ex.next h1 5 (by omega) fun v2 a2 s2 h2 _ _ => Ex.next h2 5 (by omega) fun v3 a3 s3 h3 _ _ => Ex.next h3 7 (by omega) fun v4 a4 s4 h4 g0 g1 => ?_
  have := g1 (by omega)
  obtain ⟨q, rfl⟩ : ∃ q : Nat, v4 = (q : Int) := ⟨v4.toNat, by omega⟩
  exact d09_l0 cs q 1 _ a4 s4 (by omega) (by simp) (by simp) h4
end Go.Proofs.Ytonldmalaajkgaa.L
end
section
namespace Go.Proofs.Ytonldmalaajkgaa.L
open Go.RowKit Go.Proofs.YtonldmalaajkgaaW.PrintWords Go.Proofs.YtonldmalaajkgaaW.PrintLast Go.Proofs.YtonldmalaajkgaaW.PrintMore Go.Proofs.Ytonldmalaajkgaa.F
set_option linter.unusedVariables false
set_option linter.unusedSimpArgs false
theorem likeQ_ev (a : List Cube) (hs : small a) : Ev (fun k => laws_likeCubes.f k a a) true := by
  unfold laws_likeCubes.f
  refine Ev.pos rfl ?_
  refine loop_list a (fun k i (_ : Unit) => laws_likeCubes.l0 k a a i) (fun _ _ _ => true) (fun _ _ => True) ?_ ?_ () trivial
  · intro _ _
    simp only [laws_likeCubes.l0, len_lt, if_false]
    exact Ev.now _
  · intro pre d suf _ hx _ ih
    simp only [laws_likeCubes.l0, pre_lt hx, pre_0, if_true, at_preQ hx, pre_w hx hs]
    exact Ev.neg (by simp) (ih () trivial)
theorem drawForm_ex (cs : List Int) (hl : cs.length ≤ 1000000000000000000) (hb : ∀ x ∈ cs, 0 ≤ x ∧ x ≤ 255) : Ex (fun k => spec_DrawCubeForm.f k cs) fun r => r.1.length ≤ 100 := by
  unfold spec_DrawCubeForm.f
  refine Ex.bind (from_ex cs hl hb) fun ⟨c1, a1, s1⟩ ⟨e1, e2, h1⟩ => ?_
  simp only at e1 e2 h1
  subst e1 e2
  refine Ex.bind (draw09_ex h1) fun r ⟨hr, h2⟩ => ?_
  refine Ex.next h2 16 (by omega) fun v a s h _ _ => ?_
  refine Ex.if_ (fun _ => Ex.bind0 rfl (Ex.next h 2 (by omega) fun u a2 s2 h3 g0 g1 => ?_)) (fun _ => Ex.next h 48 (by omega) fun u a2 s2 h3 _ _ => Ex.now hr)
  have := g1 (by omega)
  exact Ex.pos g0 (Ex.pos (by simp only [List.length_cons, List.length_nil]; omega) (Ex.now hr))
theorem drawLeast_ex (cs : List Int) (hl : cs.length ≤ 1000000000000000000) (hb : ∀ x ∈ cs, 0 ≤ x ∧ x ≤ 255) : Ex (fun k => spec_DrawLeastForm.f k cs) fun r => r.1.length ≤ 100 := by
  unfold spec_DrawLeastForm.f
  refine Ex.bind (from_ex cs hl hb) fun ⟨c1, a1, s1⟩ ⟨e1, e2, h1⟩ => ?_
  simp only at e1 e2 h1
  subst e1 e2
  exact Ex.bind (draw09_ex h1) fun r ⟨hr, h2⟩ => Ex.next h2 2 (by omega) fun v a s h _ _ => Ex.now hr
end Go.Proofs.Ytonldmalaajkgaa.L
namespace Go.Proofs.Ytonldmalaajkgaa.Pure
open Go.RowKit Go.Proofs.YtonldmalaajkgaaW.PrintWords Go.Proofs.Ytonldmalaajkgaa.F Go.Proofs.Ytonldmalaajkgaa.L
set_option linter.unusedVariables false
theorem FnSolids (l0 : List Int) (hv0 : l0.length ≤ 9223372036854775807 ∧ ∀ x ∈ l0, (Lit.int .u8 x).wf = true) : ∃ k, laws_FnSolids.f k l0 = some true := by
  refine Ev.rounds ?_
  obtain ⟨hm, hv⟩ := hv0
  have hb : ∀ x ∈ l0, 0 ≤ x ∧ x ≤ 255 := fun x hx => by
    have := hv x hx
    have m0 : IntKind.u8.min = 0 := by decide
    have m1 : IntKind.u8.max = 255 := by decide
    simp [Lit.wf, m0, m1] at this
    omega
  unfold laws_FnSolids.f
  refine Ev.bind0 rfl ?_
  by_cases hbig : (l0.length : Int) > 4096
  · exact Ev.pos (by simpa using hbig) (Ev.now _)
  refine Ev.neg (by simpa using hbig) ?_
  obtain ⟨⟨l, t⟩, e1, q1⟩ := drawForm_ex l0 (by omega) hb
  obtain ⟨⟨o, b⟩, e2, q2⟩ := drawLeast_ex l0 (by omega) hb
  simp only at q1 q2
  have hs : small l := by unfold small; omega
  have c1 : small (cubeR l t).1 := by have := cubeR_len l t; unfold small; omega
  have c2 : small (leastR o b).1 := by have := leastR_len o b; unfold small; omega
  refine Ev.bind e1 (Ev.bind (implCubeR_ev l t (by omega)) (Ev.bind (specCubeR_ev l t (by omega)) (Ev.bind e2 (Ev.bind (implLeastR_ev o b (by omega)) (Ev.bind (specLeastR_ev o b (by omega)) (Ev.bind (implIsSolid_ev l hs) (Ev.bind (specIsSolid_ev l hs) ?_)))))))
  refine Ev.pos rfl (Ev.bind (likeQ_ev _ c1) (Ev.pos rfl (Ev.pos rfl (Ev.bind (likeQ_ev _ c2) (Ev.pos rfl (Ev.neg (by simp) ?_))))))
  refine Ev.step (fun k => laws_FnSolids.j0.eq_2 _ _ _ _ _ _) (Ev.neg (by simp) ?_)
  by_cases hz : (cubeR l t).2 = 0
  · refine Ev.pos hz ?_
    have hfacts : solidB l = true ∧ (0 ≤ t ∧ t ≤ 47) ∧ codeQ l = 0 := by
      unfold cubeR at hz
      by_cases h1 : solidB l = true
      · rw [if_pos h1] at hz
        by_cases h2 : 0 ≤ t ∧ t ≤ 47
        · rw [if_pos h2] at hz
          by_cases h3 : codeQ l = 0
          · exact ⟨h1, h2, h3⟩
          · rw [if_neg h3] at hz; exact absurd hz h3
        · rw [if_neg h2] at hz; simp at hz
      · rw [if_neg h1] at hz; simp at hz
    obtain ⟨h1, h2, h3⟩ := hfacts
    obtain ⟨n, rfl⟩ : ∃ n : Nat, t = (n : Int) := ⟨t.toNat, by omega⟩
    have hn : n < 48 := by omega
    have hx : (cubeR l (n : Int)).1 = formQ l (n : Int) := by unfold cubeR; rw [if_pos h1, if_pos h2, if_pos h3]
    obtain ⟨hmv, hxs, hxc, _⟩ := form_move h3 hn
    have hleast := leastForm_form h3 hn
    have hlen := formQ_len l (n : Int)
    have hxsm : small (formQ l (n : Int)) := by unfold small; omega
    rw [hx]
    refine Ev.bind (implLeastR_ev l true (by omega)) (Ev.bind (implLeastR_ev _ true (by omega)) (Ev.bind (implIsSolid_ev _ hxsm) (Ev.bind (implFace_ev l hs) (Ev.bind (implFace_ev _ hxsm) ?_))))
    have r1 : leastR l true = (leastForm l 48, 0) := by unfold leastR; rw [if_pos h3]; rfl
    have r2 : leastR (formQ l (n : Int)) true = (leastForm l 48, 0) := by unfold leastR; rw [if_pos hxc, ← hleast]; rfl
    have r3 : faceR l = (faceF l l 0, 0) := by unfold faceR; rw [if_pos h1]
    have r4 : faceR (formQ l (n : Int)) = (faceF l l 0, 0) := by unfold faceR; rw [if_pos hxs, hmv.faces (solidB_iff.1 h1).2.2.2]
    have r5 : isSolidR l = (true, connQ l) := by unfold isSolidR; rw [if_pos h1]
    have r6 : isSolidR (formQ l (n : Int)) = (true, connQ l) := by unfold isSolidR; rw [if_pos hxs, hmv.conn h1 hxs]
    rw [r1, r2, r3, r4, r5, r6]
    refine Ev.pos rfl (Ev.pos rfl (Ev.pos rfl (Ev.pos rfl (Ev.bind (likeQ_ev _ ?_) (Ev.pos rfl (Ev.pos rfl (Ev.pos (by simp) (Ev.of_eq (Ev.now _) (by simp)))))))))
    have := leastForm_len l 48
    show (leastForm l 48).length ≤ 4611686018427387904
    omega
  · exact Ev.neg hz (Ev.now _)
end Go.Proofs.Ytonldmalaajkgaa.Pure
end
