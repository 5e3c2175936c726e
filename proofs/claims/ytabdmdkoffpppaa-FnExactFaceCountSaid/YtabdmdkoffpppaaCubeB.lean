/- Cubes and solids: what the printed functions over cubes answer, in plain words. -/
import Derived.Test.YtabdmdkoffpppaaCells
import Derived.Test.YtabdmdkoffpppaaInts
import Derived.Test.YtabdmdkoffpppaaFx0
import Derived.Test.YtabdmdkoffpppaaFx10
import Derived.Test.YtabdmdkoffpppaaFx11
import Derived.Test.YtabdmdkoffpppaaFx12
import Derived.Test.YtabdmdkoffpppaaFx13
import Derived.Test.YtabdmdkoffpppaaFx30
import Derived.Test.YtabdmdkoffpppaaFx8
import Derived.Test.YtabdmdkoffpppaaFx9
namespace Go.Proofs.Ytabdmdkoffpppaa.L
open Go.RowKit Go.Proofs.YtabdmdkoffpppaaW.PrintWords Go.Proofs.YtabdmdkoffpppaaW.PrintLast Go.Proofs.YtabdmdkoffpppaaW.PrintMore Go.Proofs.Ytabdmdkoffpppaa.F
set_option linter.unusedVariables false
set_option linter.unusedSimpArgs false

abbrev Cube := S57
abbrev LCube := S88
def okQ (c : Cube) : Prop := ok1 c.f0 ∧ ok1 c.f1 ∧ ok1 c.f2
instance (c : Cube) : Decidable (okQ c) := by unfold okQ; infer_instance
def ltQ (a b : Cube) : Prop := a.f2 < b.f2 ∨ a.f2 = b.f2 ∧ (a.f1 < b.f1 ∨ a.f1 = b.f1 ∧ a.f0 < b.f0)
instance (a b : Cube) : Decidable (ltQ a b) := by unfold ltQ; infer_instance
theorem ltQ_trans {a b c : Cube} (h : ltQ a b) (h' : ltQ b c) : ltQ a c := by unfold ltQ at *; omega
theorem ltQ_irrefl (a : Cube) : ¬ ltQ a a := by unfold ltQ; omega
theorem ltQ_total {a b : Cube} (h : ¬ ltQ a b) (h' : ¬ ltQ b a) : a = b := by
  obtain ⟨a0, a1, a2⟩ := a
  obtain ⟨b0, b1, b2⟩ := b
  unfold ltQ at h h'
  simp only at h h'
  simp only [S57.mk.injEq]
  omega
theorem at_preQ {xs pre suf : List Cube} {c : Cube} (h : xs = pre ++ c :: suf) : rd_T57 xs (pre.length : Int) = c := by
  subst h; exact getD_at pre suf c _
theorem at_preLQ {xs pre suf : List LCube} {c : LCube} (h : xs = pre ++ c :: suf) : rd_T88 xs (pre.length : Int) = c := by
  subst h; exact getD_at pre suf c _
theorem less9_eq (a b : Cube) : spec_l09Less.f a.f0 a.f1 a.f2 b.f0 b.f1 b.f2 = some (decide (ltQ a b)) := by
  unfold spec_l09Less.f ltQ
  by_cases h2 : a.f2 < b.f2
  · simp [h2]
  · by_cases e2 : a.f2 = b.f2
    · by_cases h1 : a.f1 < b.f1
      · simp [e2, h1]
      · by_cases e1 : a.f1 = b.f1
        · simp [e2, e1]
        · simp [e2, h1, e1]
    · simp [h2, e2]
def cmpV (a b : Cube) : Int := if cmpI a.f2 b.f2 = 0 then (if cmpI a.f1 b.f1 = 0 then cmpI a.f0 b.f0 else cmpI a.f1 b.f1) else cmpI a.f2 b.f2
theorem cmpV_ge {a b : Cube} : cmpV a b ≥ 0 ↔ ¬ ltQ a b := by
  unfold cmpV cmpI ltQ
  repeat' split
  all_goals constructor <;> intro h <;> omega
theorem cmpV_eq (a b : Cube) : impl_compareCubes.f a.f0 a.f1 a.f2 b.f0 b.f1 b.f2 = some (cmpV a b) := by
  unfold impl_compareCubes.f impl_compareCells.f cmpV
  simp only [compare_eq, Option.bind_some]
  repeat' split
  all_goals rfl
theorem l09Cube_eq (c : Cube) : spec_l09Cube.f c.f0 c.f1 c.f2 = some (decide (okQ c)) := by
  unfold spec_l09Cube.f
  rw [l02Cell_eq, in_eq]
  simp only [Option.bind_some]
  by_cases h : ok1 c.f0 ∧ ok1 c.f1
  · rw [decide_eq_true h, if_pos rfl]
    simp only [okQ, ok1, h.1, h.2, true_and]
    have h1 := h.1
    have h2 := h.2
    unfold ok1 at h1 h2
    simp [h1, h2]
  · rw [decide_eq_false h, if_neg (by simp)]
    have : ¬ okQ c := fun h' => h ⟨h'.1, h'.2.1⟩
    rw [decide_eq_false this]
/-- Each cube is within bounds and behind the one before it. -/
def goodFromQ : Option Cube → List Cube → Bool
  | _, [] => true
  | p, c :: r => decide (okQ c) && (match p with | none => true | some q => decide (ltQ q c)) && goodFromQ (some c) r
def solidB (l : List Cube) : Bool := goodFromQ none l && decide (1 ≤ (l.length : Int) ∧ (l.length : Int) ≤ 24)
theorem specSolid_ev (l : List Cube) (hs : small l) : Ev (fun k => spec_l09Solid.f k l) (solidB l) := by
  unfold spec_l09Solid.f
  refine loop_list l (fun k i (_ : Unit) => spec_l09Solid.l0 k l i) (fun pre suf _ => goodFromQ pre.getLast? suf && decide (1 ≤ (l.length : Int) ∧ (l.length : Int) ≤ 24)) (fun _ _ => True) ?_ ?_ () trivial
  · intro _ _
    simp only [spec_l09Solid.l0, len_lt, if_false, in_eq, Option.bind_some]
    refine Ev.of_eq (Ev.now _) ?_
    simp [goodFromQ]
  · intro pre c suf _ hx _ ih
    simp only [spec_l09Solid.l0, pre_lt hx, pre_0, if_true, at_preQ hx, l09Cube_eq, Option.bind_some, pre_w hx hs]
    by_cases hc : okQ c
    · simp only [hc, decide_true, if_true]
      rcases List.eq_nil_or_concat pre with rfl | ⟨L, b, rfl⟩
      · refine Ev.neg (by simp) (Ev.of_eq (ih () trivial) ?_)
        simp [goodFromQ, hc]
      · rw [List.concat_eq_append] at hx ih ⊢
        have hx2 : l = L ++ b :: (c :: suf) := by rw [hx]; simp
        have e1 : wrap64 (((L ++ [b]).length : Int) - 1) = (L.length : Int) := by
          unfold small at hs
          rw [hx2] at hs
          simp only [List.length_append, List.length_cons, List.length_nil] at hs ⊢
          rw [w64 (by omega) (by omega)]; omega
        refine Ev.pos (by simp <;> omega) ?_
        simp only [e1, pre_0, if_true, pre_lt hx2, at_preQ hx2, less9_eq, Option.bind_some]
        by_cases hl : ltQ b c
        · refine Ev.pos (by simpa using hl) (Ev.of_eq (ih () trivial) ?_)
          simp [goodFromQ, hc, hl]
        · refine Ev.neg (by simpa using hl) (Ev.of_eq (Ev.now _) ?_)
          simp [goodFromQ, hc, hl]
    · simp only [hc, decide_false, Bool.false_eq_true, if_false]
      refine Ev.of_eq (Ev.now _) ?_
      simp [goodFromQ, hc]
theorem implSolid_ev (l : List Cube) (hs : small l) : Ev (fun k => impl_isSolid.f k l) (solidB l) := by
  unfold impl_isSolid.f
  refine loop_list l (fun k i (_ : Unit) => impl_isSolid.l0 k l l (l.length : Int) i) (fun pre suf _ => goodFromQ pre.getLast? suf && decide (1 ≤ (l.length : Int) ∧ (l.length : Int) ≤ 24)) (fun _ _ => True) ?_ ?_ () trivial
  · intro _ _
    simp only [impl_isSolid.l0, len_lt, if_false]
    refine Ev.of_eq (Ev.if_ (fun _ => Ev.now _) (fun _ => Ev.now _)) ?_
    by_cases h : (l.length : Int) ≥ 1
    · rw [if_pos h]; simp [goodFromQ, show 1 ≤ (l.length : Int) from h]
    · rw [if_neg h]; simp [goodFromQ, show ¬ 1 ≤ (l.length : Int) from h]
  · intro pre c suf _ hx _ ih
    simp only [impl_isSolid.l0, pre_lt hx, pre_0, if_true, at_preQ hx, isCoordinate_eq, Option.bind_some, pre_w hx hs]
    by_cases h0 : ok1 c.f0
    · by_cases h1 : ok1 c.f1
      · by_cases h2 : ok1 c.f2
        · have hc : okQ c := ⟨h0, h1, h2⟩
          simp only [h0, h1, h2, decide_true, if_true]
          rcases List.eq_nil_or_concat pre with rfl | ⟨L, b, rfl⟩
          · refine Ev.neg (by simp) (Ev.of_eq (ih () trivial) ?_)
            simp [goodFromQ, hc]
          · rw [List.concat_eq_append] at hx ih ⊢
            have hx2 : l = L ++ b :: (c :: suf) := by rw [hx]; simp
            have e1 : wrap64 (((L ++ [b]).length : Int) - 1) = (L.length : Int) := by
              unfold small at hs
              rw [hx2] at hs
              simp only [List.length_append, List.length_cons, List.length_nil] at hs ⊢
              rw [w64 (by omega) (by omega)]; omega
            refine Ev.pos (by simp <;> omega) ?_
            simp only [e1, pre_0, if_true, pre_lt hx2, at_preQ hx2, cmpV_eq, Option.bind_some]
            by_cases hl : ltQ b c
            · refine Ev.neg (fun h => cmpV_ge.1 h hl) (Ev.of_eq (ih () trivial) ?_)
              simp [goodFromQ, hc, hl]
            · refine Ev.pos (cmpV_ge.2 hl) (Ev.of_eq (Ev.now _) ?_)
              simp [goodFromQ, hc, hl]
        · have hc : ¬ okQ c := fun h => h2 h.2.2
          simp only [h0, h1, h2, decide_true, if_true, decide_false, Bool.false_eq_true, if_false]
          refine Ev.of_eq (Ev.now _) ?_
          simp [goodFromQ, hc]
      · have hc : ¬ okQ c := fun h => h1 h.2.1
        simp only [h0, h1, decide_true, if_true, decide_false, Bool.false_eq_true, if_false]
        refine Ev.of_eq (Ev.now _) ?_
        simp [goodFromQ, hc]
    · have hc : ¬ okQ c := fun h => h0 h.1
      simp only [h0, decide_false, Bool.false_eq_true, if_false]
      refine Ev.of_eq (Ev.now _) ?_
      simp [goodFromQ, hc]
theorem goodFromQ_ok : ∀ (l : List Cube) (p : Option Cube), goodFromQ p l = true → ∀ c ∈ l, okQ c
  | [], _, _, c, h => by simp at h
  | a :: r, p, hg, c, h => by
    simp only [goodFromQ, Bool.and_eq_true, decide_eq_true_eq] at hg
    rcases List.mem_cons.1 h with rfl | h
    · exact hg.1.1
    · exact goodFromQ_ok r _ hg.2 c h
theorem goodFromQ_lt : ∀ (l : List Cube) (p : Option Cube), goodFromQ p l = true → (∀ q, p = some q → ∀ c ∈ l, ltQ q c) ∧ l.Pairwise ltQ
  | [], _, _ => ⟨fun _ _ c h => by simp at h, List.Pairwise.nil⟩
  | a :: r, p, hg => by
    simp only [goodFromQ, Bool.and_eq_true, decide_eq_true_eq] at hg
    obtain ⟨h1, h2⟩ := goodFromQ_lt r (some a) hg.2
    have h3 := h1 a rfl
    refine ⟨fun q hq c hc => ?_, List.pairwise_cons.2 ⟨h3, h2⟩⟩
    subst hq
    have h4 : ltQ q a := by simpa using hg.1.2
    rcases List.mem_cons.1 hc with rfl | hc
    · exact h4
    · exact ltQ_trans h4 (h3 c hc)
theorem goodFromQ_of : ∀ (l : List Cube) (p : Option Cube), (∀ c ∈ l, okQ c) → (∀ q, p = some q → ∀ c ∈ l, ltQ q c) → l.Pairwise ltQ → goodFromQ p l = true
  | [], _, _, _, _ => rfl
  | a :: r, p, h0, h1, h2 => by
    obtain ⟨h3, h4⟩ := List.pairwise_cons.1 h2
    simp only [goodFromQ, Bool.and_eq_true, decide_eq_true_eq]
    refine ⟨⟨h0 a List.mem_cons_self, ?_⟩, goodFromQ_of r (some a) (fun c hc => h0 c (List.mem_cons_of_mem _ hc)) (fun q hq c hc => by injection hq with hq; subst hq; exact h3 c hc) h4⟩
    cases p with
    | none => rfl
    | some q => simpa using h1 q rfl a List.mem_cons_self
theorem solidB_iff {l : List Cube} : solidB l = true ↔ (∀ c ∈ l, okQ c) ∧ l.Pairwise ltQ ∧ 1 ≤ l.length ∧ l.length ≤ 24 := by
  unfold solidB
  rw [Bool.and_eq_true, decide_eq_true_eq]
  constructor
  · rintro ⟨h, h'⟩
    exact ⟨goodFromQ_ok l _ h, (goodFromQ_lt l _ h).2, by omega, by omega⟩
  · rintro ⟨h1, h2, h3, h4⟩
    exact ⟨goodFromQ_of l none h1 (fun _ h => by cases h) h2, by omega, by omega⟩
theorem solid_pos {l : List Cube} (h : solidB l = true) : 0 < l.length := by have := solidB_iff.1 h; omega

theorem eqCube_eq (a b c d e f : Int) : laws_eqCube.f a b c d e f = some (decide (a = d ∧ b = e ∧ c = f)) := by
  unfold laws_eqCube.f
  by_cases h : a = d
  · by_cases h' : b = e
    · by_cases h'' : c = f <;> simp [h, h', h'']
    · simp [h, h']
  · simp [h]
theorem eqCubeS_ev (a : List Cube) (ha : small a) : Ev (fun k => laws_eqCubeS.f k a a) true := by
  unfold laws_eqCubeS.f
  refine Ev.pos rfl ?_
  refine loop_list a (fun k i (_ : Unit) => laws_eqCubeS.l0 k a a i) (fun _ _ _ => true) (fun _ _ => True) ?_ ?_ () trivial
  · intro _ _
    simp only [laws_eqCubeS.l0, len_lt, if_false]
    exact Ev.now _
  · intro pre c suf _ hx _ ih
    simp only [laws_eqCubeS.l0, pre_lt hx, pre_0, if_true, at_preQ hx, eqCube_eq, and_self, decide_true, Option.bind_some, pre_w hx ha]
    exact ih () trivial
def cubeOf (c : LCube) : Cube := ⟨c.f0, c.f1, c.f2⟩
theorem toCube_eq (x y z : Int) : laws_toCube.f x y z = some (x, y, z) := rfl
theorem toCubeS_ev (a : List LCube) (ha : a.length ≤ 1048576) : Ev (fun k => laws_toCubeS.f k a) (a.map cubeOf) := by
  have hs : small a := by unfold small; omega
  unfold laws_toCubeS.f
  refine Ev.pos (by omega) (Ev.pos (by omega) ?_)
  have := loop_list a (fun k i (s : List Cube) => laws_toCubeS.l0 k a s i) (fun _ suf s => s.take (a.length - suf.length) ++ suf.map cubeOf) (fun pre s => s.length = a.length) ?_ ?_ (List.replicate a.length z57) (by simp)
  · refine Ev.of_eq this ?_
    simp
  · intro s hl
    simp only [laws_toCubeS.l0, len_lt, if_false]
    refine Ev.of_eq (Ev.now _) ?_
    simp [List.take_of_length_le, hl]
  · intro pre c suf s hx hl ih
    have hlt : ((pre.length : Int) < (s.length : Int)) = True := by rw [hl]; exact pre_lt hx
    simp only [laws_toCubeS.l0, pre_lt hx, pre_0, if_true, at_preLQ hx, toCube_eq, Option.bind_some, hlt, pre_w hx hs]
    refine Ev.of_eq (ih (s.set (pre.length : Int).toNat ⟨c.f0, c.f1, c.f2⟩) (by simpa using hl)) ?_
    have hn : a.length = pre.length + (suf.length + 1) := by rw [hx]; simp
    have e1 : a.length - suf.length = pre.length + 1 := by omega
    have e2 : a.length - (c :: suf).length = pre.length := by simp; omega
    rw [e1, e2, Int.toNat_natCast, List.take_add_one, List.getElem?_set_self (by omega), List.take_set_of_le (Nat.le_refl _)]
    simp [cubeOf]
/-- The cubes that 'mark' leaves. -/
def markedQ (m : Int) (n : Nat) : List Cube := (List.range n).map fun (i : Nat) => ⟨m + 3 * (i : Int), m + 1 + 3 * (i : Int), m + 2 + 3 * (i : Int)⟩
theorem markedQ_len (m : Int) (n : Nat) : (markedQ m n).length = n := by simp [markedQ]
theorem markedQ_get (m : Int) (n i : Nat) (h : i < n) : (markedQ m n)[i]? = some ⟨m + 3 * (i : Int), m + 1 + 3 * (i : Int), m + 2 + 3 * (i : Int)⟩ := by
  simp [markedQ, h]
theorem markCubeS_from (a : List Cube) (m : Int) (h0 : 0 ≤ m) (h1 : m ≤ 4611686018427387904) (ha : fits a) : Ev (fun k => laws_markCubeS.f k a m) (m + 3 * (a.length : Int), markedQ m a.length) := by
  unfold laws_markCubeS.f
  have hs := ha.small
  unfold fits at ha
  have := loop_list a (fun k i (s : List Cube × Int) => laws_markCubeS.l0 k s.1 s.2 i) (fun pre _ s => (m + 3 * (a.length : Int), s.1.take pre.length ++ (markedQ m a.length).drop pre.length))
    (fun pre s => s.1.length = a.length ∧ s.2 = m + 3 * (pre.length : Int)) ?_ ?_ (a, m) ⟨rfl, by simp⟩
  · simpa using this
  · rintro ⟨l, n⟩ ⟨hl, hn⟩
    simp only at hl hn
    simp only [laws_markCubeS.l0, hl, len_lt, if_false]
    refine Ev.of_eq (Ev.now _) ?_
    rw [List.take_of_length_le (by omega), List.drop_of_length_le (by rw [markedQ_len]; exact Nat.le_refl _), List.append_nil, hn]
  · rintro pre c suf ⟨l, n⟩ hx ⟨hl, hn⟩ ih
    have hp := pre_len hx
    simp only at hl hn
    subst hn
    have hlt : ((pre.length : Int) < (l.length : Int)) = True := by rw [hl]; exact pre_lt hx
    have e1 : wrap64 (m + 3 * (pre.length : Int) + 1) = m + 1 + 3 * (pre.length : Int) := by rw [w64 (by omega) (by omega)]; omega
    have e2 : wrap64 (m + 1 + 3 * (pre.length : Int) + 1) = m + 2 + 3 * (pre.length : Int) := by rw [w64 (by omega) (by omega)]; omega
    have e4 : wrap64 (m + 2 + 3 * (pre.length : Int) + 1) = m + 3 * ((pre.length : Int) + 1) := by rw [w64 (by omega) (by omega)]; omega
    have e3 : ∀ d : Cube, rd_T57 (l.set pre.length d) (pre.length : Int) = d := by
      intro d
      simp [rd_T57, List.getD, hl, hp]
    simp only [laws_markCubeS.l0, hlt, pre_0, if_true, Option.bind_some, Int.toNat_natCast, e3, List.set_set, e1, e2, e4, pre_w hx hs]
    refine Ev.of_eq (ih (l.set pre.length ⟨m + 3 * (pre.length : Int), m + 1 + 3 * (pre.length : Int), m + 2 + 3 * (pre.length : Int)⟩, m + 3 * ((pre.length : Int) + 1)) ⟨by simpa using hl, by simp⟩) ?_
    refine Prod.ext rfl ?_
    simp only [List.length_append, List.length_singleton]
    rw [List.take_add_one, List.getElem?_set_self (by omega), List.take_set_of_le (Nat.le_refl _), List.drop_eq_getElem_cons (i := pre.length) (by rw [markedQ_len]; omega)]
    have := markedQ_get m a.length pre.length hp
    rw [List.getElem?_eq_getElem (by rw [markedQ_len]; omega)] at this
    simp [Option.some.inj this]
theorem szCubeS_eq (a : List LCube) (n : Int) (h0 : 0 ≤ n) (h1 : n ≤ 1048576) (ha : a.length ≤ 9223372036854775807) : laws_szCubeS.f a n = some (if n - (a.length : Int) < 0 then -1 else n - (a.length : Int)) := by
  unfold laws_szCubeS.f
  rw [w64 (by omega) (by omega)]
  split <;> rfl
end Go.Proofs.Ytabdmdkoffpppaa.L
