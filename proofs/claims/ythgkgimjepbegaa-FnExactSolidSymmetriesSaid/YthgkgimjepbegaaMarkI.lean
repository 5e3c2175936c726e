/- Lists of whole numbers: marked and held. -/
import Derived.Test.YthgkgimjepbegaaInts
import Derived.Test.YthgkgimjepbegaaFx17
namespace Go.Proofs.Ythgkgimjepbegaa.L
open Go.RowKit Go.Proofs.YthgkgimjepbegaaW.PrintWords Go.Proofs.YthgkgimjepbegaaW.PrintLast Go.Proofs.YthgkgimjepbegaaW.PrintMore Go.Proofs.Ythgkgimjepbegaa.F
set_option linter.unusedVariables false
set_option linter.unusedSimpArgs false

def markedI (n : Int) (m : Nat) : List Int := (List.range m).map fun (i : Nat) => n + (i : Int)
theorem markedI_len (n : Int) (m : Nat) : (markedI n m).length = m := by simp [markedI]
theorem markedI_get (n : Int) (m i : Nat) (h : i < m) : (markedI n m)[i]? = some (n + (i : Int)) := by
  simp [markedI, h]
theorem markInt64S_ev (a : List Int) (n : Int) (h0 : 0 ≤ n) (h1 : n ≤ 4611686018427387904) (ha : fits a) : Ev (fun k => laws_markInt64S.f k a n) (n + (a.length : Int), markedI n a.length) := by
  unfold laws_markInt64S.f
  have hs := ha.small
  unfold fits at ha
  have := loop_list a (fun k i (s : List Int × Int) => laws_markInt64S.l0 k s.1 s.2 i) (fun pre _ s => (n + (a.length : Int), s.1.take pre.length ++ (markedI n a.length).drop pre.length))
    (fun pre s => s.1.length = a.length ∧ s.2 = n + (pre.length : Int)) ?_ ?_ (a, n) ⟨rfl, by simp⟩
  · simpa using this
  · rintro ⟨l, m⟩ ⟨hl, hm⟩
    simp only at hl hm
    simp only [laws_markInt64S.l0, hl, len_lt, if_false]
    refine Ev.of_eq (Ev.now _) ?_
    rw [List.take_of_length_le (by omega), List.drop_of_length_le (by rw [markedI_len]; exact Nat.le_refl _), List.append_nil, hm]
  · rintro pre c suf ⟨l, m⟩ hx ⟨hl, hm⟩ ih
    have hp := pre_len hx
    simp only at hl hm
    subst hm
    have hlt : ((pre.length : Int) < (l.length : Int)) = True := by rw [hl]; exact pre_lt hx
    have e1 : wrap64 (n + (pre.length : Int) + 1) = n + ((pre.length : Int) + 1) := by rw [w64 (by omega) (by omega)]; omega
    simp only [laws_markInt64S.l0, hlt, pre_0, if_true, Int.toNat_natCast, e1, pre_w hx hs]
    refine Ev.of_eq (ih (l.set pre.length (n + (pre.length : Int)), n + ((pre.length : Int) + 1)) ⟨by simpa using hl, by simp⟩) ?_
    refine Prod.ext rfl ?_
    simp only [List.length_append, List.length_singleton]
    rw [List.take_add_one, List.getElem?_set_self (by omega), List.take_set_of_le (Nat.le_refl _), List.drop_eq_getElem_cons (i := pre.length) (by rw [markedI_len]; omega)]
    have := markedI_get n a.length pre.length hp
    rw [List.getElem?_eq_getElem (by rw [markedI_len]; omega)] at this
    simp [Option.some.inj this]
theorem heldInt64S_ev (m : Nat) (hm : m ≤ 1048576) : Ev (fun k => laws_heldInt64S.f k (markedI 1 m) 1) (1 + (m : Int)) := by
  unfold laws_heldInt64S.f
  have hs : small (markedI 1 m) := by unfold small; rw [markedI_len]; omega
  refine loop_list (markedI 1 m) (fun k i (s : Int) => laws_heldInt64S.l0 k (markedI 1 m) s i) (fun _ _ _ => 1 + (m : Int)) (fun pre s => s = 1 + (pre.length : Int)) ?_ ?_ 1 (by simp)
  · rintro s rfl
    simp only [laws_heldInt64S.l0, len_lt, if_false]
    rw [markedI_len]
    exact Ev.now _
  · rintro pre c suf s hx rfl ih
    have hp := pre_len hx
    rw [markedI_len] at hp
    have hc := pre_get hx
    rw [markedI_get 1 m _ hp] at hc
    have hc := Option.some.inj hc
    have e1 : wrap64 (1 + (pre.length : Int) + 1) = 1 + ((pre.length : Int) + 1) := by rw [w64 (by omega) (by omega)]; omega
    simp only [laws_heldInt64S.l0, pre_lt hx, pre_0, if_true, at_preI hx, ← hc, e1, pre_w hx hs]
    exact ih _ (by simp)
end Go.Proofs.Ythgkgimjepbegaa.L
