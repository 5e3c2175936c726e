/- The binary search in a sorted list of cells answers as the plain search. -/
import Derived.Test.YtnohbmnoioikbaaIndex
import Derived.Test.YtnohbmnoioikbaaFx0
namespace Go.Proofs.Ytnohbmnoioikbaa.L
open Go.RowKit Go.Proofs.YtnohbmnoioikbaaW.PrintWords Go.Proofs.YtnohbmnoioikbaaW.PrintLast Go.Proofs.YtnohbmnoioikbaaW.PrintMore Go.Proofs.Ytnohbmnoioikbaa.F
set_option linter.unusedVariables false
set_option linter.unusedSimpArgs false

def lowB : List Cell → Cell → Nat
  | [], _ => 0
  | a :: r, c => if ltC a c then lowB r c + 1 else 0
theorem lowB_le : ∀ (l : List Cell) (c : Cell), lowB l c ≤ l.length
  | [], _ => Nat.le_refl _
  | a :: r, c => by
    unfold lowB
    have := lowB_le r c
    split
    · simpa using this
    · simp
theorem lowB_lt : ∀ (l : List Cell) (c : Cell) (i : Nat) (a : Cell), i < lowB l c → l[i]? = some a → ltC a c
  | [], _, i, a, h, _ => by simp [lowB] at h
  | b :: r, c, i, a, h, ha => by
    unfold lowB at h
    by_cases hb : ltC b c
    · rw [if_pos hb] at h
      cases i with
      | zero => simp at ha; exact ha ▸ hb
      | succ i => exact lowB_lt r c i a (by omega) (by simpa using ha)
    · rw [if_neg hb] at h; omega
theorem lowB_ge : ∀ (l : List Cell) (c : Cell), l.Pairwise ltC → ∀ (i : Nat) (a : Cell), lowB l c ≤ i → l[i]? = some a → ¬ ltC a c
  | [], _, _, i, a, _, ha => by simp at ha
  | b :: r, c, hp, i, a, h, ha => by
    obtain ⟨h1, h2⟩ := List.pairwise_cons.1 hp
    unfold lowB at h
    by_cases hb : ltC b c
    · rw [if_pos hb] at h
      cases i with
      | zero => omega
      | succ i => exact lowB_ge r c h2 i a (by omega) (by simpa using ha)
    · cases i with
      | zero => simp at ha; exact ha ▸ hb
      | succ i =>
        have hm : a ∈ r := List.mem_of_getElem? (by simpa using ha)
        exact fun h' => hb (ltC_trans (h1 a hm) h')
theorem ltC_irrefl (a : Cell) : ¬ ltC a a := by unfold ltC; omega
theorem ltC_total {a b : Cell} (h : ¬ ltC a b) (h' : ¬ ltC b a) : a = b := by
  obtain ⟨a0, a1⟩ := a
  obtain ⟨b0, b1⟩ := b
  unfold ltC at *
  simp only [S55.mk.injEq]
  simp only at h h'
  omega
instance : DecidableEq Cell := fun a b => decidable_of_iff (sameC a b = true) sameC_iff
/-- What the search answers: where the cell would stand, and whether it stands there. -/
def bsB (l : List Cell) (c : Cell) : Int × Bool := ((lowB l c : Int), decide (l[lowB l c]? = some c))
theorem bsB_idx (l : List Cell) (c : Cell) (hp : l.Pairwise ltC) : if idxC l c < 0 then (bsB l c).2 = false else bsB l c = (idxC l c, true) := by
  rcases idxC_spec l c with ⟨h1, h2⟩ | ⟨j, h1, h2, h3, _⟩
  · rw [if_pos (by omega)]
    refine decide_eq_false fun h => h2 (List.mem_of_getElem? h)
  · rw [if_neg (by omega), h2]
    have e : lowB l c = j := by
      rcases Nat.lt_trichotomy j (lowB l c) with h | h | h
      · exact absurd (lowB_lt l c j c h h3) (ltC_irrefl c)
      · exact h.symm
      · exfalso
        have hlt : lowB l c < l.length := by omega
        have h4 := lowB_ge l c hp _ _ (Nat.le_refl _) (List.getElem?_eq_getElem hlt)
        have h5 : ltC l[lowB l c] l[j] := List.pairwise_iff_getElem.1 hp _ _ hlt h1 h
        have h6 : l[j] = c := by rw [List.getElem?_eq_getElem h1] at h3; exact Option.some.inj h3
        rw [h6] at h5
        exact h4 h5
    unfold bsB
    rw [e, h3]
    simp
theorem half_eq {i j : Nat} (h : i ≤ 1048576) (h' : j ≤ 1048576) : wrap64 ((IntKind.u64.wrap (wrap64 ((i : Int) + (j : Int)))) / 2) = (((i + j) / 2 : Nat) : Int) := by
  rw [w64 (n := (i : Int) + (j : Int)) (by omega) (by omega)]
  have e : IntKind.u64.wrap ((i : Int) + (j : Int)) = (i : Int) + (j : Int) := by
    simp only [IntKind.wrap, IntKind.signed, IntKind.bits]
    have : ((i : Int) + (j : Int)) % 18446744073709551616 = (i : Int) + (j : Int) := by omega
    simpa using this
  rw [e, w64 (by omega) (by omega)]
  omega
theorem rd_some {l : List Cell} {i : Nat} {a : Cell} (h : l[i]? = some a) : rd_T55 l (i : Int) = a := by
  simp [rd_T55, List.getD, h]
/-- The cell set of some cells. -/
def setF (l : List Cell) : List Cell → List Int → List Int × Bool
  | [], acc => (acc, true)
  | c :: r, acc => if idxC l c < 0 then ([], false) else setF l r (acc ++ [idxC l c])
theorem setF_len (l : List Cell) : ∀ (r : List Cell) (acc : List Int), (setF l r acc).1.length ≤ acc.length + r.length
  | [], acc => by simp [setF]
  | c :: r, acc => by
    unfold setF
    split
    · simp
    · have := setF_len l r (acc ++ [idxC l c])
      simp only [List.length_append, List.length_cons, List.length_nil] at this ⊢
      omega
end Go.Proofs.Ytnohbmnoioikbaa.L
