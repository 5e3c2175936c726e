/- The binary search in a sorted list of cells answers as the plain search. -/
import Derived.Test.YtpblcdlpcgfhgaaIndex
import Derived.Test.YtpblcdlpcgfhgaaFx0
import Derived.Test.YtpblcdlpcgfhgaaFx44
namespace Go.Proofs.Ytpblcdlpcgfhgaa.L
open Go.RowKit Go.Proofs.YtpblcdlpcgfhgaaW.PrintWords Go.Proofs.YtpblcdlpcgfhgaaW.PrintLast Go.Proofs.YtpblcdlpcgfhgaaW.PrintMore Go.Proofs.Ytpblcdlpcgfhgaa.F
set_option linter.unusedVariables false
set_option linter.unusedSimpArgs false

def lowB : List Cell → Cell → Nat
  | [], _ => 0
  | a :: r, c => if ltC a c then lowB r c + 1 else 0
theorem lowB_le : ∀ (l : List Cell) (c : Cell), lowB l c ≤ l.length
  | [], _ => Nat.le_refl _
  | a :: r, c => by
    unfold lowB
    have := lowB_le r c
    split
    · simpa using this
    · simp
theorem lowB_lt : ∀ (l : List Cell) (c : Cell) (i : Nat) (a : Cell), i < lowB l c → l[i]? = some a → ltC a c
  | [], _, i, a, h, _ => by simp [lowB] at h
  | b :: r, c, i, a, h, ha => by
    unfold lowB at h
    by_cases hb : ltC b c
    · rw [if_pos hb] at h
      cases i with
      | zero => simp at ha; exact ha ▸ hb
      | succ i => exact lowB_lt r c i a (by omega) (by simpa using ha)
    · rw [if_neg hb] at h; omega
theorem lowB_ge : ∀ (l : List Cell) (c : Cell), l.Pairwise ltC → ∀ (i : Nat) (a : Cell), lowB l c ≤ i → l[i]? = some a → ¬ ltC a c
  | [], _, _, i, a, _, ha => by simp at ha
  | b :: r, c, hp, i, a, h, ha => by
    obtain ⟨h1, h2⟩ := List.pairwise_cons.1 hp
    unfold lowB at h
    by_cases hb : ltC b c
    · rw [if_pos hb] at h
      cases i with
      | zero => omega
      | succ i => exact lowB_ge r c h2 i a (by omega) (by simpa using ha)
    · cases i with
      | zero => simp at ha; exact ha ▸ hb
      | succ i =>
        have hm : a ∈ r := List.mem_of_getElem? (by simpa using ha)
        exact fun h' => hb (ltC_trans (h1 a hm) h')
theorem ltC_irrefl (a : Cell) : ¬ ltC a a := by unfold ltC; omega
theorem ltC_total {a b : Cell} (h : ¬ ltC a b) (h' : ¬ ltC b a) : a = b := by
  obtain ⟨a0, a1⟩ := a
  obtain ⟨b0, b1⟩ := b
  unfold ltC at *
  simp only [S60.mk.injEq]
  simp only at h h'
  omega
instance : DecidableEq Cell := fun a b => decidable_of_iff (sameC a b = true) sameC_iff
/-- What the search answers: where the cell would stand, and whether it stands there. -/
def bsB (l : List Cell) (c : Cell) : Int × Bool := ((lowB l c : Int), decide (l[lowB l c]? = some c))
theorem bsB_idx (l : List Cell) (c : Cell) (hp : l.Pairwise ltC) : if idxC l c < 0 then (bsB l c).2 = false else bsB l c = (idxC l c, true) := by
  rcases idxC_spec l c with ⟨h1, h2⟩ | ⟨j, h1, h2, h3, _⟩
  · rw [if_pos (by omega)]
    refine decide_eq_false fun h => h2 (List.mem_of_getElem? h)
  · rw [if_neg (by omega), h2]
    have e : lowB l c = j := by
      rcases Nat.lt_trichotomy j (lowB l c) with h | h | h
      · exact absurd (lowB_lt l c j c h h3) (ltC_irrefl c)
      · exact h.symm
      · exfalso
        have hlt : lowB l c < l.length := by omega
        have h4 := lowB_ge l c hp _ _ (Nat.le_refl _) (List.getElem?_eq_getElem hlt)
        have h5 : ltC l[lowB l c] l[j] := List.pairwise_iff_getElem.1 hp _ _ hlt h1 h
        have h6 : l[j] = c := by rw [List.getElem?_eq_getElem h1] at h3; exact Option.some.inj h3
        rw [h6] at h5
        exact h4 h5
    unfold bsB
    rw [e, h3]
    simp
theorem half_eq {i j : Nat} (h : i ≤ 1048576) (h' : j ≤ 1048576) : wrap64 ((IntKind.u64.wrap (wrap64 ((i : Int) + (j : Int)))) / 2) = (((i + j) / 2 : Nat) : Int) := by
  rw [w64 (n := (i : Int) + (j : Int)) (by omega) (by omega)]
  have e : IntKind.u64.wrap ((i : Int) + (j : Int)) = (i : Int) + (j : Int) := by
    simp only [IntKind.wrap, IntKind.signed, IntKind.bits]
    have : ((i : Int) + (j : Int)) % 18446744073709551616 = (i : Int) + (j : Int) := by omega
    simpa using this
  rw [e, w64 (by omega) (by omega)]
  omega
theorem rd_some {l : List Cell} {i : Nat} {a : Cell} (h : l[i]? = some a) : rd_T60 l (i : Int) = a := by
  simp [rd_T60, List.getD, h]
theorem bsearch_ev (l : List Cell) (c : Cell) (hl : l.length ≤ 1048576) (hp : l.Pairwise ltC) : Ev (fun k => impl_Cell_140__impl_compareCells.f k l c.f0 c.f1) (bsB l c) := by
  unfold impl_Cell_140__impl_compareCells.f
  have key : ∀ (n i j : Nat), j - i ≤ n → i ≤ lowB l c → lowB l c ≤ j → j ≤ l.length → Ev (fun k => impl_Cell_140__impl_compareCells.l0 k l (l.length : Int) (i : Int) (j : Int) c.f0 c.f1) (bsB l c) := by
    intro n
    induction n with
    | zero =>
      intro i j h0 h1 h2 h3
      obtain rfl : i = j := by omega
      obtain rfl : i = lowB l c := by omega
      refine Ev.succ ?_
      simp only [impl_Cell_140__impl_compareCells.l0]
      refine Ev.neg (by omega) ?_
      by_cases hlt : lowB l c < l.length
      · refine Ev.pos (by omega) (Ev.pos (by omega) (Ev.pos (by omega) ?_))
        have e := List.getElem?_eq_getElem hlt
        simp only [rd_some e, compareCells_eq, Option.bind_some]
        refine Ev.of_eq (Ev.now _) ?_
        refine Prod.ext rfl ?_
        show (cmpC l[lowB l c] c == 0) = decide (l[lowB l c]? = some c)
        rw [e, Bool.eq_iff_iff, beq_iff_eq, decide_eq_true_eq, cmpC_zero]
        simp
      · refine Ev.neg (by omega) (Ev.of_eq (Ev.now _) ?_)
        refine Prod.ext rfl ?_
        show false = decide (l[lowB l c]? = some c)
        rw [List.getElem?_eq_none (by omega)]
        simp
    | succ n ih =>
      intro i j h0 h1 h2 h3
      by_cases hij : i < j
      · refine Ev.succ ?_
        simp only [impl_Cell_140__impl_compareCells.l0, half_eq (i := i) (j := j) (by omega) (by omega)]
        have hh : (i + j) / 2 < l.length := by omega
        have e := List.getElem?_eq_getElem hh
        refine Ev.pos (by omega) (Ev.pos (by omega) (Ev.pos (by omega) ?_))
        simp only [rd_some e, compareCells_eq, Option.bind_some]
        by_cases hc : ltC l[(i + j) / 2] c
        · refine Ev.pos (cmpC_lt.2 hc) ?_
          have e1 : wrap64 ((((i + j) / 2 : Nat) : Int) + 1) = (((i + j) / 2 + 1 : Nat) : Int) := by rw [w64 (by omega) (by omega)]; rfl
          simp only [e1]
          refine ih _ _ (by omega) ?_ h2 h3
          rcases Nat.lt_or_ge ((i + j) / 2) (lowB l c) with h | h
          · omega
          · exact absurd hc (lowB_ge l c hp _ _ h e)
        · refine Ev.neg (fun h => hc (cmpC_lt.1 h)) ?_
          refine ih _ _ (by omega) h1 ?_ (by omega)
          rcases Nat.lt_or_ge ((i + j) / 2) (lowB l c) with h | h
          · exact absurd (lowB_lt l c _ _ h e) hc
          · exact h
      · exact ih i j (by omega) h1 h2 h3
  have := key l.length 0 l.length (by omega) (Nat.zero_le _) (lowB_le l c) (Nat.le_refl _)
  exact this

/-- The cell set of some cells. -/
def setF (l : List Cell) : List Cell → List Int → List Int × Bool
  | [], acc => (acc, true)
  | c :: r, acc => if idxC l c < 0 then ([], false) else setF l r (acc ++ [idxC l c])
theorem setF_len (l : List Cell) : ∀ (r : List Cell) (acc : List Int), (setF l r acc).1.length ≤ acc.length + r.length
  | [], acc => by simp [setF]
  | c :: r, acc => by
    unfold setF
    split
    · simp
    · have := setF_len l r (acc ++ [idxC l c])
      simp only [List.length_append, List.length_cons, List.length_nil] at this ⊢
      omega
theorem implSet_ev (l r : List Cell) (hl : l.length ≤ 1048576) (hr : r.length ≤ 1048576) (hp : l.Pairwise ltC) : Ev (fun k => impl_cellsToSet.f k l r) (setF l r []) := by
  have hs : small r := by unfold small; omega
  unfold impl_cellsToSet.f
  refine loop_list r (fun k i (s : List Int) => impl_cellsToSet.l0 k l s r (r.length : Int) i) (fun pre suf s => setF l suf s) (fun pre s => s.length ≤ pre.length) ?_ ?_ [] (Nat.le_refl _)
  · intro s _
    simp only [impl_cellsToSet.l0, len_lt, if_false]
    exact Ev.now _
  · intro pre c suf s hx hi ih
    have hpl := pre_len hx
    simp only [impl_cellsToSet.l0, pre_lt hx, pre_0, if_true, at_pre hx, pre_w hx hs]
    refine Ev.bind (bsearch_ev l c hl hp) ?_
    have hb := bsB_idx l c hp
    unfold setF
    by_cases hn : idxC l c < 0
    · rw [if_pos hn] at hb
      rw [if_pos hn]
      exact Ev.neg (by simp [hb]) (Ev.now _)
    · rw [if_neg hn] at hb
      rw [if_neg hn, hb]
      exact Ev.pos rfl (Ev.pos (by omega) (ih _ (by simp; omega)))
end Go.Proofs.Ytpblcdlpcgfhgaa.L
