/- One part or more: told by the first search alone. -/
import Derived.Test.YteelofmecchmcaaBfs
import Derived.Test.YteelofmecchmcaaFx0
namespace Go.Proofs.Yteelofmecchmcaa.L
open Go.RowKit Go.Proofs.YteelofmecchmcaaW.PrintWords Go.Proofs.YteelofmecchmcaaW.PrintLast Go.Proofs.YteelofmecchmcaaW.PrintMore Go.Proofs.Yteelofmecchmcaa.F
set_option linter.unusedVariables false
set_option linter.unusedSimpArgs false

/-- All are in the first part. -/
def oneB (l : List Int) : Bool := l.all fun x => decide (x = 0)
theorem visit1_stable {l : List Cell} {i : Int} {s : List Int × List Int} (h : Fine l s.1 s.2) (d : Cell) (j : Int) (hj : 0 ≤ j) : (0 ≤ rd s.1 j → rd (visit1 l i s d).1 j = rd s.1 j) ∧ (rd (visit1 l i s d).1 j = rd s.1 j ∨ rd (visit1 l i s d).1 j = i) := by
  unfold visit1
  by_cases hc : idxC l d ≥ 0 ∧ rd s.1 (idxC l d) < 0
  · rw [if_pos hc]
    have hlt := idxC_lt l d
    have hln := h.len
    simp only
    rw [rd_set _ _ _ _ (by omega)]
    by_cases e : j.toNat = (idxC l d).toNat
    · rw [if_pos e]
      have : j = idxC l d := by omega
      subst this
      exact ⟨fun h => by omega, .inr rfl⟩
    · rw [if_neg e]
      exact ⟨fun _ => rfl, .inl rfl⟩
  · rw [if_neg hc]
    exact ⟨fun _ => rfl, .inl rfl⟩
theorem visit_stable {l : List Cell} {i : Int} (hi : 0 ≤ i) (j : Int) (hj : 0 ≤ j) : ∀ (ds : List Cell) {s : List Int × List Int}, Fine l s.1 s.2 → (0 ≤ rd s.1 j → rd (visit l i ds s).1 j = rd s.1 j) ∧ (rd (visit l i ds s).1 j = rd s.1 j ∨ rd (visit l i ds s).1 j = i)
  | [], s, h => ⟨fun _ => rfl, .inl rfl⟩
  | d :: r, s, h => by
    obtain ⟨h1, h2⟩ := visit1_stable (i := i) h d j hj
    obtain ⟨h3, h4⟩ := visit_stable hi j hj r (visit1_fine hi h d).1
    refine ⟨fun h5 => (h3 (by rw [h1 h5]; exact h5)).trans (h1 h5), ?_⟩
    show rd (visit l i r (visit1 l i s d)).1 j = _ ∨ _
    rcases h4 with h4 | h4
    · rcases h2 with h2 | h2
      · exact .inl (h4.trans h2)
      · exact .inr (h4.trans h2)
    · exact .inr h4
theorem bfs_stable {nb : Cell → List Cell} {l : List Cell} {i : Int} (hi : 0 ≤ i) (j : Int) (hj : 0 ≤ j) : ∀ (n : Nat) (o q : List Int), Fine l o q → (0 ≤ rd o j → rd (bfs nb l i n o q) j = rd o j) ∧ (rd (bfs nb l i n o q) j = rd o j ∨ rd (bfs nb l i n o q) j = i)
  | 0, o, q, h => ⟨fun _ => rfl, .inl rfl⟩
  | n + 1, o, [], h => ⟨fun _ => rfl, .inl rfl⟩
  | n + 1, o, c :: q, h => by
    have h' : Fine l o q := ⟨h.len, fun j hj => h.rng j (List.mem_cons_of_mem _ hj)⟩
    obtain ⟨h1, h2⟩ := visit_stable hi j hj (nb (rd_T27 l c)) (s := (o, q)) h'
    obtain ⟨h3, h4⟩ := bfs_stable (nb := nb) hi j hj n _ _ (visit_fine hi (nb (rd_T27 l c)) (s := (o, q)) h').1
    refine ⟨fun h5 => (h3 (by rw [h1 h5]; exact h5)).trans (h1 h5), ?_⟩
    unfold bfs
    rcases h4 with h4 | h4
    · rcases h2 with h2 | h2
      · exact .inl (h4.trans h2)
      · exact .inr (h4.trans h2)
    · exact .inr h4
theorem partsF_stable {nb : Cell → List Cell} {l : List Cell} (j : Int) (hj : 0 ≤ j) : ∀ (r pre : List Cell) (o : List Int), l = pre ++ r → o.length = l.length → 0 ≤ rd o j → rd (partsF nb l (pre.length : Int) r o) j = rd o j
  | [], pre, o, h, hl, hd => rfl
  | c :: r, pre, o, h, hl, hd => by
    have hp : pre.length < l.length := by rw [h]; simp
    have e : rd (if rd o (pre.length : Int) ≥ 0 then o else bfs nb l (pre.length : Int) l.length (o.set pre.length (pre.length : Int)) [(pre.length : Int)]) j = rd o j ∧ (if rd o (pre.length : Int) ≥ 0 then o else bfs nb l (pre.length : Int) l.length (o.set pre.length (pre.length : Int)) [(pre.length : Int)]).length = l.length := by
      by_cases hg : rd o (pre.length : Int) ≥ 0
      · rw [if_pos hg]; exact ⟨rfl, hl⟩
      · rw [if_neg hg]
        obtain ⟨h1, _⟩ := step_fine hl hp hg
        have e1 : rd (o.set pre.length (pre.length : Int)) j = rd o j := by
          rw [rd_set _ _ _ _ (by omega), if_neg]
          intro e
          have : j = (pre.length : Int) := by omega
          exact hg (this ▸ hd)
        refine ⟨?_, (bfs_fine (by omega) l.length _ _ h1).1⟩
        rw [(bfs_stable (nb := nb) (i := (pre.length : Int)) (by omega) j hj l.length _ _ h1).1 (by rw [e1]; exact hd), e1]
    have := partsF_stable (nb := nb) j hj r (pre ++ [c]) _ (by rw [h]; simp) e.2 (by rw [e.1]; exact hd)
    rw [List.length_append] at this
    exact this.trans e.1
theorem partsF_bad {nb : Cell → List Cell} {l : List Cell} : ∀ (r pre : List Cell) (o : List Int), l = pre ++ r → o.length = l.length → 0 < pre.length → (∃ j : Nat, pre.length ≤ j ∧ j < l.length ∧ rd o (j : Int) < 0) → ∃ j : Nat, j < l.length ∧ 0 < rd (partsF nb l (pre.length : Int) r o) (j : Int)
  | [], pre, o, h, hl, h0, ⟨j, h1, h2, h3⟩ => by rw [List.append_nil] at h; subst h; omega
  | c :: r, pre, o, h, hl, h0, ⟨j, h1, h2, h3⟩ => by
    have hp : pre.length < l.length := by rw [h]; simp
    have hx : l = (pre ++ [c]) ++ r := by rw [h]; simp
    have hle : ((pre ++ [c]).length : Int) = (pre.length : Int) + 1 := by simp
    by_cases hg : rd o (pre.length : Int) ≥ 0
    · have hj : j ≠ pre.length := fun e => by rw [e] at h3; omega
      have := partsF_bad (nb := nb) r (pre ++ [c]) o hx hl (by simp) ⟨j, by simp; omega, h2, h3⟩
      unfold partsF
      rw [if_pos hg]
      rw [hle] at this
      exact this
    · obtain ⟨h4, _⟩ := step_fine hl hp hg
      have e1 : rd (o.set pre.length (pre.length : Int)) (pre.length : Int) = (pre.length : Int) := by
        rw [rd_set _ _ _ _ (by omega), Int.toNat_natCast, if_pos rfl]
      have e2 := (bfs_stable (nb := nb) (i := (pre.length : Int)) (by omega) (pre.length : Int) (by omega) l.length _ _ h4).1 (by rw [e1]; omega)
      have e3 := partsF_stable (nb := nb) (pre.length : Int) (by omega) r (pre ++ [c]) _ hx (bfs_fine (nb := nb) (i := (pre.length : Int)) (by omega) l.length _ _ h4).1 (by rw [e2, e1]; omega)
      refine ⟨pre.length, hp, ?_⟩
      unfold partsF
      rw [if_neg hg, Int.toNat_natCast]
      rw [hle] at e3
      rw [e3, e2, e1]
      omega
/-- The first search. -/
def first (nb : Cell → List Cell) (l : List Cell) : List Int := bfs nb l 0 l.length ((List.replicate l.length (-1 : Int)).set 0 0) [0]
theorem rd_neg {o : List Int} (h : ∀ j : Nat, j < o.length → 0 ≤ rd o (j : Int)) : negs o = 0 := by
  unfold negs
  rw [List.countP_eq_zero]
  intro x hx
  obtain ⟨j, hj, e⟩ := List.getElem_of_mem hx
  have := h j hj
  unfold rd at this
  rw [List.getD_eq_getElem?_getD, Int.toNat_natCast, List.getElem?_eq_getElem hj] at this
  have h' : 0 ≤ x := e ▸ this
  simpa using h'
theorem neg_rd {o : List Int} (h : negs o = 0) (j : Nat) (hj : j < o.length) : 0 ≤ rd o (j : Int) := by
  unfold negs at h
  rw [List.countP_eq_zero] at h
  have := h o[j] (List.getElem_mem hj)
  unfold rd
  rw [List.getD_eq_getElem?_getD, Int.toNat_natCast, List.getElem?_eq_getElem hj]
  simpa using this
theorem oneB_rd {o : List Int} : oneB o = true ↔ ∀ j : Nat, j < o.length → rd o (j : Int) = 0 := by
  unfold oneB
  rw [List.all_eq_true]
  constructor
  · intro h j hj
    unfold rd
    rw [List.getD_eq_getElem?_getD, Int.toNat_natCast, List.getElem?_eq_getElem hj]
    simpa using h _ (List.getElem_mem hj)
  · intro h x hx
    obtain ⟨j, hj, e⟩ := List.getElem_of_mem hx
    have := h j hj
    unfold rd at this
    rw [List.getD_eq_getElem?_getD, Int.toNat_natCast, List.getElem?_eq_getElem hj] at this
    have h' : x = 0 := e ▸ this
    simpa using h'
theorem rd_rep {n j : Nat} (h : j < n) : rd (List.replicate n (-1 : Int)) (j : Int) = -1 := by
  unfold rd
  rw [List.getD_eq_getElem?_getD, Int.toNat_natCast, List.getElem?_eq_getElem (by simpa using h)]
  simp
theorem first_fine (l : List Cell) (h0 : l ≠ []) : Fine l ((List.replicate l.length (-1 : Int)).set 0 0) [0] ∧ negs ((List.replicate l.length (-1 : Int)).set 0 0) + 1 = l.length := by
  have hp := List.length_pos_iff.2 h0
  refine ⟨⟨by simp, fun j hj => by simp at hj; omega⟩, ?_⟩
  have h1 := negs_set (List.replicate l.length (-1 : Int)) 0 0 (by omega) (by simp; omega) (by have := rd_rep (n := l.length) (j := 0) hp; rw [Int.natCast_zero] at this; omega) (by omega)
  have h2 : negs (List.replicate l.length (-1 : Int)) = l.length := by
    unfold negs
    rw [List.countP_replicate]
    simp
  rw [h2] at h1
  exact h1
theorem oneB_first (nb : Cell → List Cell) (l : List Cell) (h0 : l ≠ []) : oneB (partsR nb l) = decide (negs (first nb l) = 0) := by
  have hp := List.length_pos_iff.2 h0
  obtain ⟨hf, _⟩ := first_fine l h0
  obtain ⟨c, r, hcr⟩ : ∃ c r, l = c :: r := by cases l with | nil => exact absurd rfl h0 | cons c r => exact ⟨c, r, rfl⟩
  have hfl : (first nb l).length = l.length := (bfs_fine (nb := nb) (i := 0) (by omega) l.length _ _ hf).1
  have e : partsR nb l = partsF nb l 1 r (first nb l) := by
    unfold partsR
    have : ∀ (o : List Int), rd o 0 < 0 → partsF nb l 0 (c :: r) o = partsF nb l 1 r (bfs nb l 0 l.length (o.set 0 0) [0]) := by
      intro o ho
      rw [partsF, if_neg (by omega)]
      rfl
    rw [show partsF nb l 0 l (List.replicate l.length (-1)) = partsF nb l 0 (c :: r) (List.replicate l.length (-1)) from by rw [← hcr]]
    rw [this _ (by have := rd_rep (n := l.length) (j := 0) hp; rw [Int.natCast_zero] at this; omega)]
    rfl
  have hrng : ∀ j : Nat, j < l.length → rd (first nb l) (j : Int) = -1 ∨ rd (first nb l) (j : Int) = 0 := by
    intro j hj
    rcases (bfs_stable (nb := nb) (i := 0) (by omega) (j : Int) (by omega) l.length _ _ hf).2 with h | h
    · have h' : rd (first nb l) (j : Int) = rd ((List.replicate l.length (-1 : Int)).set 0 0) (j : Int) := h
      rw [rd_set _ _ _ _ (by simpa using hp), Int.toNat_natCast, rd_rep hj] at h'
      by_cases e0 : j = 0
      · rw [if_pos e0] at h'; exact .inr h'
      · rw [if_neg e0] at h'; exact .inl h'
    · exact .inr h
  rw [Bool.eq_iff_iff, decide_eq_true_eq, oneB_rd, partsR_len]
  have hx : l = [c] ++ r := hcr
  constructor
  · intro h
    refine Decidable.byContradiction fun hn => ?_
    have hex : ∃ j : Nat, j < l.length ∧ rd (first nb l) (j : Int) < 0 := by
      refine Decidable.byContradiction fun hc => hn (rd_neg fun j hj => ?_)
      rw [hfl] at hj
      refine Decidable.byContradiction fun h5 => hc ⟨j, hj, by omega⟩
    obtain ⟨j, hj, hneg⟩ := hex
    have hj0 : 1 ≤ j := by
      refine Decidable.byContradiction fun h5 => ?_
      have : j = 0 := by omega
      subst this
      have h6 := (bfs_stable (nb := nb) (i := 0) (by omega) ((0 : Nat) : Int) (by omega) l.length _ _ hf).1 (by
        rw [rd_set _ _ _ _ (by simpa using hp), Int.toNat_natCast, if_pos rfl]; omega)
      rw [rd_set _ _ _ _ (by simpa using hp), Int.toNat_natCast, if_pos rfl] at h6
      have h7 : rd (first nb l) ((0 : Nat) : Int) = 0 := h6
      omega
    obtain ⟨q, hq, hpos⟩ := partsF_bad (nb := nb) r [c] (first nb l) hx hfl (by simp) ⟨j, hj0, hj, hneg⟩
    have := h q hq
    rw [e] at this
    have hpos' : 0 < rd (partsF nb l 1 r (first nb l)) (q : Int) := hpos
    omega
  · intro h j hj
    rw [e]
    have h1 := neg_rd h j (by rw [hfl]; exact hj)
    have h2 := partsF_stable (nb := nb) (j : Int) (by omega) r [c] (first nb l) hx hfl h1
    have h3 : rd (partsF nb l 1 r (first nb l)) (j : Int) = rd (first nb l) (j : Int) := h2
    rw [h3]
    rcases hrng j hj with h4 | h4
    · omega
    · exact h4
end Go.Proofs.Yteelofmecchmcaa.L
