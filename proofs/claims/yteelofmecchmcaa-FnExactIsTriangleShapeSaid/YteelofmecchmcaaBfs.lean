/- Parts of a list of cells, as both sides find them. -/
import Derived.Test.YteelofmecchmcaaIndex
import Derived.Test.YteelofmecchmcaaFx0
import Derived.Test.YteelofmecchmcaaFx20
namespace Go.Proofs.Yteelofmecchmcaa.L
open Go.RowKit Go.Proofs.YteelofmecchmcaaW.PrintWords Go.Proofs.YteelofmecchmcaaW.PrintLast Go.Proofs.YteelofmecchmcaaW.PrintMore Go.Proofs.Yteelofmecchmcaa.F
set_option linter.unusedVariables false
set_option linter.unusedSimpArgs false

/-- One neighbour: marked and queued if it stands in the list and isn't marked. -/
def visit1 (l : List Cell) (i : Int) (s : List Int × List Int) (d : Cell) : List Int × List Int :=
  if idxC l d ≥ 0 ∧ rd s.1 (idxC l d) < 0 then (s.1.set (idxC l d).toNat i, s.2 ++ [idxC l d]) else s
def visit (l : List Cell) (i : Int) (ds : List Cell) (s : List Int × List Int) : List Int × List Int := ds.foldl (visit1 l i) s
def negs (o : List Int) : Nat := o.countP fun x => decide (x < 0)
/-- What holds throughout. -/
structure Fine (l : List Cell) (o q : List Int) : Prop where
  len : o.length = l.length
  rng : ∀ j ∈ q, 0 ≤ j ∧ j < (l.length : Int)
theorem idxC_lt (l : List Cell) (d : Cell) : idxC l d < (l.length : Int) := by
  rcases idxC_spec l d with ⟨h, _⟩ | ⟨j, h1, h2, _⟩
  · omega
  · omega
theorem rd_set (o : List Int) (j : Nat) (i : Int) (q : Int) (hj : j < o.length) : rd (o.set j i) q = if q.toNat = j then i else rd o q := by
  unfold rd
  rw [List.getD_eq_getElem?_getD, List.getD_eq_getElem?_getD]
  by_cases h : q.toNat = j
  · rw [if_pos h, h, List.getElem?_set_self hj]; rfl
  · rw [if_neg h, List.getElem?_set_ne (by omega)]
theorem negs_set (o : List Int) (j : Int) (i : Int) (h0 : 0 ≤ j) (h1 : j < (o.length : Int)) (h : rd o j < 0) (hi : 0 ≤ i) : negs (o.set j.toNat i) + 1 = negs o := by
  have hj : j.toNat < o.length := by omega
  have hr : o[j.toNat] < 0 := by
    unfold rd at h
    rw [List.getD_eq_getElem?_getD, List.getElem?_eq_getElem hj] at h
    exact h
  unfold negs
  have hpos : 0 < o.countP fun x => decide (x < 0) := List.countP_pos_iff.2 ⟨_, List.getElem_mem hj, by simpa using hr⟩
  rw [List.countP_set hj]
  have e1 : decide (i < 0) = false := decide_eq_false (by omega)
  have e2 : decide (o[j.toNat] < 0) = true := decide_eq_true hr
  simp only [e1, e2, if_true]
  simp
  omega
theorem visit1_fine {l : List Cell} {i : Int} (hi : 0 ≤ i) {s : List Int × List Int} (h : Fine l s.1 s.2) (d : Cell) :
    Fine l (visit1 l i s d).1 (visit1 l i s d).2 ∧ negs (visit1 l i s d).1 + (visit1 l i s d).2.length = negs s.1 + s.2.length ∧ s.2.length ≤ (visit1 l i s d).2.length ∧ ∀ j : Int, 0 ≤ rd s.1 j → 0 ≤ rd (visit1 l i s d).1 j := by
  unfold visit1
  by_cases hc : idxC l d ≥ 0 ∧ rd s.1 (idxC l d) < 0
  · rw [if_pos hc]
    have hlt := idxC_lt l d
    have hln := h.len
    refine ⟨⟨by simpa using h.len, fun j hj => ?_⟩, ?_, by simp, fun j hj => ?_⟩
    · rcases List.mem_append.1 hj with hj | hj
      · exact h.rng j hj
      · simp at hj; omega
    · have := negs_set s.1 (idxC l d) i hc.1 (by omega) hc.2 hi
      simp only [List.length_append, List.length_singleton]
      omega
    · simp only
      rw [rd_set _ _ _ _ (by omega)]
      split
      · exact hi
      · exact hj
  · rw [if_neg hc]
    exact ⟨h, rfl, Nat.le_refl _, fun _ h => h⟩
theorem visit_fine {l : List Cell} {i : Int} (hi : 0 ≤ i) : ∀ (ds : List Cell) {s : List Int × List Int}, Fine l s.1 s.2 →
    Fine l (visit l i ds s).1 (visit l i ds s).2 ∧ negs (visit l i ds s).1 + (visit l i ds s).2.length = negs s.1 + s.2.length ∧ s.2.length ≤ (visit l i ds s).2.length ∧ ∀ j : Int, 0 ≤ rd s.1 j → 0 ≤ rd (visit l i ds s).1 j
  | [], s, h => ⟨h, rfl, Nat.le_refl _, fun _ h => h⟩
  | d :: r, s, h => by
    obtain ⟨h1, h2, h3, h4⟩ := visit1_fine hi h d
    obtain ⟨h5, h6, h7, h8⟩ := visit_fine hi r h1
    exact ⟨h5, h6.trans h2, Nat.le_trans h3 h7, fun j hj => h8 j (h4 j hj)⟩
theorem visit_snoc (l : List Cell) (i : Int) (ds : List Cell) (d : Cell) (s : List Int × List Int) : visit l i (ds ++ [d]) s = visit1 l i (visit l i ds s) d := by
  simp [visit]
theorem visit_app (l : List Cell) (i : Int) : ∀ (ds : List Cell) (o p q : List Int), visit l i ds (o, p ++ q) = ((visit l i ds (o, q)).1, p ++ (visit l i ds (o, q)).2)
  | [], _, _, _ => rfl
  | d :: r, o, p, q => by
    have h := visit_app l i r
    have e : visit1 l i (o, p ++ q) d = ((visit1 l i (o, q) d).1, p ++ (visit1 l i (o, q) d).2) := by
      unfold visit1
      by_cases hc : idxC l d ≥ 0 ∧ rd o (idxC l d) < 0
      · simp only [hc, and_self, if_true, List.append_assoc]
      · simp only [hc, if_false]
    show visit l i r (visit1 l i (o, p ++ q) d) = _
    rw [e, h]
    rfl
/-- All that is reached. -/
def bfs (nb : Cell → List Cell) (l : List Cell) (i : Int) : Nat → List Int → List Int → List Int
  | 0, o, _ => o
  | _ + 1, o, [] => o
  | n + 1, o, c :: q => bfs nb l i n (visit l i (nb (rd_T27 l c)) (o, q)).1 (visit l i (nb (rd_T27 l c)) (o, q)).2
theorem bfs_nil (nb : Cell → List Cell) (l : List Cell) (i : Int) (n : Nat) (o : List Int) : bfs nb l i n o [] = o := by cases n <;> rfl
theorem bfs_fine {nb : Cell → List Cell} {l : List Cell} {i : Int} (hi : 0 ≤ i) : ∀ (n : Nat) (o q : List Int), Fine l o q → (bfs nb l i n o q).length = l.length ∧ ∀ j : Int, 0 ≤ rd o j → 0 ≤ rd (bfs nb l i n o q) j
  | 0, o, q, h => ⟨h.len, fun _ h => h⟩
  | n + 1, o, [], h => ⟨h.len, fun _ h => h⟩
  | n + 1, o, c :: q, h => by
    have h' : Fine l o q := ⟨h.len, fun j hj => h.rng j (List.mem_cons_of_mem _ hj)⟩
    obtain ⟨h1, _, _, h4⟩ := visit_fine hi (nb (rd_T27 l c)) (s := (o, q)) h'
    obtain ⟨h5, h6⟩ := bfs_fine hi n _ _ h1
    exact ⟨h5, fun j hj => h6 j (h4 j hj)⟩
def partsF (nb : Cell → List Cell) (l : List Cell) : Int → List Cell → List Int → List Int
  | _, [], o => o
  | i, _ :: r, o => partsF nb l (i + 1) r (if rd o i ≥ 0 then o else bfs nb l i l.length (o.set i.toNat i) [i])
/-- The least cell from which each is reached. -/
def partsR (nb : Cell → List Cell) (l : List Cell) : List Int := partsF nb l 0 l (List.replicate l.length (-1))
theorem step_fine {l : List Cell} {o : List Int} {i : Nat} (hl : o.length = l.length) (hi : i < l.length) (h : ¬ rd o (i : Int) ≥ 0) : Fine l (o.set i (i : Int)) [(i : Int)] ∧ negs (o.set i (i : Int)) + 1 ≤ l.length := by
  refine ⟨⟨by simpa using hl, fun j hj => by simp at hj; omega⟩, ?_⟩
  have h1 := negs_set o (i : Int) (i : Int) (by omega) (by omega) (by omega) (by omega)
  rw [Int.toNat_natCast] at h1
  have h2 : negs o ≤ o.length := List.countP_le_length
  omega
/-- What each step of the list keeps. -/
theorem step_next {nb : Cell → List Cell} {l : List Cell} {o : List Int} {i : Nat} (hl : o.length = l.length) (hi : i < l.length) (hd : ∀ j : Nat, j < i → 0 ≤ rd o (j : Int)) :
    (if rd o (i : Int) ≥ 0 then o else bfs nb l (i : Int) l.length (o.set i (i : Int)) [(i : Int)]).length = l.length ∧ ∀ j : Nat, j < i + 1 → 0 ≤ rd (if rd o (i : Int) ≥ 0 then o else bfs nb l (i : Int) l.length (o.set i (i : Int)) [(i : Int)]) (j : Int) := by
  by_cases h : rd o (i : Int) ≥ 0
  · rw [if_pos h]
    refine ⟨hl, fun j hj => ?_⟩
    by_cases e : j = i
    · exact e ▸ h
    · exact hd j (by omega)
  · rw [if_neg h]
    obtain ⟨h1, h2⟩ := step_fine hl hi h
    obtain ⟨h3, h4⟩ := bfs_fine (nb := nb) (i := (i : Int)) (by omega) l.length _ _ h1
    refine ⟨h3, fun j hj => h4 _ ?_⟩
    rw [rd_set _ _ _ _ (by omega), Int.toNat_natCast]
    split
    · omega
    · exact hd j (by omega)
theorem partsF_fine {nb : Cell → List Cell} {l : List Cell} : ∀ (r pre : List Cell) (o : List Int), l = pre ++ r → o.length = l.length → (∀ j : Nat, j < pre.length → 0 ≤ rd o (j : Int)) → (partsF nb l (pre.length : Int) r o).length = l.length ∧ ∀ j : Nat, j < l.length → 0 ≤ rd (partsF nb l (pre.length : Int) r o) (j : Int)
  | [], pre, o, h, hl, hd => by
    rw [List.append_nil] at h
    subst h
    exact ⟨hl, hd⟩
  | c :: r, pre, o, h, hl, hd => by
    obtain ⟨h1, h2⟩ := step_next (nb := nb) (l := l) (o := o) (i := pre.length) hl (by rw [h]; simp) hd
    have := partsF_fine (nb := nb) r (pre ++ [c]) _ (by rw [h]; simp) h1 (by simpa using h2)
    rw [List.length_append] at this
    exact this
theorem partsR_len (nb : Cell → List Cell) (l : List Cell) : (partsR nb l).length = l.length := (partsF_fine l [] _ rfl (by simp) (fun j hj => by simp at hj)).1
theorem partsR_pos (nb : Cell → List Cell) (l : List Cell) : ∀ x ∈ partsR nb l, 0 ≤ x := by
  intro x hx
  obtain ⟨j, hj, e⟩ := List.getElem_of_mem hx
  have h := (partsF_fine (nb := nb) (l := l) l [] (List.replicate l.length (-1)) rfl (by simp) (fun j hj => by simp at hj)).2 j (by have := partsR_len nb l; omega)
  have h' : 0 ≤ rd (partsR nb l) (j : Int) := h
  unfold rd at h'
  rw [List.getD_eq_getElem?_getD, Int.toNat_natCast, List.getElem?_eq_getElem hj] at h'
  exact e ▸ h'
theorem wf64 {n : Int} (h : -9223372036854775808 ≤ n) (h' : n ≤ 9223372036854775807) : (Lit.int .i64 n).wf = true := by
  simp only [Lit.wf, IntKind.min, IntKind.max, IntKind.signed, IntKind.bits, Bool.and_eq_true, decide_eq_true_eq, if_true]; omega
theorem wf_wrap (n : Int) : (Lit.int .i64 (wrap64 n)).wf = true := wf64 (by unfold wrap64; omega) (by unfold wrap64; omega)
theorem wfC_ok {c : Cell} (h : okC c) : wfC c = true := by
  unfold wfC
  unfold okC ok1 at h
  rw [wf64 (by omega) (by omega), wf64 (by omega) (by omega)]
  rfl
/-- The look in the map, where no cell stands twice. -/
theorem lastIdx_eq (c : Cell) : ∀ (l : List Cell) (i : Nat), l.Nodup → lastIdx l c i = if idxF l c (i : Int) ≥ 0 then some (idxF l c (i : Int)).toNat else none
  | [], i, _ => by simp [lastIdx, idxF]
  | a :: r, i, h => by
    obtain ⟨h1, h2⟩ := List.nodup_cons.1 h
    have ih := lastIdx_eq c r (i + 1) h2
    have e : ((i + 1 : Nat) : Int) = (i : Int) + 1 := by omega
    rw [e] at ih
    unfold lastIdx idxF
    rw [ih]
    by_cases hs : sameC a c = true
    · have hac := sameC_iff.1 hs
      rw [if_pos hs]
      have hn : ¬ idxF r c ((i : Int) + 1) ≥ 0 := by
        rcases idxF_spec r c ((i : Int) + 1) (by omega) with ⟨h3, _⟩ | ⟨j, _, _, h3, _⟩
        · omega
        · exact absurd (List.mem_of_getElem? h3) (hac ▸ h1)
      rw [if_neg hn]
      have : a.f0 = c.f0 ∧ a.f1 = c.f1 := by rw [hac]; exact ⟨rfl, rfl⟩
      simp only [this, and_self, if_true]
      simp
    · rw [if_neg hs]
      have hne : ¬ (a.f0 = c.f0 ∧ a.f1 = c.f1) := by
        intro h3
        apply hs
        simp [sameC, h3.1, h3.2]
      by_cases hg : idxF r c ((i : Int) + 1) ≥ 0
      · rw [if_pos hg]
      · rw [if_neg hg]
        simp only [hne, if_false]
theorem look_eq (l : List Cell) (d : Cell) (hn : l.Nodup) (hw : wfC d = true) : impl_partsLook.f l d.f0 d.f1 = some (if idxC l d ≥ 0 then (idxC l d, true) else (0, false)) := by
  unfold impl_partsLook.f
  have hw' : wfC ⟨d.f0, d.f1⟩ = true := hw
  rw [if_pos hw']
  have := lastIdx_eq d l 0 hn
  have e : lastIdx l ⟨d.f0, d.f1⟩ 0 = if idxC l d ≥ 0 then some (idxC l d).toNat else none := this
  rw [e]
  by_cases h : idxC l d ≥ 0
  · rw [if_pos h, if_pos h]
    simp only [Int.toNat_of_nonneg h]
  · rw [if_neg h, if_neg h]
end Go.Proofs.Yteelofmecchmcaa.L
