/- The row of FnExactFillHoles, with what it needs: text 9 of 10. -/
import Derived.Test.YtaecheolnpofeaaI7
set_option maxHeartbeats 8000000
set_option maxRecDepth 100000
section
namespace Go.Proofs.Ytaecheolnpofeaa.L
open Go.RowKit Go.Proofs.YtaecheolnpofeaaW.PrintWords Go.Proofs.YtaecheolnpofeaaW.PrintLast Go.Proofs.YtaecheolnpofeaaW.PrintMore Go.Proofs.Ytaecheolnpofeaa.F
set_option linter.unusedVariables false
set_option linter.unusedSimpArgs false
theorem visit1_fine {l : List Cell} {i : Int} (hi : 0 ≤ i) {s : List Int × List Int} (h : Fine l s.1 s.2) (d : Cell) :
    Fine l (visit1 l i s d).1 (visit1 l i s d).2 ∧ negs (visit1 l i s d).1 + (visit1 l i s d).2.length = negs s.1 + s.2.length ∧ s.2.length ≤ (visit1 l i s d).2.length ∧ ∀ j : Int, 0 ≤ rd s.1 j → 0 ≤ rd (visit1 l i s d).1 j := by
  unfold visit1
  by_cases hc : idxC l d ≥ 0 ∧ rd s.1 (idxC l d) < 0
  · rw [if_pos hc]
    have hlt := idxC_lt l d
    have hln := h.len
    refine ⟨⟨by simpa using h.len, fun j hj => ?_⟩, ?_, by simp, fun j hj => ?_⟩
    · rcases List.mem_append.1 hj with hj | hj
      · exact h.rng j hj
      · simp at hj; omega
    · have := negs_set s.1 (idxC l d) i hc.1 (by omega) hc.2 hi
      simp only [List.length_append, List.length_singleton]
      omega
    · simp only
      rw [rd_set _ _ _ _ (by omega)]
      split
      · exact hi
      · exact hj
  · rw [if_neg hc]
    exact ⟨h, rfl, Nat.le_refl _, fun _ h => h⟩
theorem visit_fine {l : List Cell} {i : Int} (hi : 0 ≤ i) : ∀ (ds : List Cell) {s : List Int × List Int}, Fine l s.1 s.2 →
    Fine l (visit l i ds s).1 (visit l i ds s).2 ∧ negs (visit l i ds s).1 + (visit l i ds s).2.length = negs s.1 + s.2.length ∧ s.2.length ≤ (visit l i ds s).2.length ∧ ∀ j : Int, 0 ≤ rd s.1 j → 0 ≤ rd (visit l i ds s).1 j
  | [], s, h => ⟨h, rfl, Nat.le_refl _, fun _ h => h⟩
  | d :: r, s, h => by
    obtain ⟨h1, h2, h3, h4⟩ := visit1_fine hi h d
    obtain ⟨h5, h6, h7, h8⟩ := visit_fine hi r h1
    exact ⟨h5, h6.trans h2, Nat.le_trans h3 h7, fun j hj => h8 j (h4 j hj)⟩
theorem visit_snoc (l : List Cell) (i : Int) (ds : List Cell) (d : Cell) (s : List Int × List Int) : visit l i (ds ++ [d]) s = visit1 l i (visit l i ds s) d := by
  simp [visit]
def bfs (nb : Cell → List Cell) (l : List Cell) (i : Int) : Nat → List Int → List Int → List Int
  | 0, o, _ => o
  | _ + 1, o, [] => o
  | n + 1, o, c :: q => bfs nb l i n (visit l i (nb (rd_T44 l c)) (o, q)).1 (visit l i (nb (rd_T44 l c)) (o, q)).2
theorem bfs_fine {nb : Cell → List Cell} {l : List Cell} {i : Int} (hi : 0 ≤ i) : ∀ (n : Nat) (o q : List Int), Fine l o q → (bfs nb l i n o q).length = l.length ∧ ∀ j : Int, 0 ≤ rd o j → 0 ≤ rd (bfs nb l i n o q) j
  | 0, o, q, h => ⟨h.len, fun _ h => h⟩
  | n + 1, o, [], h => ⟨h.len, fun _ h => h⟩
  | n + 1, o, c :: q, h => by
    have h' : Fine l o q := ⟨h.len, fun j hj => h.rng j (List.mem_cons_of_mem _ hj)⟩
    obtain ⟨h1, _, _, h4⟩ := visit_fine hi (nb (rd_T44 l c)) (s := (o, q)) h'
    obtain ⟨h5, h6⟩ := bfs_fine hi n _ _ h1
    exact ⟨h5, fun j hj => h6 j (h4 j hj)⟩
def partsF (nb : Cell → List Cell) (l : List Cell) : Int → List Cell → List Int → List Int
  | _, [], o => o
  | i, _ :: r, o => partsF nb l (i + 1) r (if rd o i ≥ 0 then o else bfs nb l i l.length (o.set i.toNat i) [i])
def partsR (nb : Cell → List Cell) (l : List Cell) : List Int := partsF nb l 0 l (List.replicate l.length (-1))
theorem step_fine {l : List Cell} {o : List Int} {i : Nat} (hl : o.length = l.length) (hi : i < l.length) (h : ¬ rd o (i : Int) ≥ 0) : Fine l (o.set i (i : Int)) [(i : Int)] ∧ negs (o.set i (i : Int)) + 1 ≤ l.length := by
  refine ⟨⟨by simpa using hl, fun j hj => by simp at hj; omega⟩, ?_⟩
  have h1 := negs_set o (i : Int) (i : Int) (by omega) (by omega) (by omega) (by omega)
  rw [Int.toNat_natCast] at h1
  have h2 : negs o ≤ o.length := List.countP_le_length
  omega
theorem step_next {nb : Cell → List Cell} {l : List Cell} {o : List Int} {i : Nat} (hl : o.length = l.length) (hi : i < l.length) (hd : ∀ j : Nat, j < i → 0 ≤ rd o (j : Int)) :
    (if rd o (i : Int) ≥ 0 then o else bfs nb l (i : Int) l.length (o.set i (i : Int)) [(i : Int)]).length = l.length ∧ ∀ j : Nat, j < i + 1 → 0 ≤ rd (if rd o (i : Int) ≥ 0 then o else bfs nb l (i : Int) l.length (o.set i (i : Int)) [(i : Int)]) (j : Int) := by
  by_cases h : rd o (i : Int) ≥ 0
  · rw [if_pos h]
    refine ⟨hl, fun j hj => ?_⟩
    by_cases e : j = i
    · exact e ▸ h
    · exact hd j (by omega)
  · rw [if_neg h]
    obtain ⟨h1, h2⟩ := step_fine hl hi h
    obtain ⟨h3, h4⟩ := bfs_fine (nb := nb) (i := (i : Int)) (by omega) l.length _ _ h1
    refine ⟨h3, fun j hj => h4 _ ?_⟩
    rw [rd_set _ _ _ _ (by omega), Int.toNat_natCast]
    split
    · omega
    · exact hd j (by omega)
theorem partsF_fine {nb : Cell → List Cell} {l : List Cell} : ∀ (r pre : List Cell) (o : List Int), l = pre ++ r → o.length = l.length → (∀ j : Nat, j < pre.length → 0 ≤ rd o (j : Int)) → (partsF nb l (pre.length : Int) r o).length = l.length ∧ ∀ j : Nat, j < l.length → 0 ≤ rd (partsF nb l (pre.length : Int) r o) (j : Int)
  | [], pre, o, h, hl, hd => by
    rw [List.append_nil] at h
    subst h
    exact ⟨hl, hd⟩
  | c :: r, pre, o, h, hl, hd => by
    obtain ⟨h1, h2⟩ := step_next (nb := nb) (l := l) (o := o) (i := pre.length) hl (by rw [h]; simp) hd
    have := partsF_fine (nb := nb) r (pre ++ [c]) _ (by rw [h]; simp) h1 (by simpa using h2)
    rw [List.length_append] at this
    exact this
theorem partsR_len (nb : Cell → List Cell) (l : List Cell) : (partsR nb l).length = l.length := (partsF_fine l [] _ rfl (by simp) (fun j hj => by simp at hj)).1
theorem wf64 {n : Int} (h : -9223372036854775808 ≤ n) (h' : n ≤ 9223372036854775807) : (Lit.int .i64 n).wf = true := by
  simp only [Lit.wf, IntKind.min, IntKind.max, IntKind.signed, IntKind.bits, Bool.and_eq_true, decide_eq_true_eq, if_true]; omega
theorem wf_wrap (n : Int) : (Lit.int .i64 (wrap64 n)).wf = true := wf64 (by unfold wrap64; omega) (by unfold wrap64; omega)
theorem lastIdx_eq (c : Cell) : ∀ (l : List Cell) (i : Nat), l.Nodup → lastIdx l c i = if idxF l c (i : Int) ≥ 0 then some (idxF l c (i : Int)).toNat else none
  | [], i, _ => by simp [lastIdx, idxF]
  | a :: r, i, h => by
    obtain ⟨h1, h2⟩ := List.nodup_cons.1 h
    have ih := lastIdx_eq c r (i + 1) h2
    have e : ((i + 1 : Nat) : Int) = (i : Int) + 1 := by omega
    rw [e] at ih
    unfold lastIdx idxF
    rw [ih]
    by_cases hs : sameC a c = true
    · have hac := sameC_iff.1 hs
      rw [if_pos hs]
      have hn : ¬ idxF r c ((i : Int) + 1) ≥ 0 := by
        rcases idxF_spec r c ((i : Int) + 1) (by omega) with ⟨h3, _⟩ | ⟨j, _, _, h3, _⟩
        · omega
        · exact absurd (List.mem_of_getElem? h3) (hac ▸ h1)
      rw [if_neg hn]
      have : a.f0 = c.f0 ∧ a.f1 = c.f1 := by rw [hac]; exact ⟨rfl, rfl⟩
      simp only [this, and_self, if_true]
      simp
    · rw [if_neg hs]
      have hne : ¬ (a.f0 = c.f0 ∧ a.f1 = c.f1) := by
        intro h3
        apply hs
        simp [sameC, h3.1, h3.2]
      by_cases hg : idxF r c ((i : Int) + 1) ≥ 0
      · rw [if_pos hg]
      · rw [if_neg hg]
        simp only [hne, if_false]
theorem look_eq (l : List Cell) (d : Cell) (hn : l.Nodup) (hw : wfC d = true) : impl_partsLook.f l d.f0 d.f1 = some (if idxC l d ≥ 0 then (idxC l d, true) else (0, false)) := by
  unfold impl_partsLook.f
  have hw' : wfC ⟨d.f0, d.f1⟩ = true := hw
  rw [if_pos hw']
  have := lastIdx_eq d l 0 hn
  have e : lastIdx l ⟨d.f0, d.f1⟩ 0 = if idxC l d ≥ 0 then some (idxC l d).toNat else none := this
  rw [e]
  by_cases h : idxC l d ≥ 0
  · rw [if_pos h, if_pos h]
    simp only [Int.toNat_of_nonneg h]
  · rw [if_neg h, if_neg h]
theorem visit1_stable {l : List Cell} {i : Int} {s : List Int × List Int} (h : Fine l s.1 s.2) (d : Cell) (j : Int) (hj : 0 ≤ j) : (0 ≤ rd s.1 j → rd (visit1 l i s d).1 j = rd s.1 j) ∧ (rd (visit1 l i s d).1 j = rd s.1 j ∨ rd (visit1 l i s d).1 j = i) := by
  unfold visit1
  by_cases hc : idxC l d ≥ 0 ∧ rd s.1 (idxC l d) < 0
  · rw [if_pos hc]
    have hlt := idxC_lt l d
    have hln := h.len
    simp only
    rw [rd_set _ _ _ _ (by omega)]
    by_cases e : j.toNat = (idxC l d).toNat
    · rw [if_pos e]
      have : j = idxC l d := by omega
      subst this
      exact ⟨fun h => by omega, .inr rfl⟩
    · rw [if_neg e]
      exact ⟨fun _ => rfl, .inl rfl⟩
  · rw [if_neg hc]
    exact ⟨fun _ => rfl, .inl rfl⟩
theorem visit_stable {l : List Cell} {i : Int} (hi : 0 ≤ i) (j : Int) (hj : 0 ≤ j) : ∀ (ds : List Cell) {s : List Int × List Int}, Fine l s.1 s.2 → (0 ≤ rd s.1 j → rd (visit l i ds s).1 j = rd s.1 j) ∧ (rd (visit l i ds s).1 j = rd s.1 j ∨ rd (visit l i ds s).1 j = i)
  | [], s, h => ⟨fun _ => rfl, .inl rfl⟩
  | d :: r, s, h => by
    obtain ⟨h1, h2⟩ := visit1_stable (i := i) h d j hj
    obtain ⟨h3, h4⟩ := visit_stable hi j hj r (visit1_fine hi h d).1
    refine ⟨fun h5 => (h3 (by rw [h1 h5]; exact h5)).trans (h1 h5), ?_⟩
    show rd (visit l i r (visit1 l i s d)).1 j = _ ∨ _
    rcases h4 with h4 | h4
    · rcases h2 with h2 | h2
      · exact .inl (h4.trans h2)
      · exact .inr (h4.trans h2)
    · exact .inr h4
theorem bfs_stable {nb : Cell → List Cell} {l : List Cell} {i : Int} (hi : 0 ≤ i) (j : Int) (hj : 0 ≤ j) : ∀ (n : Nat) (o q : List Int), Fine l o q → (0 ≤ rd o j → rd (bfs nb l i n o q) j = rd o j) ∧ (rd (bfs nb l i n o q) j = rd o j ∨ rd (bfs nb l i n o q) j = i)
  | 0, o, q, h => ⟨fun _ => rfl, .inl rfl⟩
  | n + 1, o, [], h => ⟨fun _ => rfl, .inl rfl⟩
  | n + 1, o, c :: q, h => by
    have h' : Fine l o q := ⟨h.len, fun j hj => h.rng j (List.mem_cons_of_mem _ hj)⟩
    obtain ⟨h1, h2⟩ := visit_stable hi j hj (nb (rd_T44 l c)) (s := (o, q)) h'
    obtain ⟨h3, h4⟩ := bfs_stable (nb := nb) hi j hj n _ _ (visit_fine hi (nb (rd_T44 l c)) (s := (o, q)) h').1
    refine ⟨fun h5 => (h3 (by rw [h1 h5]; exact h5)).trans (h1 h5), ?_⟩
    unfold bfs
    rcases h4 with h4 | h4
    · rcases h2 with h2 | h2
      · exact .inl (h4.trans h2)
      · exact .inr (h4.trans h2)
    · exact .inr h4
theorem partsF_stable {nb : Cell → List Cell} {l : List Cell} (j : Int) (hj : 0 ≤ j) : ∀ (r pre : List Cell) (o : List Int), l = pre ++ r → o.length = l.length → 0 ≤ rd o j → rd (partsF nb l (pre.length : Int) r o) j = rd o j
  | [], pre, o, h, hl, hd => rfl
  | c :: r, pre, o, h, hl, hd => by
    have hp : pre.length < l.length := by rw [h]; simp
    have e : rd (if rd o (pre.length : Int) ≥ 0 then o else bfs nb l (pre.length : Int) l.length (o.set pre.length (pre.length : Int)) [(pre.length : Int)]) j = rd o j ∧ (if rd o (pre.length : Int) ≥ 0 then o else bfs nb l (pre.length : Int) l.length (o.set pre.length (pre.length : Int)) [(pre.length : Int)]).length = l.length := by
      by_cases hg : rd o (pre.length : Int) ≥ 0
      · rw [if_pos hg]; exact ⟨rfl, hl⟩
      · rw [if_neg hg]
        obtain ⟨h1, _⟩ := step_fine hl hp hg
        have e1 : rd (o.set pre.length (pre.length : Int)) j = rd o j := by
          rw [rd_set _ _ _ _ (by omega), if_neg]
          intro e
          have : j = (pre.length : Int) := by omega
          exact hg (this ▸ hd)
        refine ⟨?_, (bfs_fine (by omega) l.length _ _ h1).1⟩
        rw [(bfs_stable (nb := nb) (i := (pre.length : Int)) (by omega) j hj l.length _ _ h1).1 (by rw [e1]; exact hd), e1]
    have := partsF_stable (nb := nb) j hj r (pre ++ [c]) _ (by rw [h]; simp) e.2 (by rw [e.1]; exact hd)
    rw [List.length_append] at this
    exact this.trans e.1
def first (nb : Cell → List Cell) (l : List Cell) : List Int := bfs nb l 0 l.length ((List.replicate l.length (-1 : Int)).set 0 0) [0]
theorem rd_rep {n j : Nat} (h : j < n) : rd (List.replicate n (-1 : Int)) (j : Int) = -1 := by
  unfold rd
  rw [List.getD_eq_getElem?_getD, Int.toNat_natCast, List.getElem?_eq_getElem (by simpa using h)]
  simp
theorem first_fine (l : List Cell) (h0 : l ≠ []) : Fine l ((List.replicate l.length (-1 : Int)).set 0 0) [0] ∧ negs ((List.replicate l.length (-1 : Int)).set 0 0) + 1 = l.length := by
  have hp := List.length_pos_iff.2 h0
  refine ⟨⟨by simp, fun j hj => by simp at hj; omega⟩, ?_⟩
  have h1 := negs_set (List.replicate l.length (-1 : Int)) 0 0 (by omega) (by simp; omega) (by have := rd_rep (n := l.length) (j := 0) hp; rw [Int.natCast_zero] at this; omega) (by omega)
  have h2 : negs (List.replicate l.length (-1 : Int)) = l.length := by
    unfold negs
    rw [List.countP_replicate]
    simp
  rw [h2] at h1
  exact h1
def RootsTo (n : Nat) (o : List Int) : Prop := ∀ j : Nat, j < n → rd o (j : Int) < 0 ∨ (0 ≤ rd o (j : Int) ∧ rd o (j : Int) ≤ (j : Int) ∧ rd o (rd o (j : Int)) = rd o (j : Int))
theorem bfs_roots {nb : Cell → List Cell} {l : List Cell} {o : List Int} {p : Nat} (hl : o.length = l.length) (hp : p < l.length) (hg : ¬ rd o (p : Int) ≥ 0) (hd : ∀ j : Nat, j < p → 0 ≤ rd o (j : Int)) (hR : RootsTo l.length o) :
    RootsTo l.length (bfs nb l (p : Int) l.length (o.set p (p : Int)) [(p : Int)]) := by
  obtain ⟨h5, _⟩ := step_fine hl hp hg
  have hi : 0 ≤ (p : Int) := by omega
  have hs : ∀ j : Nat, rd (o.set p (p : Int)) (j : Int) = if j = p then (p : Int) else rd o (j : Int) := fun j => by
    rw [rd_set o p (p : Int) (j : Int) (by omega), Int.toNat_natCast]
  have hpp : rd (bfs nb l (p : Int) l.length (o.set p (p : Int)) [(p : Int)]) (p : Int) = (p : Int) := by
    have := (bfs_stable (nb := nb) hi (p : Int) hi l.length _ _ h5).1
    rw [hs, if_pos rfl] at this
    exact this hi
  have hkeep : ∀ j : Nat, 0 ≤ rd o (j : Int) → rd (bfs nb l (p : Int) l.length (o.set p (p : Int)) [(p : Int)]) (j : Int) = rd o (j : Int) := fun j h0 => by
    have := (bfs_stable (nb := nb) hi (j : Int) (by omega) l.length _ _ h5).1
    have hne : j ≠ p := by rintro rfl; exact hg h0
    rw [hs, if_neg hne] at this
    exact this h0
  intro j hj
  have h2 := (bfs_stable (nb := nb) hi (j : Int) (by omega) l.length _ _ h5).2
  rw [hs] at h2
  have h3 : rd (bfs nb l (p : Int) l.length (o.set p (p : Int)) [(p : Int)]) (j : Int) = rd o (j : Int) ∨ (rd (bfs nb l (p : Int) l.length (o.set p (p : Int)) [(p : Int)]) (j : Int) = (p : Int) ∧ p ≤ j) := by
    by_cases e : j = p
    · subst e
      exact .inr ⟨hpp, Nat.le_refl _⟩
    · rw [if_neg e] at h2
      rcases h2 with h2 | h2
      · exact .inl h2
      · by_cases hlt : j < p
        · exact .inl (hkeep j (hd j hlt))
        · exact .inr ⟨h2, by omega⟩
  generalize bfs nb l (p : Int) l.length (o.set p (p : Int)) [(p : Int)] = o' at *
  rcases h3 with h3 | ⟨h3, h4⟩
  · rcases hR j hj with h | ⟨h6, h7, h8⟩
    · exact .inl (by omega)
    · refine .inr ?_
      rw [h3]
      refine ⟨h6, h7, ?_⟩
      obtain ⟨v, hv⟩ : ∃ v : Nat, rd o (j : Int) = (v : Int) := ⟨(rd o (j : Int)).toNat, by omega⟩
      rw [hv] at h8 ⊢
      rw [hkeep v (by omega), h8]
  · refine .inr ?_
    rw [h3]
    exact ⟨by omega, by omega, hpp⟩
theorem partsF_roots {nb : Cell → List Cell} {l : List Cell} : ∀ (r pre : List Cell) (o : List Int), l = pre ++ r → o.length = l.length → (∀ j : Nat, j < pre.length → 0 ≤ rd o (j : Int)) → RootsTo l.length o → RootsTo l.length (partsF nb l (pre.length : Int) r o)
  | [], pre, o, h, hl, hd, hR => hR
  | c :: r, pre, o, h, hl, hd, hR => by
    have hp : pre.length < l.length := by rw [h]; simp
    obtain ⟨h3, h4⟩ := step_next (nb := nb) hl hp hd
    have hstep : RootsTo l.length (if rd o (pre.length : Int) ≥ 0 then o else bfs nb l (pre.length : Int) l.length (o.set pre.length (pre.length : Int)) [(pre.length : Int)]) := by
      by_cases hg : rd o (pre.length : Int) ≥ 0
      · rw [if_pos hg]; exact hR
      · rw [if_neg hg]; exact bfs_roots hl hp hg hd hR
    have ih := partsF_roots (nb := nb) r (pre ++ [c]) _ (by rw [h]; simp) h3 (by simpa using h4) hstep
    unfold partsF
    rw [Int.toNat_natCast]
    have hl2 : ((pre ++ [c]).length : Int) = (pre.length : Int) + 1 := by simp
    rw [hl2] at ih
    exact ih
theorem partsR_root (nb : Cell → List Cell) (l : List Cell) (j : Nat) (hj : j < l.length) : 0 ≤ rd (partsR nb l) (j : Int) ∧ rd (partsR nb l) (j : Int) ≤ (j : Int) ∧ rd (partsR nb l) (rd (partsR nb l) (j : Int)) = rd (partsR nb l) (j : Int) := by
  have h1 := partsF_roots (nb := nb) (l := l) l [] (List.replicate l.length (-1)) rfl (by simp) (fun j hj => by simp at hj) (fun j hj => .inl (by rw [rd_rep hj]; omega)) j hj
  have h2 := (partsF_fine (nb := nb) (l := l) l [] (List.replicate l.length (-1)) rfl (by simp) (fun j hj => by simp at hj)).2 j hj
  unfold partsR
  rcases h1 with h1 | h1
  · exact absurd h2 (by simp only [List.length_nil, Int.natCast_zero] at h1 ⊢; omega)
  · exact h1
end Go.Proofs.Ytaecheolnpofeaa.L
end
section
namespace Go.Proofs.Ytaecheolnpofeaa.L
open Go.RowKit Go.Proofs.YtaecheolnpofeaaW.PrintWords Go.Proofs.YtaecheolnpofeaaW.PrintLast Go.Proofs.YtaecheolnpofeaaW.PrintMore Go.Proofs.Ytaecheolnpofeaa.F
set_option linter.unusedVariables false
def aroundC (c : Cell) : List Cell := [⟨c.f0, wrap64 (c.f1 - 1)⟩, ⟨wrap64 (c.f0 - 1), c.f1⟩, ⟨wrap64 (c.f0 + 1), c.f1⟩, ⟨c.f0, wrap64 (c.f1 + 1)⟩]
theorem specAround_eq (c : Cell) : spec_l02Around.f c.f0 c.f1 = some (aroundC c) := rfl
theorem implAround_eq (c : Cell) : impl_around.f c.f0 c.f1 = some (aroundC c) := rfl
end Go.Proofs.Ytaecheolnpofeaa.L
end
section
namespace Go.Proofs.Ytaecheolnpofeaa.L
open Go.RowKit Go.Proofs.YtaecheolnpofeaaW.PrintWords Go.Proofs.Ytaecheolnpofeaa.F
set_option linter.unusedVariables false
theorem aroundC_len (c : Cell) : (aroundC c).length ≤ 16 := by simp [aroundC]
theorem aroundC_wf {c : Cell} (h : wfC c = true) : ∀ d ∈ aroundC c, wfC d = true := by
  unfold wfC at h
  rw [Bool.and_eq_true] at h
  intro d hd
  simp only [aroundC, List.mem_cons, List.not_mem_nil, or_false] at hd
  rcases hd with rfl | rfl | rfl | rfl <;> simp [wfC, h.1, h.2, wf_wrap]
end Go.Proofs.Ytaecheolnpofeaa.L
end
section
namespace Go.Proofs.Ytaecheolnpofeaa.L
open Go.RowKit Go.Proofs.YtaecheolnpofeaaW.PrintWords Go.Proofs.YtaecheolnpofeaaW.PrintLast Go.Proofs.YtaecheolnpofeaaW.PrintMore Go.Proofs.Ytaecheolnpofeaa.F
set_option linter.unusedVariables false
set_option linter.unusedSimpArgs false
theorem pa_l3 (l : List Cell) (hl : l.length ≤ 1048576) (hn : l.Nodup) (i : Int) (hi : 0 ≤ i) (xs : List Cell) (hx4 : xs.length ≤ 16) (hwx : ∀ d ∈ xs, wfC d = true) (o p q : List Int) (hf : Fine l o q) (hb : negs o + (p ++ q).length ≤ l.length) (at_ len_ n_ : Int) {r : List Int}
    (hc : Ev (fun k => impl_parts__impl_around.l2 k l (visit l i xs (o, q)).1 i (p ++ (visit l i xs (o, q)).2) (wrap64 (at_ + 1)) len_ n_) r) :
    Ev (fun k => impl_parts__impl_around.l3 k l o i (p ++ q) at_ len_ n_ xs (xs.length : Int) 0) r := by
  have hsm : small xs := by unfold small; omega
  refine loop_list xs (fun k j (s : List Int × List Int) => impl_parts__impl_around.l3 k l s.1 i (p ++ s.2) at_ len_ n_ xs (xs.length : Int) j) (fun _ _ _ => r) (fun pre s => s = visit l i pre (o, q)) ?_ ?_ (o, q) rfl
  · rintro s rfl
    simp only [impl_parts__impl_around.l3, len_lt, if_false]
    exact hc
  · rintro pre d suf s hx rfl ih
    obtain ⟨h1, h2, h3, _⟩ := visit_fine hi pre (s := (o, q)) hf
    simp only at h2 h3
    have hln := h1.len
    have hd : wfC d = true := hwx d (by rw [hx]; simp)
    simp only [impl_parts__impl_around.l3, pre_lt hx, pre_0, if_true, at_pre hx, pre_w hx hsm, look_eq l d hn hd, Option.bind_some]
    have hlt := idxC_lt l d
    have hq : (p ++ (visit l i pre (o, q)).2).length ≤ l.length := by
      rw [List.length_append] at hb ⊢
      omega
    by_cases hg : idxC l d ≥ 0
    · simp only [hg, if_true]
      refine Ev.pos (by omega) ?_
      by_cases hr : rd (visit l i pre (o, q)).1 (idxC l d) < 0
      · refine Ev.pos hr (Ev.pos (by omega) ?_)
        have e : visit1 l i (visit l i pre (o, q)) d = ((visit l i pre (o, q)).1.set (idxC l d).toNat i, (visit l i pre (o, q)).2 ++ [idxC l d]) := by
          unfold visit1; rw [if_pos ⟨hg, hr⟩]
        have h := ih ((visit l i pre (o, q)).1.set (idxC l d).toNat i, (visit l i pre (o, q)).2 ++ [idxC l d]) (by rw [visit_snoc, e])
        rw [List.append_assoc]
        exact h
      · refine Ev.neg hr (ih _ ?_)
        rw [visit_snoc]
        unfold visit1
        rw [if_neg fun h => hr h.2]
    · simp only [hg, if_false, Bool.false_eq_true]
      refine ih _ ?_
      rw [visit_snoc]
      unfold visit1
      rw [if_neg fun h => hg h.1]
theorem pa_l2 (l : List Cell) (hl : l.length ≤ 1048576) (hn : l.Nodup) (hw : l.all wfC = true) (i : Int) (hi : 0 ≤ i) (len_ n_ : Int) {r : List Int} : ∀ (n : Nat) (o p q : List Int), Fine l o q → negs o + (p ++ q).length ≤ l.length → negs o + q.length ≤ n →
    Ev (fun k => impl_parts__impl_around.l1 k l (bfs aroundC l i n o q) len_ (wrap64 (n_ + 1))) r → Ev (fun k => impl_parts__impl_around.l2 k l o i (p ++ q) (p.length : Int) len_ n_) r := by
  intro n
  induction n with
  | zero =>
    intro o p q hf hb hm hc
    obtain rfl : q = [] := List.length_eq_zero_iff.1 (by omega)
    refine Ev.succ ?_
    simp only [impl_parts__impl_around.l2, List.append_nil, len_lt, if_false]
    exact hc
  | succ n ih =>
    intro o p q hf hb hm hc
    refine Ev.succ ?_
    cases q with
    | nil =>
      simp only [impl_parts__impl_around.l2, List.append_nil, len_lt, if_false]
      exact hc
    | cons c q =>
      have hr := hf.rng c List.mem_cons_self
      have hlen : (p ++ c :: q).length = p.length + (q.length + 1) := by simp
      have e1 : rd (p ++ c :: q) (p.length : Int) = c := by unfold rd; exact getD_at p q c _
      simp only [impl_parts__impl_around.l2, e1]
      refine Ev.pos (by rw [hlen]; omega) (Ev.pos (by omega) (Ev.pos hr.1 (Ev.pos hr.2 ?_)))
      simp only [implAround_eq, Option.bind_some]
      have hf' : Fine l o q := ⟨hf.len, fun j hj => hf.rng j (List.mem_cons_of_mem _ hj)⟩
      have hwc : wfC (rd_T44 l c) = true := by
        refine List.all_eq_true.1 hw _ ?_
        unfold rd_T44
        rw [List.getD_eq_getElem?_getD, List.getElem?_eq_getElem (show c.toNat < l.length by omega)]
        exact List.getElem_mem _
      obtain ⟨h1, h2, h3, _⟩ := visit_fine hi (aroundC (rd_T44 l c)) (s := (o, q)) hf'
      have ea : p ++ c :: q = (p ++ [c]) ++ q := by simp
      have ew : wrap64 ((p.length : Int) + 1) = ((p ++ [c]).length : Int) := by
        rw [w64 (by omega) (by omega)]; simp
      rw [ea] at hb ⊢
      refine pa_l3 l hl hn i hi (aroundC (rd_T44 l c)) (aroundC_len _) (aroundC_wf hwc) o (p ++ [c]) q hf' hb _ _ _ ?_
      rw [ew]
      refine ih _ _ _ h1 ?_ ?_ hc
      · simp only [List.length_append, List.length_singleton] at hb ⊢
        simp only at h2 h3
        omega
      · simp only [List.length_cons] at hm
        simp only at h2
        omega
theorem pa_ev (l : List Cell) (hl : l.length ≤ 1048576) (hn : l.Nodup) (hw : l.all wfC = true) : Ev (fun k => impl_parts__impl_around.f k l) (partsR aroundC l) := by
  have hs : small l := by unfold small; omega
  unfold impl_parts__impl_around.f
  refine Ev.pos hw (Ev.pos (by omega) (Ev.pos (by omega) ?_))
  have hz := loop_list l (fun k i (s : List Int) => impl_parts__impl_around.l0 k l s l (l.length : Int) i) (fun _ _ _ => partsR aroundC l) (fun pre s => s = List.replicate pre.length (-1) ++ List.replicate (l.length - pre.length) 0) ?_ ?_ (List.replicate (l.length : Int).toNat 0) (by simp)
  · exact hz
  · rintro s rfl
    simp only [impl_parts__impl_around.l0, len_lt, if_false, Nat.sub_self, List.replicate_zero, List.append_nil]
    have := loop_list l (fun k i (s : List Int) => impl_parts__impl_around.l1 k l s (l.length : Int) i) (fun pre suf s => partsF aroundC l (pre.length : Int) suf s) (fun pre s => s.length = l.length ∧ ∀ j : Nat, j < pre.length → 0 ≤ rd s (j : Int)) ?_ ?_ (List.replicate l.length (-1)) ⟨by simp, fun j hj => by simp at hj⟩
    · exact this
    · rintro s _
      simp only [impl_parts__impl_around.l1, len_lt, if_false]
      exact Ev.now _
    · rintro pre c suf s hx ⟨h1, h2⟩ ih
      have hp := pre_len hx
      obtain ⟨h3, h4⟩ := step_next (nb := aroundC) (l := l) (o := s) (i := pre.length) h1 hp h2
      have hlt : ((pre.length : Int) < (s.length : Int)) = True := by rw [h1]; exact pre_lt hx
      simp only [impl_parts__impl_around.l1, pre_lt hx, pre_0, if_true, hlt, pre_w hx hs, Int.toNat_natCast]
      have hih := ih _ ⟨h3, by simpa using h4⟩
      unfold partsF
      rw [Int.toNat_natCast]
      have ee : ((pre ++ [c]).length : Int) = (pre.length : Int) + 1 := by simp
      rw [ee] at hih
      by_cases hg : rd s (pre.length : Int) ≥ 0
      · rw [if_pos hg] at hih ⊢
        exact Ev.pos hg hih
      · rw [if_neg hg] at hih ⊢
        refine Ev.neg hg ?_
        obtain ⟨h5, h6⟩ := step_fine h1 hp hg
        have e0 : ([(pre.length : Int)] : List Int) = [] ++ [(pre.length : Int)] := rfl
        have := pa_l2 l hl hn hw (pre.length : Int) (by omega) (l.length : Int) (pre.length : Int) (r := partsF aroundC l ((pre.length : Int) + 1) suf (bfs aroundC l (pre.length : Int) l.length (s.set pre.length (pre.length : Int)) [(pre.length : Int)])) l.length (s.set pre.length (pre.length : Int)) [] [(pre.length : Int)] h5 (by simpa using h6) (by simpa using h6) (by
          rw [pre_w hx hs]; exact hih)
        exact this
  · rintro pre c suf s hx rfl ih
    have hp := pre_len hx
    have hlt : ((pre.length : Int) < ((List.replicate pre.length (-1 : Int) ++ List.replicate (l.length - pre.length) 0).length : Int)) = True := by simp; omega
    simp only [impl_parts__impl_around.l0, pre_lt hx, pre_0, if_true, hlt, pre_w hx hs, Int.toNat_natCast]
    refine ih _ ?_
    have e : l.length - pre.length = (l.length - (pre.length + 1)) + 1 := by omega
    simp only [List.length_append, List.length_singleton]
    rw [e, List.replicate_succ, List.set_append_right _ _ (by simp)]
    simp [List.replicate_succ', List.append_assoc]
theorem ps_l3 (l : List Cell) (hl : l.length ≤ 1048576) (i : Int) (hi : 0 ≤ i) (xs : List Cell) (hx4 : xs.length = 4) (o q : List Int) (hf : Fine l o q) (hb : negs o + q.length ≤ l.length) {r : List Int}
    (hc : Ev (fun k => spec_l02Parts.l2 k l (visit l i xs (o, q)).1 i (visit l i xs (o, q)).2) r) :
    Ev (fun k => spec_l02Parts.l3 k l o i q xs 0) r := by
  have hsm : small xs := by unfold small; omega
  have hs : small l := by unfold small; omega
  refine loop_list xs (fun k j (s : List Int × List Int) => spec_l02Parts.l3 k l s.1 i s.2 xs j) (fun _ _ _ => r) (fun pre s => s = visit l i pre (o, q)) ?_ ?_ (o, q) rfl
  · rintro s rfl
    have e0 : ¬ ((xs.length : Int) < 4) := by omega
    simp only [spec_l02Parts.l3, e0, if_false]
    exact hc
  · rintro pre d suf s hx rfl ih
    obtain ⟨h1, h2, h3, _⟩ := visit_fine hi pre (s := (o, q)) hf
    simp only at h2 h3
    have hln := h1.len
    have hp4 : ((pre.length : Int) < 4) = True := by have := pre_len hx; simp; omega
    simp only [spec_l02Parts.l3, hp4, pre_lt hx, pre_0, if_true, at_pre hx, pre_w hx hsm]
    refine Ev.bind (specIndex_ev l d hs) ?_
    have hlt := idxC_lt l d
    have hq : (visit l i pre (o, q)).2.length ≤ l.length := by omega
    by_cases hg : idxC l d ≥ 0
    · refine Ev.pos hg (Ev.pos hg (Ev.pos (by omega) ?_))
      by_cases hr : rd (visit l i pre (o, q)).1 (idxC l d) < 0
      · refine Ev.pos hr (Ev.pos (by omega) ?_)
        have e : visit1 l i (visit l i pre (o, q)) d = ((visit l i pre (o, q)).1.set (idxC l d).toNat i, (visit l i pre (o, q)).2 ++ [idxC l d]) := by
          unfold visit1; rw [if_pos ⟨hg, hr⟩]
        exact ih ((visit l i pre (o, q)).1.set (idxC l d).toNat i, (visit l i pre (o, q)).2 ++ [idxC l d]) (by rw [visit_snoc, e])
      · refine Ev.neg hr (ih _ ?_)
        rw [visit_snoc]
        unfold visit1
        rw [if_neg fun h => hr h.2]
    · refine Ev.neg hg (ih _ ?_)
      rw [visit_snoc]
      unfold visit1
      rw [if_neg fun h => hg h.1]
theorem ps_l2 (l : List Cell) (hl : l.length ≤ 1048576) (i : Int) (hi : 0 ≤ i) {r : List Int} : ∀ (n : Nat) (o q : List Int), Fine l o q → negs o + q.length ≤ l.length → negs o + q.length ≤ n →
    Ev (fun k => spec_l02Parts.l1 k l (bfs aroundC l i n o q) (wrap64 (i + 1))) r → Ev (fun k => spec_l02Parts.l2 k l o i q) r := by
  intro n
  induction n with
  | zero =>
    intro o q hf hb hm hc
    obtain rfl : q = [] := List.length_eq_zero_iff.1 (by omega)
    refine Ev.succ ?_
    simp only [spec_l02Parts.l2]
    exact Ev.neg (by simp) hc
  | succ n ih =>
    intro o q hf hb hm hc
    refine Ev.succ ?_
    cases q with
    | nil =>
      simp only [spec_l02Parts.l2]
      exact Ev.neg (by simp) hc
    | cons c q =>
      have hr := hf.rng c List.mem_cons_self
      have e1 : rd (c :: q) 0 = c := rfl
      have hlen : (c :: q).length = q.length + 1 := rfl
      simp only [spec_l02Parts.l2, e1]
      refine Ev.pos (by omega) (Ev.pos (by omega) (Ev.pos hr.1 (Ev.pos hr.2 ?_)))
      simp only [specAround_eq, Option.bind_some]
      refine Ev.pos (by omega) ?_
      have hf' : Fine l o q := ⟨hf.len, fun j hj => hf.rng j (List.mem_cons_of_mem _ hj)⟩
      obtain ⟨h1, h2, h3, _⟩ := visit_fine hi (aroundC (rd_T44 l c)) (s := (o, q)) hf'
      simp only at h2 h3
      have ed : (c :: q).drop (1 : Int).toNat = q := rfl
      rw [ed]
      refine ps_l3 l hl i hi _ rfl o q hf' (by omega) ?_
      exact ih _ _ h1 (by omega) (by omega) hc
theorem ps_ev (l : List Cell) (hl : l.length ≤ 1048576) : Ev (fun k => spec_l02Parts.f k l) (partsR aroundC l) := by
  have hs : small l := by unfold small; omega
  unfold spec_l02Parts.f
  have hz := loop_list l (fun k i (s : List Int) => spec_l02Parts.l0 k l s i) (fun _ _ _ => partsR aroundC l) (fun pre s => s = List.replicate pre.length (-1)) ?_ ?_ [] rfl
  · exact hz
  · rintro s rfl
    simp only [spec_l02Parts.l0, len_lt, if_false]
    have := loop_list l (fun k i (s : List Int) => spec_l02Parts.l1 k l s i) (fun pre suf s => partsF aroundC l (pre.length : Int) suf s) (fun pre s => s.length = l.length ∧ ∀ j : Nat, j < pre.length → 0 ≤ rd s (j : Int)) ?_ ?_ (List.replicate l.length (-1)) ⟨by simp, fun j hj => by simp at hj⟩
    · exact this
    · rintro s _
      simp only [spec_l02Parts.l1, len_lt, if_false]
      exact Ev.now _
    · rintro pre c suf s hx ⟨h1, h2⟩ ih
      have hp := pre_len hx
      obtain ⟨h3, h4⟩ := step_next (nb := aroundC) (l := l) (o := s) (i := pre.length) h1 hp h2
      have hlt : ((pre.length : Int) < (s.length : Int)) = True := by rw [h1]; exact pre_lt hx
      simp only [spec_l02Parts.l1, pre_lt hx, pre_0, if_true, hlt, pre_w hx hs, Int.toNat_natCast]
      have hih := ih _ ⟨h3, by simpa using h4⟩
      unfold partsF
      rw [Int.toNat_natCast]
      have ee : ((pre ++ [c]).length : Int) = (pre.length : Int) + 1 := by simp
      rw [ee] at hih
      by_cases hg : rd s (pre.length : Int) ≥ 0
      · rw [if_pos hg] at hih ⊢
        exact Ev.pos hg hih
      · rw [if_neg hg] at hih ⊢
        refine Ev.neg hg ?_
        obtain ⟨h5, h6⟩ := step_fine h1 hp hg
        exact ps_l2 l hl (pre.length : Int) (by omega) l.length _ _ h5 (by simpa using h6) (by simpa using h6) (by rw [pre_w hx hs]; exact hih)
  · rintro pre c suf s hx rfl ih
    have hp := pre_len hx
    simp only [spec_l02Parts.l0, pre_lt hx, if_true, pre_w hx hs]
    exact Ev.pos (by rw [List.length_replicate]; omega) (ih _ (by simp [List.replicate_succ']))
theorem grp_succ (l : List Cell) (p : List Int) (i : Nat) (k : Int) : grp l p (i + 1) k = grp l p i k ++ (if p.getD i 0 = k then [l.getD i z44] else []) := by
  unfold grp
  rw [List.range_succ, List.filter_append, List.map_append]
  by_cases e : p.getD i 0 = k
  · rw [if_pos e]
    have h9 : decide (p.getD i 0 = k) = true := decide_eq_true e
    rw [List.filter_cons, h9]
    simp only [if_true, List.filter_nil, List.map_cons, List.map_nil]
  · rw [if_neg e]
    have h9 : decide (p.getD i 0 = k) = false := decide_eq_false e
    rw [List.filter_cons, h9]
    simp
structure Marks (l : List Cell) (p : List Int) : Prop where
  len : p.length = l.length
  root : ∀ j : Nat, j < l.length → 0 ≤ rd p (j : Int) ∧ rd p (j : Int) ≤ (j : Int) ∧ rd p (rd p (j : Int)) = rd p (j : Int)
theorem marksR (l : List Cell) : Marks l (partsR aroundC l) := ⟨partsR_len _ _, fun j hj => partsR_root _ _ j hj⟩
theorem rd_nat (p : List Int) (j : Nat) : rd p (j : Int) = p.getD j 0 := by unfold rd; rw [Int.toNat_natCast]
theorem grp_none {l : List Cell} {p : List Int} (h : Marks l p) (i : Nat) (hi : i < l.length) (hr : p.getD i 0 = (i : Int)) : grp l p i (i : Int) = [] := by
  unfold grp
  rw [List.map_eq_nil_iff, List.filter_eq_nil_iff]
  intro j hj
  have hj' : j < i := List.mem_range.1 hj
  have := (h.root j (by omega)).2.1
  rw [rd_nat] at this
  simp only [decide_eq_true_eq]
  omega
theorem grp_zero {l : List Cell} {p : List Int} (h : Marks l p) (i : Nat) (hi : i < l.length) : (grp l p i (p.getD i 0)).length = 0 ↔ p.getD i 0 = (i : Int) := by
  constructor
  · intro h0
    obtain ⟨h1, h2, h3⟩ := h.root i hi
    rw [rd_nat] at h1 h2 h3
    obtain ⟨v, hv⟩ : ∃ v : Nat, p.getD i 0 = (v : Int) := ⟨(p.getD i 0).toNat, by omega⟩
    rw [hv] at h0 h2 h3 ⊢
    rw [rd_nat] at h3
    by_cases e : v = i
    · omega
    · exfalso
      have hl : grp l p i (v : Int) = [] := List.length_eq_zero_iff.1 h0
      unfold grp at hl
      rw [List.map_eq_nil_iff, List.filter_eq_nil_iff] at hl
      exact hl v (List.mem_range.2 (by omega)) (by simpa using h3)
  · intro h0
    rw [h0, grp_none h i hi h0]
    rfl
def rootsI (p : List Int) (m : Nat) : List Int := ((List.range m).filter fun j => decide (p.getD j 0 = (j : Int))).map fun j : Nat => (j : Int)
theorem rootsI_succ (p : List Int) (m : Nat) : rootsI p (m + 1) = rootsI p m ++ (if p.getD m 0 = (m : Int) then [(m : Int)] else []) := by
  unfold rootsI
  rw [List.range_succ, List.filter_append, List.map_append]
  by_cases e : p.getD m 0 = (m : Int)
  · rw [if_pos e]
    have h9 : decide (p.getD m 0 = (m : Int)) = true := decide_eq_true e
    rw [List.filter_cons, h9]
    simp only [if_true, List.filter_nil, List.map_cons, List.map_nil]
  · rw [if_neg e]
    have h9 : decide (p.getD m 0 = (m : Int)) = false := decide_eq_false e
    rw [List.filter_cons, h9]
    simp
theorem rootsI_len (p : List Int) (m : Nat) : (rootsI p m).length ≤ m := by
  unfold rootsI
  rw [List.length_map]
  have := List.length_filter_le (fun j : Nat => decide (p.getD j 0 = (j : Int))) (List.range m)
  rw [List.length_range] at this
  exact this
theorem rootsI_one {l : List Cell} {p : List Int} (h : Marks l p) (h0 : 0 < l.length) : rootsI p 1 = [0] := by
  have h1 := h.root 0 h0
  have h2 : p.getD 0 0 = ((0 : Nat) : Int) := by
    have := h1.1
    have := h1.2.1
    rw [rd_nat] at *
    omega
  rw [show (1 : Nat) = 0 + 1 from rfl, rootsI_succ, if_pos h2]
  rfl
theorem rootsI_first {l : List Cell} {p : List Int} (h : Marks l p) (m : Nat) (h0 : 0 < l.length) : ∃ r, rootsI p (m + 1) = 0 :: r := by
  induction m with
  | zero => exact ⟨[], rootsI_one h h0⟩
  | succ m ih =>
    obtain ⟨r, hr⟩ := ih
    rw [rootsI_succ, hr]
    exact ⟨_, rfl⟩
theorem rootsI_mem {p : List Int} {m : Nat} {x : Int} (hx : x ∈ rootsI p m) : 0 ≤ x ∧ x < (m : Int) := by
  unfold rootsI at hx
  obtain ⟨j, hj, rfl⟩ := List.mem_map.1 hx
  have := List.mem_range.1 (List.mem_filter.1 hj).1
  omega
def partsBut (l : List Cell) (p : List Int) (m : Nat) : List (List Cell) := ((rootsI p m).drop 1).map fun r => grp l p p.length r
def holesP (l : List Cell) : List (List Cell) := partsBut l (partsR aroundC l) l.length
theorem rd_pre {pre suf : List Int} {c : Int} {y : List Int} (hx : y = pre ++ c :: suf) : rd y (pre.length : Int) = c := by
  subst hx
  exact getD_at pre suf c 0
theorem impl_hl3 (l : List Cell) (p : List Int) (m : Nat) (hm : m ≤ 1048576) : Ev (fun k => impl_holes.l3 k l [] p ((rootsI p m).drop 1) (((rootsI p m).drop 1).length : Int) 0) (partsBut l p m) := by
  have hln : ((rootsI p m).drop 1).length ≤ 1048576 := by have := rootsI_len p m; rw [List.length_drop]; omega
  have hmem : ∀ x ∈ (rootsI p m).drop 1, 0 ≤ x ∧ x < (m : Int) := fun x hx => rootsI_mem (List.mem_of_mem_drop hx)
  unfold partsBut
  generalize (rootsI p m).drop 1 = y at *
  have hs : small y := by unfold small; omega
  have := loop_list y (fun k i (s : List (List Cell)) => impl_holes.l3 k l s p y (y.length : Int) i) (fun _ _ _ => y.map fun r => grp l p p.length r) (fun pre s => s = pre.map fun r => grp l p p.length r) ?_ ?_ [] rfl
  · exact this
  · rintro s rfl
    simp only [impl_holes.l3, len_lt, if_false]
    exact Ev.now _
  · rintro pre c suf s hx rfl ih
    have hc := hmem c (by rw [hx]; simp)
    have hp := pre_len hx
    have hrow : impl_holesRow.f l p c = some (grp l p p.length c) := by
      unfold impl_holesRow.f
      rw [if_pos (wf64 (by omega) (by omega))]
    simp only [impl_holes.l3, pre_lt hx, pre_0, if_true, pre_w hx hs, rd_pre hx]
    refine Ev.bind0 hrow (Ev.pos (by rw [List.length_map]; omega) (ih _ (by simp)))
theorem impl_hl2 {l : List Cell} {p : List Int} (h : Marks l p) (h0 : 0 < l.length) (hl : l.length ≤ 1048576) : Ev (fun k => impl_holes.l2 k l [] p (p.length : Int) 0) (partsBut l p l.length) := by
  have hpl := h.len
  have hs : small p := by unfold small; omega
  have := loop_list p (fun k i (s : List Int) => impl_holes.l2 k l s p (p.length : Int) i) (fun _ _ _ => partsBut l p l.length) (fun pre s => s = rootsI p pre.length) ?_ ?_ [] rfl
  · exact this
  · rintro s rfl
    rw [hpl]
    obtain ⟨m, hm⟩ : ∃ m, l.length = m + 1 := ⟨l.length - 1, by omega⟩
    obtain ⟨r, hr⟩ := rootsI_first h m h0
    have h1 : (1 : Int) ≤ ((rootsI p l.length).length : Int) := by rw [hm, hr, List.length_cons]; omega
    have hlt : ((l.length : Int) < (l.length : Int)) = False := by simp
    simp only [impl_holes.l2, hlt, if_false]
    exact Ev.pos h1 (Ev.bind0 rfl (impl_hl3 l p l.length hl))
  · rintro pre c suf s hx rfl ih
    have hp := pre_len hx
    have hi : pre.length < l.length := by omega
    obtain ⟨r1, r2, r3⟩ := h.root pre.length hi
    have hc : rd p (pre.length : Int) = c := rd_pre hx
    have hlenf : impl_holesLen.f l p (pre.length : Int) c = some ((grp l p pre.length c).length : Int) := by
      unfold impl_holesLen.f
      rw [if_pos ⟨wf64 (by omega) (by omega), by omega, by omega, by omega⟩, Int.toNat_natCast]
    have hz := grp_zero h pre.length hi
    rw [rd_nat] at hc
    rw [hc] at hz
    have hc' : rd p (pre.length : Int) = c := rd_pre hx
    simp only [impl_holes.l2, pre_lt hx, pre_0, if_true, pre_w hx hs, hc']
    refine Ev.bind0 hlenf ?_
    have hl9 := rootsI_len p pre.length
    by_cases e : (grp l p pre.length c).length = 0
    · refine Ev.pos (by omega) (Ev.pos (by omega) (ih _ ?_))
      rw [List.length_append, List.length_singleton, rootsI_succ, hc, if_pos (hz.1 e), hz.1 e]
    · refine Ev.neg (by omega) (ih _ ?_)
      rw [List.length_append, List.length_singleton, rootsI_succ, hc, if_neg (fun e2 => e (hz.2 e2)), List.append_nil]
theorem spec_hl3 {l : List Cell} {p : List Int} (h : Marks l p) (hl : l.length ≤ 1048576) (root : Int) (out : List (List Cell)) (ho : out.length ≤ 1048576) {r : List (List Cell)} (hk : Ev (fun k => spec_l06Holes.l2 k l p (out ++ [grp l p p.length root]) (wrap64 (root + 1))) r) :
    ∀ (suf pre : List Cell), l = pre ++ suf → Ev (fun k => spec_l06Holes.l3 k l p out root (grp l p pre.length root) (pre.length : Int)) r := by
  have hs : small l := by unfold small; omega
  intro suf
  induction suf with
  | nil =>
    intro pre hx
    rw [List.append_nil] at hx
    subst hx
    refine Ev.succ ?_
    simp only [spec_l06Holes.l3, len_lt, if_false]
    rw [← h.len]
    exact Ev.pos (by omega) hk
  | cons c suf ih =>
    intro pre hx
    refine Ev.succ ?_
    have hp := pre_len hx
    have hlt : ((pre.length : Int) < (p.length : Int)) = True := by rw [h.len]; exact pre_lt hx
    have ih' := ih (pre ++ [c]) (by rw [hx]; simp)
    have ee : ((pre ++ [c]).length : Int) = (pre.length : Int) + 1 := by simp
    have e1 : (pre ++ [c]).length = pre.length + 1 := by simp
    rw [ee, e1, grp_succ] at ih'
    have hg := grp_len l p pre.length root
    have hat : l.getD pre.length z44 = c := by rw [hx]; simp [List.getD]
    simp only [spec_l06Holes.l3, pre_lt hx, pre_0, if_true, pre_w hx hs, hlt, at_pre hx, rd_nat]
    rw [hat] at ih'
    by_cases e : p.getD pre.length 0 = root
    · rw [if_pos e] at ih'
      exact Ev.pos e (Ev.pos (by omega) ih')
    · rw [if_neg e, List.append_nil] at ih'
      exact Ev.neg e ih'
theorem spec_hl2 {c : Cell} {r : List Cell} {p : List Int} (h : Marks (c :: r) p) (hl : (c :: r).length ≤ 1048576) : Ev (fun k => spec_l06Holes.l2 k (c :: r) p [] 1) (partsBut (c :: r) p (c :: r).length) := by
  have hs : small (c :: r) := by unfold small; omega
  have h0 : 0 < (c :: r).length := by simp
  have := loop_tail c r (fun k i (s : List (List Cell)) => spec_l06Holes.l2 k (c :: r) p s i) (fun _ _ _ => partsBut (c :: r) p (c :: r).length) (fun pre s => s = partsBut (c :: r) p pre.length) ?_ ?_ [] ?_
  · exact this
  · rintro s rfl
    simp only [spec_l06Holes.l2, len_lt, if_false]
    exact Ev.now _
  · rintro pre d suf s hx hne rfl ih
    have hp := pre_len hx
    have hp0 : 0 < pre.length := List.length_pos_iff.2 hne
    have hlt : ((pre.length : Int) < (p.length : Int)) = True := by rw [h.len]; exact pre_lt hx
    obtain ⟨m, hm⟩ : ∃ m, pre.length = m + 1 := ⟨pre.length - 1, by omega⟩
    obtain ⟨t, ht⟩ := rootsI_first h m h0
    rw [← hm] at ht
    have hbut : partsBut (c :: r) p (pre.length + 1) = partsBut (c :: r) p pre.length ++ (if p.getD pre.length 0 = (pre.length : Int) then [grp (c :: r) p p.length (pre.length : Int)] else []) := by
      unfold partsBut
      rw [rootsI_succ, ht, List.cons_append, List.drop_one, List.drop_one, List.tail_cons, List.tail_cons, List.map_append]
      by_cases e : p.getD pre.length 0 = (pre.length : Int)
      · rw [if_pos e, if_pos e]; rfl
      · rw [if_neg e, if_neg e]; rfl
    have e1 : (pre ++ [d]).length = pre.length + 1 := by simp
    have hlb : (partsBut (c :: r) p pre.length).length ≤ 1048576 := by
      unfold partsBut
      have := rootsI_len p pre.length
      rw [List.length_map, List.length_drop]
      omega
    simp only [spec_l06Holes.l2, pre_lt hx, pre_0, if_true, hlt, rd_nat]
    by_cases e : p.getD pre.length 0 = (pre.length : Int)
    · refine Ev.pos e ?_
      have hz := spec_hl3 h hl (pre.length : Int) (partsBut (c :: r) p pre.length) hlb (r := partsBut (c :: r) p (c :: r).length) (by rw [pre_w hx hs]; exact ih _ (by rw [e1, hbut, if_pos e])) (d :: suf) pre hx
      rw [grp_none h pre.length hp e] at hz
      exact hz
    · refine Ev.neg e ?_
      rw [pre_w hx hs]
      exact ih _ (by rw [e1, hbut, if_neg e, List.append_nil])
  · show [] = partsBut (c :: r) p 1
    unfold partsBut
    rw [rootsI_one h h0]
    rfl
theorem implIndex_ev (l : List Cell) (c : Cell) (hs : small l) : Ev (fun k => impl_Cell_57.f k l c.f0 c.f1) (idxC l c) := by
  unfold impl_Cell_57.f
  refine loop_list l (fun k i (_ : Unit) => impl_Cell_57.l0 k l (l.length : Int) i c.f0 c.f1) (fun pre suf _ => idxF suf c (pre.length : Int)) (fun _ _ => True) ?_ ?_ () trivial
  · intro _ _
    simp only [impl_Cell_57.l0, len_lt, if_false]
    exact Ev.now _
  · intro pre d suf _ hx _ ih
    simp only [impl_Cell_57.l0, pre_lt hx, pre_0, if_true, at_pre hx, pre_w hx hs, idxF]
    have e : (c.f0 == d.f0 && c.f1 == d.f1) = sameC d c := by
      rw [Bool.eq_iff_iff]
      simp only [sameC, Bool.and_eq_true, beq_iff_eq, decide_eq_true_eq]
      constructor <;> (rintro ⟨h, h'⟩; exact ⟨h.symm, h'.symm⟩)
    rw [e]
    refine Ev.if_ (fun _ => Ev.now _) (fun _ => Ev.of_eq (ih () trivial) ?_)
    simp
theorem implContains_ev (l : List Cell) (c : Cell) (hs : small l) : Ev (fun k => impl_Cell_36.f k l c.f0 c.f1) (decide (idxC l c ≥ 0)) := by
  unfold impl_Cell_36.f
  exact Ev.bind (implIndex_ev l c hs) (Ev.now _)
def rowF (l : List Cell) (y : Int) : Nat → Int → List Cell
  | 0, _ => []
  | n + 1, x => (if idxC l ⟨x, y⟩ < 0 then [⟨x, y⟩] else []) ++ rowF l y n (x + 1)
def boxF (l : List Cell) (x0 : Int) (w : Nat) : Nat → Int → List Cell
  | 0, _ => []
  | n + 1, y => rowF l y w x0 ++ boxF l x0 w n (y + 1)
def freeL (l : List Cell) : List Cell := boxF l ((leastOf l).1 - 1) ((reachOf l).1 - (leastOf l).1 + 3).toNat ((reachOf l).2 - (leastOf l).2 + 3).toNat ((leastOf l).2 - 1)
def holesL (l : List Cell) : List (List Cell) := holesP (freeL l)
theorem rowF_in (l : List Cell) (y : Int) : ∀ (n : Nat) (x : Int), ∀ c ∈ rowF l y n x, c.f1 = y ∧ x ≤ c.f0 ∧ c.f0 < x + n
  | 0, x, c, h => by cases h
  | n + 1, x, c, h => by
    unfold rowF at h
    rcases List.mem_append.1 h with h | h
    · by_cases e : idxC l ⟨x, y⟩ < 0
      · rw [if_pos e] at h
        obtain rfl := List.mem_singleton.1 h
        exact ⟨rfl, by show x ≤ x; omega, by show x < x + _; omega⟩
      · rw [if_neg e] at h
        cases h
    · have := rowF_in l y n (x + 1) c h
      exact ⟨this.1, by omega, by omega⟩
theorem rowF_len (l : List Cell) (y : Int) : ∀ (n : Nat) (x : Int), (rowF l y n x).length ≤ n
  | 0, x => Nat.le_refl _
  | n + 1, x => by
    unfold rowF
    rw [List.length_append]
    have := rowF_len l y n (x + 1)
    split <;> simp <;> omega
theorem rowF_nodup (l : List Cell) (y : Int) : ∀ (n : Nat) (x : Int), (rowF l y n x).Nodup
  | 0, x => List.nodup_nil
  | n + 1, x => by
    unfold rowF
    have h := rowF_nodup l y n (x + 1)
    by_cases e : idxC l ⟨x, y⟩ < 0
    · rw [if_pos e]
      refine List.nodup_cons.2 ⟨fun hm => ?_, h⟩
      have := (rowF_in l y n (x + 1) _ hm).2.1
      have h2 : x + 1 ≤ x := this
      omega
    · rw [if_neg e]
      exact h
theorem boxF_in (l : List Cell) (x0 : Int) (w : Nat) : ∀ (n : Nat) (y : Int), ∀ c ∈ boxF l x0 w n y, y ≤ c.f1 ∧ c.f1 < y + n ∧ x0 ≤ c.f0 ∧ c.f0 < x0 + w
  | 0, y, c, h => by cases h
  | n + 1, y, c, h => by
    unfold boxF at h
    rcases List.mem_append.1 h with h | h
    · have := rowF_in l y w x0 c h
      exact ⟨by omega, by omega, by omega, by omega⟩
    · have := boxF_in l x0 w n (y + 1) c h
      exact ⟨by omega, by omega, by omega, by omega⟩
theorem boxF_len (l : List Cell) (x0 : Int) (w : Nat) : ∀ (n : Nat) (y : Int), (boxF l x0 w n y).length ≤ n * w
  | 0, y => by simp [boxF]
  | n + 1, y => by
    unfold boxF
    rw [List.length_append, Nat.succ_mul]
    have := rowF_len l y w x0
    have := boxF_len l x0 w n (y + 1)
    omega
theorem boxF_nodup (l : List Cell) (x0 : Int) (w : Nat) : ∀ (n : Nat) (y : Int), (boxF l x0 w n y).Nodup
  | 0, y => List.nodup_nil
  | n + 1, y => by
    unfold boxF
    refine List.nodup_append.2 ⟨rowF_nodup l y w x0, boxF_nodup l x0 w n (y + 1), fun a ha b hb e => ?_⟩
    have h1 := (rowF_in l y w x0 a ha).1
    have h2 := (boxF_in l x0 w n (y + 1) b hb).1
    rw [← e] at h2
    omega
theorem box_bd {l : List Cell} (h : shapeB l = true) : -100 ≤ (leastOf l).1 ∧ (leastOf l).1 ≤ (reachOf l).1 ∧ (reachOf l).1 ≤ 100 ∧ -100 ≤ (leastOf l).2 ∧ (leastOf l).2 ≤ (reachOf l).2 ∧ (reachOf l).2 ≤ 100 := by
  have h0 := shape_ne h
  obtain ⟨ho, _, _, _⟩ := shapeB_iff.1 h
  obtain ⟨⟨a, ha, ea⟩, ⟨b, hb, eb⟩⟩ := least_mem h0
  obtain ⟨⟨c, hc, ec⟩, ⟨d, hd, ed⟩⟩ := reach_mem h0
  have h1 := ho a ha
  have h2 := ho b hb
  have h3 := ho c hc
  have h4 := ho d hd
  have h5 := least_le hc
  have h6 := least_le hd
  unfold okC ok1 at h1 h2 h3 h4
  omega
theorem freeL_ok {l : List Cell} (h : shapeB l = true) : freeL l ≠ [] ∧ (freeL l).length ≤ 1000000 ∧ (freeL l).Nodup ∧ (freeL l).all wfC = true := by
  have hb := box_bd h
  refine ⟨?_, ?_, boxF_nodup _ _ _ _ _, ?_⟩
  · unfold freeL
    obtain ⟨w, hw⟩ : ∃ w, ((reachOf l).1 - (leastOf l).1 + 3).toNat = w + 1 := ⟨((reachOf l).1 - (leastOf l).1 + 2).toNat, by omega⟩
    obtain ⟨n, hn⟩ : ∃ n, ((reachOf l).2 - (leastOf l).2 + 3).toNat = n + 1 := ⟨((reachOf l).2 - (leastOf l).2 + 2).toNat, by omega⟩
    rw [hw, hn]
    unfold boxF rowF
    have hlt : idxC l ⟨(leastOf l).1 - 1, (leastOf l).2 - 1⟩ < 0 := by
      rcases idxC_spec l ⟨(leastOf l).1 - 1, (leastOf l).2 - 1⟩ with ⟨e, _⟩ | ⟨j, h1, h2, h3, _⟩
      · omega
      · have := least_le (List.mem_of_getElem? h3)
        have h4 : (leastOf l).1 ≤ (leastOf l).1 - 1 := this.1
        omega
    rw [if_pos hlt]
    simp
  · unfold freeL
    refine Nat.le_trans (boxF_len _ _ _ _ _) (Nat.le_trans (Nat.mul_le_mul (show _ ≤ 203 by omega) (show _ ≤ 203 by omega)) (by decide))
  · refine List.all_eq_true.2 fun c hc => ?_
    have := boxF_in l _ _ _ _ c hc
    unfold wfC
    rw [wf64 (by omega) (by omega), wf64 (by omega) (by omega)]
    rfl
theorem spec_hr (l : List Cell) (hs : small l) (x3 x4 x5 x6 y : Int) (hx : -1000 ≤ x3 + x5 ∧ x3 + x5 ≤ 1000) {r : List (List Cell)} : ∀ (n : Nat) (x : Int) (acc : List Cell), x + n = x3 + x5 + 1 → acc.length + n ≤ 2000000 → n ≤ 1000 →
    Ev (fun k => spec_l06Holes.l0 k l x3 x4 x5 x6 (acc ++ rowF l y n x) (wrap64 (y + 1))) r → Ev (fun k => spec_l06Holes.l1 k l x3 x4 x5 x6 acc y x) r
  | 0, x, acc, h, ha, hn, hk => by
    refine Ev.succ ?_
    have hw : wrap64 (x3 + x5) = x3 + x5 := w64 (by omega) (by omega)
    have hc : (x ≤ x3 + x5) = False := by simp; omega
    simp only [spec_l06Holes.l1, hw, hc, if_false]
    have : acc ++ rowF l y 0 x = acc := by simp [rowF]
    rw [this] at hk
    exact hk
  | n + 1, x, acc, h, ha, hn, hk => by
    refine Ev.succ ?_
    have hw : wrap64 (x3 + x5) = x3 + x5 := w64 (by omega) (by omega)
    have hc : (x ≤ x3 + x5) = True := by simp; omega
    have hw1 : wrap64 (x + 1) = x + 1 := w64 (by omega) (by omega)
    simp only [spec_l06Holes.l1, hw, hc, if_true, hw1]
    refine Ev.bind (specIndex_ev l ⟨x, y⟩ hs) ?_
    unfold rowF at hk
    by_cases e : idxC l ⟨x, y⟩ < 0
    · rw [if_pos e, ← List.append_assoc] at hk
      exact Ev.pos e (Ev.pos (by omega) (spec_hr l hs x3 x4 x5 x6 y hx n (x + 1) _ (by omega) (by rw [List.length_append, List.length_singleton]; omega) (by omega) hk))
    · rw [if_neg e, List.nil_append] at hk
      exact Ev.neg e (spec_hr l hs x3 x4 x5 x6 y hx n (x + 1) _ (by omega) (by omega) (by omega) hk)
theorem spec_hb (l : List Cell) (hs : small l) (x3 x4 x5 x6 : Int) (w : Nat) (hw0 : x3 - 1 + w = x3 + x5 + 1) (hw1 : w ≤ 1000) (hx : -1000 ≤ x3 + x5 ∧ x3 + x5 ≤ 1000 ∧ -1000 ≤ x3 ∧ x3 ≤ 1000) (hy : -1000 ≤ x4 + x6 ∧ x4 + x6 ≤ 1000) {r : List (List Cell)} : ∀ (n : Nat) (y : Int) (acc : List Cell), y + n = x4 + x6 + 1 → acc.length + n * w ≤ 1000000 → n ≤ 1000 →
    Ev (fun k => (spec_l02Parts.f k (acc ++ boxF l (x3 - 1) w n y)).bind fun t => spec_l06Holes.l2 k (acc ++ boxF l (x3 - 1) w n y) t [] 1) r → Ev (fun k => spec_l06Holes.l0 k l x3 x4 x5 x6 acc y) r
  | 0, y, acc, h, ha, hn, hk => by
    refine Ev.succ ?_
    have hw : wrap64 (x4 + x6) = x4 + x6 := w64 (by omega) (by omega)
    have hc : (y ≤ x4 + x6) = False := by simp; omega
    simp only [spec_l06Holes.l0, hw, hc, if_false]
    have : acc ++ boxF l (x3 - 1) w 0 y = acc := by simp [boxF]
    rw [this] at hk
    exact hk
  | n + 1, y, acc, h, ha, hn, hk => by
    refine Ev.succ ?_
    have hw : wrap64 (x4 + x6) = x4 + x6 := w64 (by omega) (by omega)
    have hc : (y ≤ x4 + x6) = True := by simp; omega
    have hw1 : wrap64 (x3 - 1) = x3 - 1 := w64 (by omega) (by omega)
    have hw2 : wrap64 (y + 1) = y + 1 := w64 (by omega) (by omega)
    rw [Nat.succ_mul] at ha
    simp only [spec_l06Holes.l0, hw, hc, if_true, hw1]
    unfold boxF at hk
    rw [← List.append_assoc] at hk
    have hl := rowF_len l y w (x3 - 1)
    refine spec_hr l hs x3 x4 x5 x6 y ⟨hx.1, hx.2.1⟩ w (x3 - 1) acc hw0 (by omega) (by omega) ?_
    rw [hw2]
    exact spec_hb l hs x3 x4 x5 x6 w hw0 (by omega) hx hy n (y + 1) _ (by omega) (by rw [List.length_append]; omega) (by omega) hk
theorem parts_spec {l : List Cell} (h0 : l ≠ []) (hl : l.length ≤ 1048576) : Ev (fun k => (spec_l02Parts.f k l).bind fun t => spec_l06Holes.l2 k l t [] 1) (holesP l) := by
  refine Ev.bind (ps_ev l hl) ?_
  cases l with
  | nil => exact absurd rfl h0
  | cons c r => exact spec_hl2 (marksR _) hl
theorem specHoles_ev {l : List Cell} (h : shapeB l = true) : Ev (fun k => spec_l06Holes.f k l) (holesL l) := by
  obtain ⟨ho, h1, h2, h3⟩ := shapeB_iff.1 h
  have hs : small l := by unfold small; omega
  have hb := box_bd h
  obtain ⟨f0, f1, f2, f3⟩ := freeL_ok h
  unfold spec_l06Holes.f
  refine Ev.bind (specLeast_ev l hs (by omega)) (Ev.bind (specSize_ev l hs (shape_ne h) ho) ?_)
  have hw : wrap64 ((leastOf l).2 - 1) = (leastOf l).2 - 1 := w64 (by omega) (by omega)
  rw [hw]
  have e1 : (sizeOf_ l).1 = (reachOf l).1 - (leastOf l).1 + 1 := rfl
  have e2 : (sizeOf_ l).2 = (reachOf l).2 - (leastOf l).2 + 1 := rfl
  have hmul := Nat.mul_le_mul (show ((reachOf l).2 - (leastOf l).2 + 3).toNat ≤ 203 by omega) (show ((reachOf l).1 - (leastOf l).1 + 3).toNat ≤ 203 by omega)
  refine spec_hb l hs _ _ _ _ ((reachOf l).1 - (leastOf l).1 + 3).toNat (by rw [e1]; omega) (by omega) (by rw [e1]; omega) (by rw [e2]; omega) ((reachOf l).2 - (leastOf l).2 + 3).toNat _ [] (by rw [e2]; omega) (by simp only [List.length_nil]; omega) (by omega) ?_
  exact parts_spec (l := freeL l) f0 (by omega)
theorem impl_hr (l : List Cell) (hs : small l) (a b c d y : Int) (hx : -1000 ≤ c ∧ c ≤ 1000) {r : List (List Cell)} : ∀ (n : Nat) (x : Int) (acc : List Cell), x + n = c + 2 → acc.length + n ≤ 2000000 → n ≤ 1000 →
    Ev (fun k => impl_holes.l0 k l (acc ++ rowF l y n x) (wrap64 (y + 1)) a b c d) r → Ev (fun k => impl_holes.l1 k l acc y x a b c d) r
  | 0, x, acc, h, ha, hn, hk => by
    refine Ev.succ ?_
    have hw : wrap64 (c + 1) = c + 1 := w64 (by omega) (by omega)
    have hc : (x ≤ c + 1) = False := by simp; omega
    simp only [impl_holes.l1, hw, hc, if_false]
    have : acc ++ rowF l y 0 x = acc := by simp [rowF]
    rw [this] at hk
    exact hk
  | n + 1, x, acc, h, ha, hn, hk => by
    refine Ev.succ ?_
    have hw : wrap64 (c + 1) = c + 1 := w64 (by omega) (by omega)
    have hc : (x ≤ c + 1) = True := by simp; omega
    have hw1 : wrap64 (x + 1) = x + 1 := w64 (by omega) (by omega)
    simp only [impl_holes.l1, hw, hc, if_true, hw1]
    refine Ev.bind (implContains_ev l ⟨x, y⟩ hs) ?_
    unfold rowF at hk
    by_cases e : idxC l ⟨x, y⟩ < 0
    · rw [if_pos e, ← List.append_assoc] at hk
      exact Ev.neg (by simp; omega) (Ev.pos (by omega) (impl_hr l hs a b c d y hx n (x + 1) _ (by omega) (by rw [List.length_append, List.length_singleton]; omega) (by omega) hk))
    · rw [if_neg e, List.nil_append] at hk
      exact Ev.pos (by simp; omega) (impl_hr l hs a b c d y hx n (x + 1) _ (by omega) (by omega) (by omega) hk)
theorem impl_hb (l : List Cell) (hs : small l) (a b c d : Int) (w : Nat) (hw0 : a - 1 + w = c + 2) (hw1 : w ≤ 1000) (hx : -1000 ≤ c ∧ c ≤ 1000 ∧ -1000 ≤ a ∧ a ≤ 1000) (hy : -1000 ≤ d ∧ d ≤ 1000) {r : List (List Cell)} : ∀ (n : Nat) (y : Int) (acc : List Cell), y + n = d + 2 → acc.length + n * w ≤ 1000000 → n ≤ 1000 →
    Ev (fun k => (impl_parts__impl_around.f k (acc ++ boxF l (a - 1) w n y)).bind fun t => impl_holes.l2 k (acc ++ boxF l (a - 1) w n y) [] t (t.length : Int) 0) r → Ev (fun k => impl_holes.l0 k l acc y a b c d) r
  | 0, y, acc, h, ha, hn, hk => by
    refine Ev.succ ?_
    have hw : wrap64 (d + 1) = d + 1 := w64 (by omega) (by omega)
    have hc : (y ≤ d + 1) = False := by simp; omega
    simp only [impl_holes.l0, hw, hc, if_false]
    have : acc ++ boxF l (a - 1) w 0 y = acc := by simp [boxF]
    rw [this] at hk
    exact hk
  | n + 1, y, acc, h, ha, hn, hk => by
    refine Ev.succ ?_
    have hw : wrap64 (d + 1) = d + 1 := w64 (by omega) (by omega)
    have hc : (y ≤ d + 1) = True := by simp; omega
    have hw1 : wrap64 (a - 1) = a - 1 := w64 (by omega) (by omega)
    have hw2 : wrap64 (y + 1) = y + 1 := w64 (by omega) (by omega)
    rw [Nat.succ_mul] at ha
    simp only [impl_holes.l0, hw, hc, if_true, hw1]
    unfold boxF at hk
    rw [← List.append_assoc] at hk
    have hl := rowF_len l y w (a - 1)
    refine impl_hr l hs a b c d y ⟨hx.1, hx.2.1⟩ w (a - 1) acc hw0 (by omega) (by omega) ?_
    rw [hw2]
    exact impl_hb l hs a b c d w hw0 (by omega) hx hy n (y + 1) _ (by omega) (by rw [List.length_append]; omega) (by omega) hk
theorem parts_impl {l : List Cell} (h0 : l ≠ []) (hl : l.length ≤ 1048576) (hn : l.Nodup) (hw : l.all wfC = true) : Ev (fun k => (impl_parts__impl_around.f k l).bind fun t => impl_holes.l2 k l [] t (t.length : Int) 0) (holesP l) :=
  Ev.bind (pa_ev l hl hn hw) (impl_hl2 (marksR l) (List.length_pos_iff.2 h0) hl)
theorem implHoles_ev {l : List Cell} (h : shapeB l = true) : Ev (fun k => impl_holes.f k l) (holesL l) := by
  obtain ⟨ho, h1, h2, h3⟩ := shapeB_iff.1 h
  have hs : small l := by unfold small; omega
  have hb := box_bd h
  obtain ⟨f0, f1, f2, f3⟩ := freeL_ok h
  unfold impl_holes.f
  refine Ev.bind (implCorner_ev l hs (by omega)) (Ev.bind (implReach_ev l hs (by omega)) ?_)
  have hw : wrap64 ((leastOf l).2 - 1) = (leastOf l).2 - 1 := w64 (by omega) (by omega)
  rw [hw]
  have hmul := Nat.mul_le_mul (show ((reachOf l).2 - (leastOf l).2 + 3).toNat ≤ 203 by omega) (show ((reachOf l).1 - (leastOf l).1 + 3).toNat ≤ 203 by omega)
  refine impl_hb l hs _ _ _ _ ((reachOf l).1 - (leastOf l).1 + 3).toNat (by omega) (by omega) (by omega) (by omega) ((reachOf l).2 - (leastOf l).2 + 3).toNat _ [] (by omega) (by simp only [List.length_nil]; omega) (by omega) ?_
  exact parts_impl (l := freeL l) f0 (by omega) f2 f3
end Go.Proofs.Ytaecheolnpofeaa.L
end
section
namespace Go.Proofs.Ytaecheolnpofeaa.L
set_option linter.unusedVariables false
section
variable {α β : Type} {nb : α → List α} {l : List α} {a b c d : α}
def Rch (nb : α → List α) (l : List α) (a b : α) : Prop := ∀ S : α → Prop, S a → (∀ c d, S c → d ∈ nb c → d ∈ l → S d) → S b
theorem Rch.refl : Rch nb l a a := fun S h _ => h
theorem Rch.step (h : Rch nb l a b) (hd : d ∈ nb b) (hl : d ∈ l) : Rch nb l a d := fun S h0 h1 => h1 b d (h S h0 h1) hd hl
theorem Rch.trans (h : Rch nb l a b) (h' : Rch nb l b c) : Rch nb l a c := fun S h0 h1 => h' S (h S h0 h1) h1
theorem nodup_subG : ∀ (o l : List α), o.Nodup → (∀ d ∈ o, d ∈ l) → o.length ≤ l.length
  | [], l, _, _ => Nat.zero_le _
  | a :: o, l, hn, hs => by
    obtain ⟨h1, h2⟩ := List.nodup_cons.1 hn
    obtain ⟨s, t, rfl⟩ := List.append_of_mem (hs a List.mem_cons_self)
    have := nodup_subG o (s ++ t) h2 fun c hc => by
      have h3 := hs c (List.mem_cons_of_mem _ hc)
      have h4 : c ≠ a := fun e => h1 (e ▸ hc)
      simp only [List.mem_append, List.mem_cons] at h3 ⊢
      rcases h3 with h3 | h3 | h3
      · exact .inl h3
      · exact absurd h3 h4
      · exact .inr h3
    simp only [List.length_append, List.length_cons] at this ⊢
    omega
end
end Go.Proofs.Ytaecheolnpofeaa.L
end
section
namespace Go.Proofs.Ytaecheolnpofeaa.L
open Go.RowKit Go.Proofs.YtaecheolnpofeaaW.PrintWords Go.Proofs.YtaecheolnpofeaaW.PrintLast Go.Proofs.YtaecheolnpofeaaW.PrintMore Go.Proofs.Ytaecheolnpofeaa.F
set_option linter.unusedVariables false
set_option linter.unusedSimpArgs false
theorem idxC_inj {l : List Cell} {c d : Cell} (hc : c ∈ l) (h : idxC l c = idxC l d) : c = d := by
  rcases idxC_spec l c with ⟨h1, h2⟩ | ⟨j, h1, h2, h3, _⟩
  · exact absurd hc h2
  · rcases idxC_spec l d with ⟨g1, g2⟩ | ⟨i, g1, g2, g3, _⟩
    · omega
    · have : j = i := by omega
      subst this
      exact Option.some.inj (h3.symm.trans g3)
theorem idxC_at {l : List Cell} (hn : l.Nodup) {j : Nat} (hj : j < l.length) : idxC l l[j] = (j : Int) := by
  rcases idxC_spec l l[j] with ⟨h1, h2⟩ | ⟨i, h1, h2, h3, h4⟩
  · exact absurd (List.getElem_mem hj) h2
  · rw [h2]
    by_cases e : i < j
    · rw [List.getElem?_eq_getElem h1] at h3
      have h3' := Option.some.inj h3
      have := List.pairwise_iff_getElem.1 hn i j h1 hj e
      exact absurd h3' this
    · by_cases e2 : j < i
      · exact absurd (List.getElem?_eq_getElem hj) (h4 j e2)
      · have : i = j := by omega
        rw [this]
theorem rd_cell {l : List Cell} {j : Int} (h0 : 0 ≤ j) (h1 : j < (l.length : Int)) : rd_T44 l j = l[j.toNat]'(by omega) := by
  unfold rd_T44
  rw [List.getD_eq_getElem?_getD, List.getElem?_eq_getElem (by omega)]
  rfl
def Mk (l : List Cell) (o : List Int) (c : Cell) : Prop := c ∈ l ∧ 0 ≤ rd o (idxC l c)
theorem visit1_mk {l : List Cell} {i : Int} (hi : 0 ≤ i) {s : List Int × List Int} (h : Fine l s.1 s.2) (d c : Cell) :
    (Mk l (visit1 l i s d).1 c ↔ Mk l s.1 c ∨ (c = d ∧ d ∈ l)) ∧ (∀ j ∈ s.2, j ∈ (visit1 l i s d).2) ∧ (∀ c, Mk l (visit1 l i s d).1 c → ¬ Mk l s.1 c → idxC l c ∈ (visit1 l i s d).2) ∧ (∀ j ∈ (visit1 l i s d).2, j ∈ s.2 ∨ ∃ c, j = idxC l c ∧ Mk l (visit1 l i s d).1 c) := by
  unfold visit1
  have hln := h.len
  by_cases hc : idxC l d ≥ 0 ∧ rd s.1 (idxC l d) < 0
  · rw [if_pos hc]
    have hdl := (idxC_mem l d).1 hc.1
    have hlt := idxC_lt l d
    have key (c : Cell) : Mk l (s.1.set (idxC l d).toNat i) c ↔ Mk l s.1 c ∨ (c = d ∧ d ∈ l) := by
      unfold Mk
      rw [rd_set _ _ _ _ (by omega)]
      constructor
      · rintro ⟨h1, h2⟩
        have := (idxC_mem l c).2 h1
        by_cases e : (idxC l c).toNat = (idxC l d).toNat
        · exact .inr ⟨idxC_inj h1 (by omega), hdl⟩
        · rw [if_neg e] at h2
          exact .inl ⟨h1, h2⟩
      · rintro (⟨h1, h2⟩ | ⟨rfl, h2⟩)
        · refine ⟨h1, ?_⟩
          split
          · exact hi
          · exact h2
        · exact ⟨h2, by rw [if_pos rfl]; exact hi⟩
    refine ⟨key c, fun j hj => List.mem_append_left _ hj, fun c h1 h2 => ?_, fun j hj => ?_⟩
    · rcases (key c).1 h1 with h3 | ⟨rfl, _⟩
      · exact absurd h3 h2
      · simp
    · rcases List.mem_append.1 hj with hj | hj
      · exact .inl hj
      · simp at hj
        exact .inr ⟨d, hj, (key d).2 (.inr ⟨rfl, hdl⟩)⟩
  · rw [if_neg hc]
    refine ⟨⟨fun h => .inl h, fun h1 => ?_⟩, fun j hj => hj, fun c h1 h2 => absurd h1 h2, fun j hj => .inl hj⟩
    rcases h1 with h1 | ⟨rfl, h2⟩
    · exact h1
    · have h3 := (idxC_mem l c).2 h2
      exact ⟨h2, by
        refine Decidable.byContradiction fun h4 => hc ⟨h3, by omega⟩⟩
theorem visit_mk {l : List Cell} {i : Int} (hi : 0 ≤ i) : ∀ (ds : List Cell) {s : List Int × List Int}, Fine l s.1 s.2 →
    (∀ c, Mk l (visit l i ds s).1 c ↔ Mk l s.1 c ∨ (c ∈ ds ∧ c ∈ l)) ∧ (∀ j ∈ s.2, j ∈ (visit l i ds s).2) ∧ (∀ c, Mk l (visit l i ds s).1 c → ¬ Mk l s.1 c → idxC l c ∈ (visit l i ds s).2) ∧ (∀ j ∈ (visit l i ds s).2, j ∈ s.2 ∨ ∃ c, j = idxC l c ∧ Mk l (visit l i ds s).1 c)
  | [], s, h => ⟨fun c => by simp [visit], fun j hj => hj, fun c h1 h2 => absurd h1 h2, fun j hj => .inl hj⟩
  | d :: r, s, h => by
    have h1 := (visit1_fine hi h d).1
    obtain ⟨_, a2, a3, a4⟩ := visit1_mk hi h d d
    obtain ⟨b1, b2, b3, b4⟩ := visit_mk hi r h1
    have e : visit l i (d :: r) s = visit l i r (visit1 l i s d) := rfl
    rw [e]
    refine ⟨fun c => ?_, fun j hj => b2 j (a2 j hj), fun c h2 h3 => ?_, fun j hj => ?_⟩
    · rw [b1 c, (visit1_mk hi h d c).1]
      constructor
      · rintro ((h2 | ⟨rfl, h2⟩) | ⟨h2, h3⟩)
        · exact .inl h2
        · exact .inr ⟨List.mem_cons_self, h2⟩
        · exact .inr ⟨List.mem_cons_of_mem _ h2, h3⟩
      · rintro (h2 | ⟨h2, h3⟩)
        · exact .inl (.inl h2)
        · rcases List.mem_cons.1 h2 with rfl | h2
          · exact .inl (.inr ⟨rfl, h3⟩)
          · exact .inr ⟨h2, h3⟩
    · by_cases h4 : Mk l (visit1 l i s d).1 c
      · exact b2 _ (a3 c h4 h3)
      · exact b3 c h2 h4
    · rcases b4 j hj with h2 | h2
      · rcases a4 j h2 with h3 | ⟨c, rfl, h3⟩
        · exact .inl h3
        · exact .inr ⟨c, rfl, (b1 c).2 (.inl h3)⟩
      · exact .inr h2
theorem bfs_closed {nb : Cell → List Cell} {l : List Cell} {i : Int} {h : Cell} (hi : 0 ≤ i) (hn : l.Nodup) : ∀ (n : Nat) (o q : List Int), Fine l o q → negs o + q.length ≤ n →
    (∀ c, Mk l o c → Rch nb l h c) → (∀ c, Mk l o c → idxC l c ∉ q → ∀ d ∈ nb c, d ∈ l → Mk l o d) → (∀ j ∈ q, Mk l o (rd_T44 l j)) →
    (∀ c, Mk l (bfs nb l i n o q) c → Rch nb l h c) ∧ (∀ c, Mk l (bfs nb l i n o q) c → ∀ d ∈ nb c, d ∈ l → Mk l (bfs nb l i n o q) d) ∧ (∀ c, Mk l o c → Mk l (bfs nb l i n o q) c)
  | 0, o, q, hf, hm, h1, h2, h3 => by
    have hq : q = [] := List.length_eq_zero_iff.1 (by omega)
    subst hq
    exact ⟨h1, fun c hc d hd hl => h2 c hc (by simp) d hd hl, fun c hc => hc⟩
  | n + 1, o, [], hf, hm, h1, h2, h3 => ⟨h1, fun c hc d hd hl => h2 c hc (by simp) d hd hl, fun c hc => hc⟩
  | n + 1, o, j :: q, hf, hm, h1, h2, h3 => by
    have hf' : Fine l o q := ⟨hf.len, fun j hj => hf.rng j (List.mem_cons_of_mem _ hj)⟩
    obtain ⟨g1, g2, _, _⟩ := visit_fine hi (nb (rd_T44 l j)) (s := (o, q)) hf'
    obtain ⟨m1, m2, m3, m4⟩ := visit_mk hi (nb (rd_T44 l j)) (s := (o, q)) hf'
    have hj := hf.rng j List.mem_cons_self
    have hx := h3 j List.mem_cons_self
    have hix : idxC l (rd_T44 l j) = j := by
      rw [rd_cell hj.1 hj.2, idxC_at hn]
      omega
    simp only [List.length_cons] at hm
    have ih := bfs_closed (nb := nb) (h := h) hi hn n _ _ g1 (by simp only at g2; omega) (fun c hc => by
      rcases (m1 c).1 hc with hc | ⟨hc, hcl⟩
      · exact h1 c hc
      · exact (h1 _ hx).step hc hcl) (fun c hc hcq d hd hl => by
      by_cases ho : Mk l o c
      · by_cases e : idxC l c = j
        · have : c = rd_T44 l j := idxC_inj ho.1 (e.trans hix.symm)
          subst this
          exact (m1 d).2 (.inr ⟨hd, hl⟩)
        · refine (m1 d).2 (.inl (h2 c ho ?_ d hd hl))
          intro hmem
          rcases List.mem_cons.1 hmem with h4 | h4
          · exact e h4
          · exact hcq (m2 _ h4)
      · exact absurd (m3 c hc ho) hcq) (fun i' hi' => by
      rcases m4 i' hi' with h4 | ⟨c, rfl, h4⟩
      · exact (m1 _).2 (.inl (h3 i' (List.mem_cons_of_mem _ h4)))
      · have hc := (idxC_mem l c).2 h4.1
        have : rd_T44 l (idxC l c) = c := by
          rcases idxC_spec l c with ⟨q1, q2⟩ | ⟨k, q1, q2, q3, _⟩
          · exact absurd h4.1 q2
          · rw [q2, rd_cell (by omega) (by omega)]
            have := List.getElem?_eq_getElem q1
            rw [this] at q3
            simpa using q3
        rw [this]
        exact h4)
    exact ⟨ih.1, ih.2.1, fun c hc => ih.2.2 c ((m1 c).2 (.inl hc))⟩
theorem partsF_late {nb : Cell → List Cell} {l : List Cell} (j : Int) (hj : 0 ≤ j) (m : Int) : ∀ (r pre : List Cell) (o : List Int), l = pre ++ r → o.length = l.length → m ≤ (pre.length : Int) → rd (partsF nb l (pre.length : Int) r o) j = rd o j ∨ m ≤ rd (partsF nb l (pre.length : Int) r o) j
  | [], pre, o, h, hl, hm => .inl rfl
  | c :: r, pre, o, h, hl, hm => by
    have hp : pre.length < l.length := by rw [h]; simp
    have e : (rd (if rd o (pre.length : Int) ≥ 0 then o else bfs nb l (pre.length : Int) l.length (o.set pre.length (pre.length : Int)) [(pre.length : Int)]) j = rd o j ∨ m ≤ rd (if rd o (pre.length : Int) ≥ 0 then o else bfs nb l (pre.length : Int) l.length (o.set pre.length (pre.length : Int)) [(pre.length : Int)]) j) ∧ (if rd o (pre.length : Int) ≥ 0 then o else bfs nb l (pre.length : Int) l.length (o.set pre.length (pre.length : Int)) [(pre.length : Int)]).length = l.length := by
      by_cases hg : rd o (pre.length : Int) ≥ 0
      · rw [if_pos hg]; exact ⟨.inl rfl, hl⟩
      · rw [if_neg hg]
        obtain ⟨h1, _⟩ := step_fine hl hp hg
        refine ⟨?_, (bfs_fine (by omega) l.length _ _ h1).1⟩
        rcases (bfs_stable (nb := nb) (i := (pre.length : Int)) (by omega) j hj l.length _ _ h1).2 with h2 | h2
        · rw [rd_set _ _ _ _ (by omega)] at h2
          by_cases ej : j.toNat = pre.length
          · rw [if_pos ej] at h2
            exact .inr (by omega)
          · rw [if_neg ej] at h2
            exact .inl h2
        · exact .inr (by omega)
    have := partsF_late (nb := nb) j hj m r (pre ++ [c]) _ (by rw [h]; simp) e.2 (by rw [List.length_append]; omega)
    unfold partsF
    rw [Int.toNat_natCast]
    have hl2 : ((pre ++ [c]).length : Int) = (pre.length : Int) + 1 := by simp
    rw [hl2] at this
    rcases this with h3 | h3
    · rcases e.1 with h4 | h4
      · exact .inl (h3.trans h4)
      · exact .inr (by rw [h3]; exact h4)
    · exact .inr h3
theorem partsR_first (nb : Cell → List Cell) (l : List Cell) (h0 : l ≠ []) : ∃ (c : Cell) (r : List Cell), l = [c] ++ r ∧ partsR nb l = partsF nb l (([c] : List Cell).length : Int) r (first nb l) := by
  have hp := List.length_pos_iff.2 h0
  obtain ⟨c, r, hcr⟩ : ∃ c r, l = c :: r := by cases l with | nil => exact absurd rfl h0 | cons c r => exact ⟨c, r, rfl⟩
  refine ⟨c, r, hcr, ?_⟩
  unfold partsR
  have : ∀ (o : List Int), rd o 0 < 0 → partsF nb l 0 (c :: r) o = partsF nb l 1 r (bfs nb l 0 l.length (o.set 0 0) [0]) := by
    intro o ho
    rw [partsF, if_neg (by omega)]
    rfl
  rw [show partsF nb l 0 l (List.replicate l.length (-1)) = partsF nb l 0 (c :: r) (List.replicate l.length (-1)) from by rw [← hcr]]
  rw [this _ (by have := rd_rep (n := l.length) (j := 0) hp; rw [Int.natCast_zero] at this; omega)]
  rfl
theorem first_iff {nb : Cell → List Cell} {l : List Cell} (h0 : l ≠ []) (hn : l.Nodup) {b : Cell} (hb : b ∈ l) : rd (partsR nb l) (idxC l b) = 0 ↔ Rch nb l (l[0]'(List.length_pos_iff.2 h0)) b := by
  have hp := List.length_pos_iff.2 h0
  obtain ⟨hf, hneg⟩ := first_fine l h0
  have h0l : l[0] ∈ l := List.getElem_mem hp
  have hi0 : idxC l l[0] = 0 := idxC_at hn hp
  have hrd : rd_T44 l 0 = l[0] := rd_cell (by omega) (by omega)
  have hmk (c : Cell) : Mk l ((List.replicate l.length (-1 : Int)).set 0 0) c ↔ c = l[0] := by
    unfold Mk
    rw [rd_set _ _ _ _ (by simpa using hp)]
    constructor
    · rintro ⟨h1, h2⟩
      by_cases e : (idxC l c).toNat = 0
      · have := (idxC_mem l c).2 h1
        exact idxC_inj h1 (by omega)
      · rw [if_neg e] at h2
        have h3 := (idxC_mem l c).2 h1
        have h4 := idxC_lt l c
        have h5 := rd_rep (n := l.length) (j := (idxC l c).toNat) (by omega)
        rw [Int.toNat_of_nonneg h3] at h5
        omega
    · rintro rfl
      exact ⟨h0l, by rw [hi0, if_pos (by simp)]; omega⟩
  obtain ⟨r1, r2, r3⟩ := bfs_closed (nb := nb) (h := l[0]) (i := 0) (by omega) hn l.length _ _ hf (by simp only [List.length_singleton]; omega) (fun c hc => by rw [(hmk c).1 hc]; exact Rch.refl) (fun c hc hcq => by
    rw [(hmk c).1 hc, hi0] at hcq
    exact absurd (by simp) hcq) (fun j hj => by
    simp at hj
    subst hj
    rw [hrd]
    exact (hmk _).2 rfl)
  have hfl : (first nb l).length = l.length := (bfs_fine (nb := nb) (i := 0) (by omega) l.length _ _ hf).1
  have hib := (idxC_mem l b).2 hb
  have hlb := idxC_lt l b
  obtain ⟨c, r, hcr, hpf⟩ := partsR_first nb l h0
  have hval : rd (first nb l) (idxC l b) = -1 ∨ rd (first nb l) (idxC l b) = 0 := by
    rcases (bfs_stable (nb := nb) (i := 0) (by omega) (idxC l b) hib l.length _ _ hf).2 with h | h
    · have h' : rd (first nb l) (idxC l b) = rd ((List.replicate l.length (-1 : Int)).set 0 0) (idxC l b) := h
      rw [rd_set _ _ _ _ (by simpa using hp)] at h'
      by_cases e0 : (idxC l b).toNat = 0
      · rw [if_pos e0] at h'; exact .inr h'
      · rw [if_neg e0] at h'
        have h5 := rd_rep (n := l.length) (j := (idxC l b).toNat) (by omega)
        rw [Int.toNat_of_nonneg hib] at h5
        exact .inl (h'.trans h5)
    · exact .inr h
  have hpos : 0 ≤ rd (partsR nb l) (idxC l b) := by
    have := (partsF_fine (nb := nb) (l := l) l [] (List.replicate l.length (-1)) rfl (by simp) (fun j hj => by simp at hj)).2 (idxC l b).toNat (by omega)
    rw [Int.toNat_of_nonneg hib] at this
    exact this
  constructor
  · intro h
    refine r1 b ⟨hb, ?_⟩
    rcases hval with hv | hv
    · exfalso
      have := partsF_late (nb := nb) (l := l) (idxC l b) hib 1 r [c] (first nb l) hcr hfl (by simp)
      rw [← hpf] at this
      omega
    · show 0 ≤ rd (first nb l) (idxC l b)
      omega
  · intro h
    have hr := h (fun c => Mk l (first nb l) c) (r3 _ ((hmk _).2 rfl)) (fun c d hc hd hl => r2 c hc d hd hl)
    have h2 : 0 ≤ rd (first nb l) (idxC l b) := hr.2
    have h3 := partsF_stable (nb := nb) (l := l) (idxC l b) hib r [c] (first nb l) hcr hfl h2
    rw [← hpf] at h3
    rw [h3]
    omega
theorem cell_eq9 {c : Cell} {x y : Int} (h0 : c.f0 = x) (h1 : c.f1 = y) : (⟨x, y⟩ : Cell) = c := by
  subst h0
  subst h1
  rfl
theorem idxC_neg {l : List Cell} {c : Cell} : idxC l c < 0 ↔ c ∉ l := by
  rcases idxC_spec l c with ⟨e, h⟩ | ⟨j, h1, h2, h3, _⟩
  · exact ⟨fun _ => h, fun _ => by omega⟩
  · exact ⟨fun h => by omega, fun h => absurd (List.mem_of_getElem? h3) h⟩
theorem mem_rowF (l : List Cell) (y : Int) : ∀ (n : Nat) (x : Int) (c : Cell), c ∈ rowF l y n x ↔ c.f1 = y ∧ x ≤ c.f0 ∧ c.f0 < x + n ∧ c ∉ l
  | 0, x, c => by
    unfold rowF
    constructor
    · intro h
      cases h
    · rintro ⟨h1, h2, h3, h4⟩
      omega
  | n + 1, x, c => by
    unfold rowF
    rw [List.mem_append, mem_rowF l y n (x + 1) c]
    constructor
    · rintro (h | h)
      · by_cases e : idxC l ⟨x, y⟩ < 0
        · rw [if_pos e] at h
          obtain rfl := List.mem_singleton.1 h
          exact ⟨rfl, by show x ≤ x; omega, by show x < x + _; omega, idxC_neg.1 e⟩
        · rw [if_neg e] at h
          cases h
      · exact ⟨h.1, by omega, by omega, h.2.2.2⟩
    · rintro ⟨h1, h2, h3, h4⟩
      by_cases e : c.f0 = x
      · have hc := cell_eq9 e h1
        left
        rw [hc, if_pos (idxC_neg.2 h4)]
        exact List.mem_singleton.2 rfl
      · exact .inr ⟨h1, by omega, by omega, h4⟩
theorem mem_boxF (l : List Cell) (x0 : Int) (w : Nat) : ∀ (n : Nat) (y : Int) (c : Cell), c ∈ boxF l x0 w n y ↔ y ≤ c.f1 ∧ c.f1 < y + n ∧ x0 ≤ c.f0 ∧ c.f0 < x0 + w ∧ c ∉ l
  | 0, y, c => by
    unfold boxF
    constructor
    · intro h
      cases h
    · rintro ⟨h1, h2, h3, h4⟩
      omega
  | n + 1, y, c => by
    unfold boxF
    rw [List.mem_append, mem_rowF, mem_boxF l x0 w n (y + 1) c]
    constructor
    · rintro (h | h)
      · exact ⟨by omega, by omega, by omega, by omega, h.2.2.2⟩
      · exact ⟨by omega, by omega, by omega, by omega, h.2.2.2.2⟩
    · rintro ⟨h1, h2, h3, h4, h5⟩
      by_cases e : c.f1 = y
      · exact .inl ⟨e, h3, h4, h5⟩
      · exact .inr ⟨by omega, by omega, h3, h4, h5⟩
theorem mem_freeL {l : List Cell} (h : shapeB l = true) (c : Cell) : c ∈ freeL l ↔ (leastOf l).1 - 1 ≤ c.f0 ∧ c.f0 ≤ (reachOf l).1 + 1 ∧ (leastOf l).2 - 1 ≤ c.f1 ∧ c.f1 ≤ (reachOf l).2 + 1 ∧ c ∉ l := by
  have hb := box_bd h
  unfold freeL
  rw [mem_boxF]
  constructor
  · rintro ⟨h1, h2, h3, h4, h5⟩
    exact ⟨by omega, by omega, by omega, by omega, h5⟩
  · rintro ⟨h1, h2, h3, h4, h5⟩
    exact ⟨by omega, by omega, by omega, by omega, h5⟩
theorem freeL_head {l : List Cell} (h : shapeB l = true) : (freeL l)[0]'(List.length_pos_iff.2 (freeL_ok h).1) = ⟨(leastOf l).1 - 1, (leastOf l).2 - 1⟩ := by
  have hb := box_bd h
  have key : ∃ r, freeL l = ⟨(leastOf l).1 - 1, (leastOf l).2 - 1⟩ :: r := by
    unfold freeL
    obtain ⟨w, hw⟩ : ∃ w, ((reachOf l).1 - (leastOf l).1 + 3).toNat = w + 1 := ⟨((reachOf l).1 - (leastOf l).1 + 2).toNat, by omega⟩
    obtain ⟨n, hn⟩ : ∃ n, ((reachOf l).2 - (leastOf l).2 + 3).toNat = n + 1 := ⟨((reachOf l).2 - (leastOf l).2 + 2).toNat, by omega⟩
    rw [hw, hn]
    unfold boxF rowF
    have hlt : idxC l ⟨(leastOf l).1 - 1, (leastOf l).2 - 1⟩ < 0 := idxC_neg.2 fun hm => by
      have h4 : (leastOf l).1 ≤ (leastOf l).1 - 1 := (least_le hm).1
      omega
    rw [if_pos hlt]
    exact ⟨_, rfl⟩
  obtain ⟨r, hr⟩ := key
  simp only [hr, List.getElem_cons_zero]
theorem walkX {F : List Cell} {a y : Int} (ha : -1000 ≤ a ∧ a ≤ 1000) : ∀ (n : Nat), n ≤ 1000 → (∀ x : Int, a < x → x ≤ a + n → (⟨x, y⟩ : Cell) ∈ F) → Rch aroundC F ⟨a, y⟩ ⟨a + n, y⟩
  | 0, hn, h => by
    have : a + ((0 : Nat) : Int) = a := by omega
    rw [this]
    exact Rch.refl
  | n + 1, hn, h => by
    have ih := walkX (F := F) (y := y) ha n (by omega) (fun x h1 h2 => h x h1 (by omega))
    refine ih.step ?_ (h _ (by omega) (by omega))
    unfold aroundC
    have hw : wrap64 (a + (n : Int) + 1) = a + ((n + 1 : Nat) : Int) := by rw [w64 (by omega) (by omega)]; omega
    simp only [hw]
    simp
theorem walkY {F : List Cell} {a x : Int} (ha : -1000 ≤ a ∧ a ≤ 1000) : ∀ (n : Nat), n ≤ 1000 → (∀ y : Int, a < y → y ≤ a + n → (⟨x, y⟩ : Cell) ∈ F) → Rch aroundC F ⟨x, a⟩ ⟨x, a + n⟩
  | 0, hn, h => by
    have : a + ((0 : Nat) : Int) = a := by omega
    rw [this]
    exact Rch.refl
  | n + 1, hn, h => by
    have ih := walkY (F := F) (x := x) ha n (by omega) (fun y h1 h2 => h y h1 (by omega))
    refine ih.step ?_ (h _ (by omega) (by omega))
    unfold aroundC
    have hw : wrap64 (a + (n : Int) + 1) = a + ((n + 1 : Nat) : Int) := by rw [w64 (by omega) (by omega)]; omega
    simp only [hw]
    simp
theorem ring_rch {l : List Cell} (h : shapeB l = true) {c : Cell} (hc : c ∈ freeL l) (hr : c.f0 = (leastOf l).1 - 1 ∨ c.f0 = (reachOf l).1 + 1 ∨ c.f1 = (leastOf l).2 - 1 ∨ c.f1 = (reachOf l).2 + 1) : Rch aroundC (freeL l) ⟨(leastOf l).1 - 1, (leastOf l).2 - 1⟩ c := by
  have hb := box_bd h
  have hm := (mem_freeL h c).1 hc
  have hfree : ∀ x y : Int, (leastOf l).1 - 1 ≤ x → x ≤ (reachOf l).1 + 1 → (leastOf l).2 - 1 ≤ y → y ≤ (reachOf l).2 + 1 → (x = (leastOf l).1 - 1 ∨ x = (reachOf l).1 + 1 ∨ y = (leastOf l).2 - 1 ∨ y = (reachOf l).2 + 1) → (⟨x, y⟩ : Cell) ∈ freeL l := fun x y h1 h2 h3 h4 h5 => (mem_freeL h _).2 ⟨h1, h2, h3, h4, fun hl => by
    have g1 : (leastOf l).1 ≤ x ∧ (leastOf l).2 ≤ y := least_le hl
    have g2 : x ≤ (reachOf l).1 ∧ y ≤ (reachOf l).2 := reach_ge hl
    omega⟩
  have toX : ∀ (y x x' : Int), (y = (leastOf l).2 - 1 ∨ y = (reachOf l).2 + 1) → x = (leastOf l).1 - 1 → (leastOf l).1 - 1 ≤ x' → x' ≤ (reachOf l).1 + 1 → Rch aroundC (freeL l) ⟨x, y⟩ ⟨x', y⟩ := fun y x x' hy hx h1 h2 => by
    have := walkX (F := freeL l) (a := x) (y := y) (by omega) (x' - x).toNat (by omega) (fun z h3 h4 => hfree z y (by omega) (by omega) (by omega) (by omega) (by omega))
    have e : x + ((x' - x).toNat : Int) = x' := by omega
    rw [e] at this
    exact this
  have toY : ∀ (x y y' : Int), (x = (leastOf l).1 - 1 ∨ x = (reachOf l).1 + 1) → y = (leastOf l).2 - 1 → (leastOf l).2 - 1 ≤ y' → y' ≤ (reachOf l).2 + 1 → Rch aroundC (freeL l) ⟨x, y⟩ ⟨x, y'⟩ := fun x y y' hx hy h1 h2 => by
    have := walkY (F := freeL l) (a := y) (x := x) (by omega) (y' - y).toNat (by omega) (fun z h3 h4 => hfree x z (by omega) (by omega) (by omega) (by omega) (by omega))
    have e : y + ((y' - y).toNat : Int) = y' := by omega
    rw [e] at this
    exact this
  have hcc : (⟨c.f0, c.f1⟩ : Cell) = c := rfl
  rw [← hcc]
  rcases hr with hr | hr | hr | hr
  · rw [hr]; exact toY _ _ _ (.inl rfl) rfl (by omega) (by omega)
  · rw [hr]; exact (toX _ _ ((reachOf l).1 + 1) (.inl rfl) rfl (by omega) (by omega)).trans (toY _ _ _ (.inr rfl) rfl (by omega) (by omega))
  · rw [hr]; exact toX _ _ _ (.inl rfl) rfl (by omega) (by omega)
  · rw [hr]; exact (toY _ _ ((reachOf l).2 + 1) (.inl rfl) rfl (by omega) (by omega)).trans (toX _ _ _ (.inr rfl) rfl (by omega) (by omega))
theorem other_in {l : List Cell} (h : shapeB l = true) {c : Cell} (hc : c ∈ freeL l) (hp : rd (partsR aroundC (freeL l)) (idxC (freeL l) c) ≠ 0) : (leastOf l).1 ≤ c.f0 ∧ c.f0 ≤ (reachOf l).1 ∧ (leastOf l).2 ≤ c.f1 ∧ c.f1 ≤ (reachOf l).2 := by
  obtain ⟨f0, f1, f2, f3⟩ := freeL_ok h
  have hm := (mem_freeL h c).1 hc
  have hn : ¬ (c.f0 = (leastOf l).1 - 1 ∨ c.f0 = (reachOf l).1 + 1 ∨ c.f1 = (leastOf l).2 - 1 ∨ c.f1 = (reachOf l).2 + 1) := fun hr => hp ((first_iff f0 f2 hc).2 (by rw [freeL_head h]; exact ring_rch h hc hr))
  omega
def moveL (l : List Cell) (x y : Int) : List Cell := l.map fun c => ⟨wrap64 (c.f0 + x), wrap64 (c.f1 + y)⟩
theorem moveL_len (l : List Cell) (x y : Int) : (moveL l x y).length = l.length := by simp [moveL]
theorem specMove_ev (l : List Cell) (x y : Int) (hl : l.length ≤ 1048576) : Ev (fun k => spec_l02Move.f k l x y) (moveL l x y) := by
  have hs : small l := by unfold small; omega
  unfold spec_l02Move.f
  have := loop_list l (fun k i (s : List Cell) => spec_l02Move.l0 k l x y s i) (fun pre suf s => s ++ moveL suf x y) (fun pre s => s.length = pre.length) ?_ ?_ [] rfl
  · simpa using this
  · intro s _
    simp only [spec_l02Move.l0, len_lt, if_false]
    exact Ev.of_eq (Ev.now _) (by simp [moveL])
  · intro pre c suf s hx hi ih
    have hp := pre_len hx
    simp only [spec_l02Move.l0, pre_lt hx, pre_0, if_true, at_pre hx, pre_w hx hs]
    refine Ev.pos (by omega) (Ev.of_eq (ih _ (by simp [hi])) ?_)
    simp [moveL]
theorem implMoved_ev (l : List Cell) (x y : Int) (hl : l.length ≤ 1048576) : Ev (fun k => impl_moved.f k l x y) (moveL l x y) := by
  have hs : small l := by unfold small; omega
  unfold impl_moved.f
  refine Ev.pos (by omega) (Ev.pos (by omega) ?_)
  have := loop_list l (fun k i (s : List Cell) => impl_moved.l0 k x y s l (l.length : Int) i) (fun pre suf s => s ++ moveL suf x y) (fun pre s => s.length = pre.length) ?_ ?_ [] rfl
  · simpa using this
  · intro s _
    simp only [impl_moved.l0, len_lt, if_false]
    exact Ev.of_eq (Ev.now _) (by simp [moveL])
  · intro pre c suf s hx hi ih
    have hp := pre_len hx
    simp only [impl_moved.l0, pre_lt hx, pre_0, if_true, at_pre hx, pre_w hx hs]
    refine Ev.pos (by omega) (Ev.of_eq (ih _ (by simp [hi])) ?_)
    simp [moveL]
def normalL (l : List Cell) : List Cell := moveL l (wrap64 (-(leastOf l).1)) (wrap64 (-(leastOf l).2))
theorem normalL_len (l : List Cell) : (normalL l).length = l.length := moveL_len _ _ _
theorem specNormal_ev (l : List Cell) (hl : l.length ≤ 1048576) (h0 : 0 < l.length) : Ev (fun k => spec_l02Normal.f k l) (normalL l) := by
  unfold spec_l02Normal.f
  refine Ev.bind (specLeast_ev l (by unfold small; omega) h0) (Ev.bind (specMove_ev l _ _ hl) (Ev.now _))
theorem implNormal_ev (l : List Cell) (hl : l.length ≤ 1048576) (h0 : 0 < l.length) : Ev (fun k => impl_normal.f k l) (normalL l) := by
  unfold impl_normal.f
  refine Ev.bind (implCorner_ev l (by unfold small; omega) h0) (Ev.bind (implMoved_ev l _ _ hl) (Ev.now _))
def codeF (l : List Cell) : Int := if shapeB l = true then (if shapeB (normalL l) = true then 0 else 3) else 1
theorem codeF_shape {l : List Cell} (h : codeF l = 0) : shapeB l = true ∧ shapeB (normalL l) = true := by
  unfold codeF at h
  by_cases h1 : shapeB l = true
  · rw [if_pos h1] at h
    by_cases h2 : shapeB (normalL l) = true
    · exact ⟨h1, h2⟩
    · rw [if_neg h2] at h
      omega
  · rw [if_neg h1] at h
    omega
theorem implCode_ev (l : List Cell) (hs : l.length ≤ 1048576) : Ev (fun k => impl_shapeCode.f k l) (codeF l) := by
  have h1 : small l := by unfold small; omega
  unfold impl_shapeCode.f codeF
  refine Ev.bind (implIsShape_ev l h1) (Ev.if_ (fun h => ?_) (fun _ => Ev.now _))
  have h0 : 0 < l.length := List.length_pos_iff.2 (shape_ne h)
  refine Ev.bind (implNormal_ev l hs h0) (Ev.bind (implIsShape_ev _ (by unfold small; rw [normalL_len]; omega)) (Ev.if_ (fun _ => Ev.now _) (fun _ => Ev.now _)))
theorem specCode_ev (l : List Cell) (hs : l.length ≤ 1048576) : Ev (fun k => spec_l06Code.f k l) (codeF l) := by
  have h1 : small l := by unfold small; omega
  unfold spec_l06Code.f spec_l03Code.f codeF
  refine Ev.of_eq (Ev.bind (Ev.bind (specIsShape_ev l h1) (Ev.if_ (fun h => ?_) (fun _ => Ev.now _))) (Ev.now _)) rfl
  have h0 : 0 < l.length := List.length_pos_iff.2 (shape_ne h)
  refine Ev.bind (specNormal_ev l hs h0) (Ev.bind (specIsShape_ev _ (by unfold small; rw [normalL_len]; omega)) (Ev.if_ (fun _ => Ev.now _) (fun _ => Ev.now _)))
theorem sorted_le (x y : Cell) : (!Go.Proofs.ltOf cmpV y x) = decide (¬ ltC y x) := by
  rw [ltV]
  by_cases h : ltC y x
  · have h' : y.f1 < x.f1 ∨ y.f1 = x.f1 ∧ y.f0 < x.f0 := h
    simp [h, h']
  · have h' : ¬ (y.f1 < x.f1 ∨ y.f1 = x.f1 ∧ y.f0 < x.f0) := h
    simp only [h, h', decide_false]
    rfl
theorem sortC_perm (l : List Cell) : (sortC l).Perm l := List.mergeSort_perm _ _
theorem sortC_len (l : List Cell) : (sortC l).length = l.length := (sortC_perm l).length_eq
theorem sortC_sorted (l : List Cell) : (sortC l).Pairwise fun a b => ¬ ltC b a := by
  have := List.pairwise_mergeSort (le := fun x y : Cell => !Go.Proofs.ltOf cmpV y x) (fun a b c h1 h2 => by
    rw [sorted_le, decide_eq_true_eq] at *
    unfold ltC at *
    omega) (fun a b => by
    rw [sorted_le, sorted_le, Bool.or_eq_true, decide_eq_true_eq, decide_eq_true_eq]
    unfold ltC
    omega) l
  exact this.imp fun h => by rw [sorted_le, decide_eq_true_eq] at h; exact h
theorem eq_of_sorted : ∀ (l l' : List Cell), l.Perm l' → (l.Pairwise fun a b => ¬ ltC b a) → (l'.Pairwise fun a b => ¬ ltC b a) → l = l'
  | [], l', hp, _, _ => (List.Perm.nil_eq hp)
  | a :: r, [], hp, _, _ => absurd hp.symm (by simp)
  | a :: r, b :: s, hp, h1, h2 => by
    obtain ⟨h3, h4⟩ := List.pairwise_cons.1 h1
    obtain ⟨h5, h6⟩ := List.pairwise_cons.1 h2
    have hab : a = b := by
      have ha : a ∈ b :: s := hp.mem_iff.1 List.mem_cons_self
      have hb : b ∈ a :: r := hp.mem_iff.2 List.mem_cons_self
      have n1 : ¬ ltC b a := by
        rcases List.mem_cons.1 hb with e | e
        · rw [e]; unfold ltC; omega
        · exact h3 b e
      have n2 : ¬ ltC a b := by
        rcases List.mem_cons.1 ha with e | e
        · rw [e]; unfold ltC; omega
        · exact h5 a e
      obtain ⟨a0, a1⟩ := a
      obtain ⟨b0, b1⟩ := b
      unfold ltC at n1 n2
      simp only at n1 n2
      simp only [S44.mk.injEq]
      omega
    subst hab
    rw [eq_of_sorted r s (List.Perm.cons_inv hp) h4 h6]
theorem sortC_eq {l l' : List Cell} (hp : l'.Perm l) (hs : l'.Pairwise fun a b => ¬ ltC b a) : sortC l = l' :=
  eq_of_sorted _ _ ((sortC_perm l).trans hp.symm) (sortC_sorted l) hs
theorem implSorted_eq (l : List Cell) (h0 : 0 < l.length) (h1 : l.length ≤ 1000000000000) : impl_sorted.f l = some (sortC l) := by
  unfold impl_sorted.f impl_Cell_48.f impl_Cell_70__impl_compareCells.f
  rw [if_pos h1, Option.bind_some, if_pos ⟨h0, by omega⟩]
  rfl
def insC (c : Cell) : List Cell → List Cell
  | [] => [c]
  | a :: r => if ltC c a then c :: a :: r else a :: insC c r
theorem insC_perm (c : Cell) : ∀ l : List Cell, (insC c l).Perm (c :: l)
  | [] => List.Perm.refl _
  | a :: r => by
    unfold insC
    split
    · exact List.Perm.refl _
    · exact ((insC_perm c r).cons a).trans (List.Perm.swap c a r)
theorem insC_sorted (c : Cell) : ∀ l : List Cell, (l.Pairwise fun a b => ¬ ltC b a) → (insC c l).Pairwise fun a b => ¬ ltC b a
  | [], _ => by simp [insC]
  | a :: r, h => by
    obtain ⟨h1, h2⟩ := List.pairwise_cons.1 h
    unfold insC
    split
    · rename_i hc
      refine List.pairwise_cons.2 ⟨fun b hb => ?_, h⟩
      rcases List.mem_cons.1 hb with rfl | hb
      · unfold ltC at *; omega
      · have := h1 b hb
        unfold ltC at *; omega
    · rename_i hc
      refine List.pairwise_cons.2 ⟨fun b hb => ?_, insC_sorted c r h2⟩
      rcases List.mem_cons.1 ((insC_perm c r).mem_iff.1 hb) with rfl | hb
      · exact hc
      · exact h1 b hb
theorem specInsert_ev (l : List Cell) (c : Cell) (hl : l.length ≤ 1048576) : Ev (fun k => spec_l02Insert.f k l c.f0 c.f1) (insC c l) := by
  have hs : small l := by unfold small; omega
  unfold spec_l02Insert.f
  have := loop_list l (fun k i (s : List Cell × Bool) => spec_l02Insert.l0 k l s.1 s.2 i c.f0 c.f1) (fun pre suf s => if s.2 = true then s.1 ++ suf else s.1 ++ insC c suf) (fun pre s => s.1.length ≤ pre.length + 1 ∧ (s.2 = false → s.1.length = pre.length)) ?_ ?_ ([], false) ⟨by simp, fun _ => rfl⟩
  · simpa using this
  · rintro ⟨s, b⟩ ⟨h1, h2⟩
    simp only at h1 h2
    simp only [spec_l02Insert.l0, len_lt, if_false]
    cases b
    · refine Ev.neg (by simp) (Ev.pos (by omega) (Ev.of_eq (Ev.now _) ?_))
      simp [insC]
    · refine Ev.pos rfl (Ev.of_eq (Ev.now _) ?_)
      simp
  · rintro pre d suf ⟨s, b⟩ hx ⟨h1, h2⟩ ih
    have hp := pre_len hx
    simp only at h1 h2
    simp only [spec_l02Insert.l0, pre_lt hx, pre_0, if_true, at_pre hx, pre_w hx hs]
    cases b
    · refine Ev.neg (by simp) ?_
      simp only [l02Less_eq, Option.bind_some]
      have h2' := h2 rfl
      by_cases hd : ltC c d
      · have hd' : c.f1 < d.f1 ∨ c.f1 = d.f1 ∧ c.f0 < d.f0 := hd
        refine Ev.pos (by simpa using hd') (Ev.pos (by omega) ?_)
        refine Ev.pos (by simp; omega) (Ev.of_eq (ih ((s ++ [(⟨c.f0, c.f1⟩ : Cell)]) ++ [(⟨d.f0, d.f1⟩ : Cell)], true) ⟨by simp; omega, fun h => by cases h⟩) ?_)
        simp [insC, hd]
      · have hd' : ¬ (c.f1 < d.f1 ∨ c.f1 = d.f1 ∧ c.f0 < d.f0) := hd
        refine Ev.neg (by simpa using hd') (Ev.pos (by omega) (Ev.of_eq (ih (s ++ [(⟨d.f0, d.f1⟩ : Cell)], false) ⟨by simp; omega, fun _ => by simp; omega⟩) ?_))
        simp [insC, hd]
    · refine Ev.pos rfl (Ev.pos (by omega) (Ev.of_eq (ih (s ++ [(⟨d.f0, d.f1⟩ : Cell)], true) ⟨by simp; omega, fun h => by cases h⟩) ?_))
      simp
def insAll : List Cell → List Cell → List Cell
  | acc, [] => acc
  | acc, c :: r => insAll (insC c acc) r
theorem insAll_spec : ∀ (l acc : List Cell), (acc.Pairwise fun a b => ¬ ltC b a) → (insAll acc l).Perm (acc ++ l) ∧ (insAll acc l).Pairwise fun a b => ¬ ltC b a
  | [], acc, h => ⟨by simp [insAll], h⟩
  | c :: r, acc, h => by
    obtain ⟨h1, h2⟩ := insAll_spec r (insC c acc) (insC_sorted c acc h)
    refine ⟨h1.trans ?_, h2⟩
    refine ((insC_perm c acc).append_right r).trans ?_
    exact List.perm_middle.symm
theorem specSortI_ev (l : List Cell) (hl : l.length ≤ 1048576) : Ev (fun k => spec_l02Sort.f k l) (insAll [] l) := by
  have hs : small l := by unfold small; omega
  unfold spec_l02Sort.f
  refine loop_list l (fun k i (s : List Cell) => spec_l02Sort.l0 k l s i) (fun pre suf s => insAll s suf) (fun pre s => s.length = pre.length) ?_ ?_ [] rfl
  · intro s _
    simp only [spec_l02Sort.l0, len_lt, if_false]
    exact Ev.now _
  · intro pre c suf s hx hi ih
    have hp := pre_len hx
    simp only [spec_l02Sort.l0, pre_lt hx, pre_0, if_true, at_pre hx, pre_w hx hs]
    refine Ev.bind (specInsert_ev s c (by omega)) (ih _ ?_)
    rw [(insC_perm c s).length_eq]
    simp [hi]
theorem insAll_eq (l : List Cell) : insAll [] l = sortC l := by
  obtain ⟨h1, h2⟩ := insAll_spec l [] List.Pairwise.nil
  exact (sortC_eq (by simpa using h1) h2).symm
theorem specSort_ev (l : List Cell) (hl : l.length ≤ 1048576) : Ev (fun k => spec_l02Sort.f k l) (sortC l) := by
  rw [← insAll_eq]
  exact specSortI_ev l hl
theorem sort_ltF {l : List Cell} (h : l.Nodup) : (sortC l).Pairwise ltC := by
  have h1 := sortC_sorted l
  have h2 : (sortC l).Nodup := (sortC_perm l).nodup_iff.2 h
  have := h1.and h2
  refine this.imp fun {a b} hab => ?_
  obtain ⟨h3, h4⟩ := hab
  obtain ⟨a0, a1⟩ := a
  obtain ⟨b0, b1⟩ := b
  unfold ltC at *
  simp only [ne_eq, S44.mk.injEq] at *
  omega
theorem lt_nodF {l : List Cell} (h : l.Pairwise ltC) : l.Nodup := h.imp fun {a b} hab e => by subst e; unfold ltC at hab; omega
theorem grp_mem {l : List Cell} {p : List Int} {m : Nat} {k : Int} {c : Cell} : c ∈ grp l p m k ↔ ∃ j : Nat, j < m ∧ p.getD j 0 = k ∧ l.getD j z44 = c := by
  unfold grp
  rw [List.mem_map]
  constructor
  · rintro ⟨j, hj, e⟩
    obtain ⟨h1, h2⟩ := List.mem_filter.1 hj
    exact ⟨j, List.mem_range.1 h1, of_decide_eq_true h2, e⟩
  · rintro ⟨j, h1, h2, e⟩
    exact ⟨j, List.mem_filter.2 ⟨List.mem_range.2 h1, decide_eq_true h2⟩, e⟩
theorem idx_getD {l : List Cell} (hn : l.Nodup) {j : Nat} (hj : j < l.length) : idxC l (l.getD j z44) = (j : Int) := by
  have : l.getD j z44 = l[j] := by simp [List.getD, hj]
  rw [this]
  exact idxC_at hn hj
theorem grp_nodup {l : List Cell} {p : List Int} (hn : l.Nodup) {m : Nat} (hm : m ≤ l.length) (k : Int) : (grp l p m k).Nodup := by
  unfold grp
  refine List.pairwise_map.2 ((List.nodup_range.filter _).imp_of_mem fun {i j} hi hj hij e => hij ?_)
  have h1 := List.mem_range.1 (List.mem_filter.1 hi).1
  have h2 := List.mem_range.1 (List.mem_filter.1 hj).1
  have h3 := idx_getD hn (j := i) (by omega)
  have h4 := idx_getD hn (j := j) (by omega)
  rw [e, h4] at h3
  omega
theorem rootsI_nodup (p : List Int) (m : Nat) : (rootsI p m).Nodup := by
  unfold rootsI
  refine List.pairwise_map.2 ((List.nodup_range.filter _).imp fun {i j} hij e => hij ?_)
  omega
theorem rootsI_pos {l : List Cell} {p : List Int} (h : Marks l p) (m : Nat) (h0 : 0 < l.length) {x : Int} (hx : x ∈ (rootsI p (m + 1)).drop 1) : 1 ≤ x := by
  obtain ⟨r, hr⟩ := rootsI_first h m h0
  have hn := rootsI_nodup p (m + 1)
  rw [hr] at hn hx
  rw [List.drop_one, List.tail_cons] at hx
  have h1 := (List.nodup_cons.1 hn).1
  have h2 := rootsI_mem (p := p) (m := m + 1) (x := x) (by rw [hr]; exact List.mem_cons_of_mem _ hx)
  have h3 : x ≠ 0 := by rintro rfl; exact h1 hx
  omega
theorem holesP_mem {F : List Cell} (h0 : F ≠ []) (hn : F.Nodup) {c : Cell} : c ∈ (holesP F).flatten ↔ c ∈ F ∧ rd (partsR aroundC F) (idxC F c) ≠ 0 := by
  have hM := marksR F
  have hp := List.length_pos_iff.2 h0
  unfold holesP partsBut
  generalize partsR aroundC F = p at *
  obtain ⟨n, hn1⟩ : ∃ n, F.length = n + 1 := ⟨F.length - 1, by omega⟩
  have hpl := hM.len
  rw [List.mem_flatten]
  constructor
  · rintro ⟨g, hg, hc⟩
    obtain ⟨r, hr, rfl⟩ := List.mem_map.1 hg
    obtain ⟨j, h1, h2, h3⟩ := grp_mem.1 hc
    have hj : j < F.length := by omega
    have hx := idx_getD hn hj
    rw [h3] at hx
    rw [hn1] at hr
    have hr1 := rootsI_pos hM n hp hr
    refine ⟨?_, ?_⟩
    · have e : F.getD j z44 = F[j] := by simp [List.getD, hj]
      rw [← h3, e]
      exact List.getElem_mem hj
    · rw [hx, rd_nat, h2]
      omega
  · rintro ⟨hc, hne⟩
    have hi := (idxC_mem F c).2 hc
    have hl := idxC_lt F c
    obtain ⟨j, hj⟩ : ∃ j : Nat, idxC F c = (j : Int) := ⟨(idxC F c).toNat, by omega⟩
    rw [hj] at hne hl
    have hjl : j < F.length := by omega
    obtain ⟨r1, r2, r3⟩ := hM.root j hjl
    have hcj : F.getD j z44 = c := by
      have e : F.getD j z44 = F[j] := by simp [List.getD, hjl]
      rcases idxC_spec F c with ⟨e1, _⟩ | ⟨q, q1, q2, q3, _⟩
      · omega
      · have : q = j := by omega
        subst this
        rw [e]
        rw [List.getElem?_eq_getElem q1] at q3
        simpa using q3
    obtain ⟨v, hv⟩ : ∃ v : Nat, rd p (j : Int) = (v : Int) := ⟨(rd p (j : Int)).toNat, by omega⟩
    rw [hv] at r1 r2 r3 hne
    refine ⟨grp F p p.length (v : Int), List.mem_map.2 ⟨(v : Int), ?_, rfl⟩, grp_mem.2 ⟨j, by omega, by rw [← rd_nat]; exact hv, hcj⟩⟩
    have hvr : (v : Int) ∈ rootsI p F.length := by
      unfold rootsI
      refine List.mem_map.2 ⟨v, List.mem_filter.2 ⟨List.mem_range.2 (by omega), decide_eq_true ?_⟩, rfl⟩
      rw [← rd_nat]
      exact r3
    obtain ⟨t, ht⟩ := rootsI_first hM n hp
    rw [← hn1] at ht
    rw [ht] at hvr ⊢
    rw [List.drop_one, List.tail_cons]
    rcases List.mem_cons.1 hvr with h | h
    · exact absurd h hne
    · exact h
theorem holesP_nodup {F : List Cell} (hn : F.Nodup) : (holesP F).flatten.Nodup := by
  have hM := marksR F
  unfold holesP partsBut
  generalize partsR aroundC F = p at *
  have hpl := hM.len
  refine List.pairwise_flatten.2 ⟨fun g hg => ?_, List.pairwise_map.2 ?_⟩
  · obtain ⟨r, hr, rfl⟩ := List.mem_map.1 hg
    exact grp_nodup hn (by omega) r
  · refine (List.Pairwise.sublist (List.drop_sublist 1 (rootsI p F.length)) (rootsI_nodup p F.length)).imp fun {r s} hrs x hx y hy e => hrs ?_
    obtain ⟨i, h1, h2, h3⟩ := grp_mem.1 hx
    obtain ⟨j, h4, h5, h6⟩ := grp_mem.1 hy
    have h7 := idx_getD hn (j := i) (by omega)
    have h8 := idx_getD hn (j := j) (by omega)
    rw [h3, e, ← h6, h8] at h7
    have : j = i := by omega
    subst this
    rw [← h2, h5]
def fillL (l : List Cell) : List Cell := l ++ (holesL l).flatten
theorem fillL_ok {l : List Cell} (h : shapeB l = true) : (∀ c ∈ fillL l, okC c) ∧ (fillL l).Nodup ∧ 1 ≤ (fillL l).length ∧ (fillL l).length ≤ 1000040 := by
  obtain ⟨f0, f1, f2, f3⟩ := freeL_ok h
  obtain ⟨ho, hp, h3, h4⟩ := shapeB_iff.1 h
  have hb := box_bd h
  have hmem : ∀ c ∈ (holesL l).flatten, c ∈ freeL l ∧ c ∉ l ∧ okC c := fun c hc => by
    obtain ⟨h5, h6⟩ := (holesP_mem f0 f2).1 hc
    have h7 := other_in h h5 h6
    refine ⟨h5, ((mem_freeL h c).1 h5).2.2.2.2, ?_⟩
    unfold okC ok1
    omega
  have hfl := nodup_subG (holesL l).flatten (freeL l) (holesP_nodup f2) (fun c hc => (hmem c hc).1)
  unfold fillL
  refine ⟨fun c hc => ?_, ?_, ?_, ?_⟩
  · rcases List.mem_append.1 hc with h5 | h5
    · exact ho c h5
    · exact (hmem c h5).2.2
  · refine List.nodup_append.2 ⟨lt_nodF hp, holesP_nodup f2, fun a ha b hb e => ?_⟩
    exact (hmem b hb).2.1 (e ▸ ha)
  · rw [List.length_append]; omega
  · rw [List.length_append]; omega
theorem fill_shape {l : List Cell} (h : shapeB l = true) : shapeB (sortC (fillL l)) = decide ((fillL l).length ≤ 40) := by
  obtain ⟨h1, h2, h3, h4⟩ := fillL_ok h
  rw [Bool.eq_iff_iff, decide_eq_true_eq, shapeB_iff]
  constructor
  · rintro ⟨_, _, _, h5⟩
    rwa [sortC_len] at h5
  · intro h5
    refine ⟨fun c hc => h1 c ((sortC_perm _).mem_iff.1 hc), sort_ltF h2, ?_, ?_⟩
    · rw [sortC_len]; exact h3
    · rw [sortC_len]; exact h5
def fillR (l : List Cell) : List Cell × Int := if codeF l = 0 then (if (fillL l).length ≤ 40 then (sortC (fillL l), 0) else ([], 3)) else ([], codeF l)
theorem fillR_len (l : List Cell) : (fillR l).1.length ≤ 40 := by
  unfold fillR
  by_cases h : codeF l = 0
  · rw [if_pos h]
    by_cases h2 : (fillL l).length ≤ 40
    · rw [if_pos h2]
      show (sortC (fillL l)).length ≤ 40
      rw [sortC_len]
      exact h2
    · rw [if_neg h2]; simp
  · rw [if_neg h]; simp
end Go.Proofs.Ytaecheolnpofeaa.L
end
section
namespace Go.Proofs.Ytaecheolnpofeaa.L
open Go.RowKit Go.Proofs.YtaecheolnpofeaaW.PrintWords Go.Proofs.YtaecheolnpofeaaW.PrintLast Go.Proofs.YtaecheolnpofeaaW.PrintMore Go.Proofs.Ytaecheolnpofeaa.F
set_option linter.unusedVariables false
set_option linter.unusedSimpArgs false
theorem rdF_pre {pre suf y : List (List Cell)} {c : List Cell} (hx : y = pre ++ c :: suf) : rd_L2 y (pre.length : Int) = c := by
  subst hx
  exact getD_at pre suf c []
theorem holesY_len {l : List Cell} (h : shapeB l = true) : (holesL l).length ≤ 1000000 := by
  obtain ⟨f0, f1, f2, f3⟩ := freeL_ok h
  unfold holesL holesP partsBut
  have := rootsI_len (partsR aroundC (freeL l)) (freeL l).length
  rw [List.length_map, List.length_drop]
  omega
theorem flat_len {y pre suf : List (List Cell)} {c : List Cell} (hx : y = pre ++ c :: suf) : pre.flatten.length + c.length ≤ y.flatten.length := by
  subst hx
  simp only [List.flatten_append, List.flatten_cons, List.length_append]
  omega
def fillF (x : List Cell) : List Cell × Int := if x.length ≤ 40 then (sortC x, 0) else ([], 3)
theorem specFill_l (l : List Cell) (y : List (List Cell)) (hy : y.length ≤ 1000000) (hb : (l ++ y.flatten).length ≤ 1000040) : Ev (fun k => spec_FillHoles.l0 k l y 0) (fillF (l ++ y.flatten)) := by
  have hs : small y := by unfold small; omega
  have := loop_list y (fun k i (s : List Cell) => spec_FillHoles.l0 k s y i) (fun _ _ _ => fillF (l ++ y.flatten)) (fun pre s => s = l ++ pre.flatten) ?_ ?_ l (by simp)
  · exact this
  · rintro s rfl
    simp only [spec_FillHoles.l0, len_lt, if_false]
    unfold fillF
    by_cases e : (l ++ y.flatten).length ≤ 40
    · rw [if_pos e]
      exact Ev.neg (by omega) (Ev.bind (specSort_ev _ (by omega)) (Ev.now _))
    · rw [if_neg e]
      exact Ev.pos (by omega) (Ev.now _)
  · rintro pre c suf s hx rfl ih
    have hl := flat_len hx
    rw [List.length_append] at hb
    simp only [spec_FillHoles.l0, pre_lt hx, pre_0, if_true, pre_w hx hs, rdF_pre hx]
    exact Ev.pos (by rw [List.length_append]; omega) (ih _ (by simp))
theorem implFill_l (l : List Cell) (y : List (List Cell)) (h0 : 0 < l.length) (hy : y.length ≤ 1000000) (hb : (l ++ y.flatten).length ≤ 1000040) (hsh : shapeB (sortC (l ++ y.flatten)) = decide ((l ++ y.flatten).length ≤ 40)) : Ev (fun k => impl_FillHoles.l0 k l y (y.length : Int) 0) (fillF (l ++ y.flatten)) := by
  have hs : small y := by unfold small; omega
  have := loop_list y (fun k i (s : List Cell) => impl_FillHoles.l0 k s y (y.length : Int) i) (fun _ _ _ => fillF (l ++ y.flatten)) (fun pre s => s = l ++ pre.flatten) ?_ ?_ l (by simp)
  · exact this
  · rintro s rfl
    simp only [impl_FillHoles.l0, len_lt, if_false]
    have e2 : impl_sorted.f (l ++ y.flatten) = some (sortC (l ++ y.flatten)) := implSorted_eq _ (by rw [List.length_append]; omega) (by omega)
    refine Ev.bind0 e2 (Ev.bind (implIsShape_ev _ (by unfold small; rw [sortC_len]; omega)) ?_)
    rw [hsh]
    unfold fillF
    by_cases e : (l ++ y.flatten).length ≤ 40
    · rw [if_pos e]
      exact Ev.pos (decide_eq_true e) (Ev.now _)
    · rw [if_neg e]
      exact Ev.neg (by simpa using e) (Ev.now _)
  · rintro pre c suf s hx rfl ih
    have hl := flat_len hx
    rw [List.length_append] at hb
    simp only [impl_FillHoles.l0, pre_lt hx, pre_0, if_true, pre_w hx hs, rdF_pre hx]
    exact Ev.pos (by rw [List.length_append]; omega) (ih _ (by simp))
theorem specFillHoles_ev (l : List Cell) (hl : l.length ≤ 1048576) : Ev (fun k => spec_FillHoles.f k l) (fillR l) := by
  unfold spec_FillHoles.f fillR
  refine Ev.bind (specCode_ev l hl) (Ev.if_ (fun h => ?_) (fun _ => Ev.now _))
  have hh := (codeF_shape h).1
  obtain ⟨h1, h2, h3, h4⟩ := fillL_ok hh
  refine Ev.bind0 rfl (Ev.pos (by rw [List.length_nil]; omega) (Ev.bind (specHoles_ev hh) ?_))
  exact specFill_l l _ (holesY_len hh) h4
theorem implFillHoles_ev (l : List Cell) (hl : l.length ≤ 1048576) : Ev (fun k => impl_FillHoles.f k l) (fillR l) := by
  unfold impl_FillHoles.f fillR
  refine Ev.bind (implCode_ev l hl) (Ev.if_ (fun h => ?_) (fun _ => Ev.now _))
  have hh := (codeF_shape h).1
  obtain ⟨h1, h2, h3, h4⟩ := fillL_ok hh
  have h0 : 0 < l.length := List.length_pos_iff.2 (shape_ne hh)
  have e1 : impl_Cell_48.f l = some l := by
    unfold impl_Cell_48.f
    rw [if_pos (by omega)]
  refine Ev.bind0 e1 (Ev.bind (implHoles_ev hh) ?_)
  exact implFill_l l _ h0 (holesY_len hh) h4 (fill_shape hh)
end Go.Proofs.Ytaecheolnpofeaa.L
namespace Go.Proofs.Ytaecheolnpofeaa.Pure
open Go.RowKit Go.Proofs.YtaecheolnpofeaaW.PrintWords Go.Proofs.Ytaecheolnpofeaa.F Go.Proofs.Ytaecheolnpofeaa.L
set_option linter.unusedVariables false
theorem FnExactFillHoles (l : List LCell) {V : LCell → Prop} (hv : l.length ≤ 9223372036854775807 ∧ ∀ a ∈ l, V a) : ∃ k, laws_FnExactFillHoles.f k l = some true := by
  refine Ev.rounds ?_
  unfold laws_FnExactFillHoles.f
  rw [szCellS_eq l 1048576 (by decide) (by decide) hv.1]
  simp only [Option.bind_some]
  by_cases h : (1048576 : Int) - (l.length : Int) < 0
  · rw [if_pos h]; exact Ev.pos (by decide) (Ev.now _)
  · rw [if_neg h]
    refine Ev.neg h ?_
    have la : l.length ≤ 1048576 := by omega
    have lm : (l.map cellOf).length ≤ 1048576 := by simpa using la
    have hs : small (l.map cellOf) := by unfold small; omega
    have hf : fits (l.map cellOf) := lm
    have hb := fillR_len (l.map cellOf)
    have hbs : small (fillR (l.map cellOf)).1 := by unfold small; omega
    have hbf : fits (fillR (l.map cellOf)).1 := by unfold fits; omega
    refine Ev.bind (toCellS_ev l la) (Ev.bind (specFillHoles_ev _ lm) (Ev.bind (toCellS_ev l la) (Ev.bind (implFillHoles_ev _ lm) (Ev.bind (eqCellS_ev _ hbs) (Ev.pos rfl ?_)))))
    refine Ev.step (fun k => laws_FnExactFillHoles.j0.eq_2 _ _ _ _ _ _ _ _) (Ev.neg (by simp) ?_)
    refine Ev.bind (toCellS_ev l la) (Ev.bind (eqCellS_ev _ hs) (Ev.pos rfl (Ev.bind (markCellS_ev _ hf) (Ev.neg (by simp; omega) (Ev.bind (eqCellS_ev _ hbs) (Ev.pos rfl ?_))))))
    refine Ev.step (fun k => laws_FnExactFillHoles.j1.eq_2 _ _ _ _ _ _) (Ev.neg (by simp) ?_)
    refine Ev.bind (markCellS_ev _ hbf) (Ev.bind (heldCellS_ev _ (by omega)) (Ev.neg (by omega) (Ev.pos rfl ?_)))
    refine Ev.bind (toCellS_ev l la) (Ev.bind (implFillHoles_ev _ lm) (Ev.bind (eqCellS_ev _ hbs) (Ev.pos rfl ?_)))
    refine Ev.step (fun k => laws_FnExactFillHoles.j2.eq_2 _ _ _ _) (Ev.neg (by simp) ?_)
    exact Ev.bind (heldCellS_ev _ (by omega)) (Ev.neg (by omega) (Ev.pos rfl (Ev.now _)))
end Go.Proofs.Ytaecheolnpofeaa.Pure
end
