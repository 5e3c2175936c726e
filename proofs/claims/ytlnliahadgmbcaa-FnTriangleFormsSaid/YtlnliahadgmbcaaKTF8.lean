/- The row of FnTriangleForms, with what it needs: text 9 of 10. -/
import Derived.Test.YtlnliahadgmbcaaKTF7
set_option maxHeartbeats 8000000
set_option maxRecDepth 100000
section
namespace Go.Proofs.Ytlnliahadgmbcaa.L
open Go.RowKit Go.Proofs.YtlnliahadgmbcaaW.PrintWords Go.Proofs.YtlnliahadgmbcaaW.PrintLast Go.Proofs.YtlnliahadgmbcaaW.PrintMore Go.Proofs.Ytlnliahadgmbcaa.F
set_option linter.unusedVariables false
set_option linter.unusedSimpArgs false
theorem minX_le : ∀ (l : List Cell) (z : Int), minX z l ≤ z ∧ (∀ c ∈ l, minX z l ≤ c.f0) ∧ (minX z l = z ∨ ∃ c ∈ l, minX z l = c.f0)
  | [], z => ⟨Int.le_refl _, fun c h => by simp at h, .inl rfl⟩
  | a :: r, z => by
    obtain ⟨h1, h2, h3⟩ := minX_le r (mn z a.f0)
    have h4 : mn z a.f0 ≤ z ∧ mn z a.f0 ≤ a.f0 ∧ (mn z a.f0 = z ∨ mn z a.f0 = a.f0) := by unfold mn; split <;> omega
    have e : minX z (a :: r) = minX (mn z a.f0) r := rfl
    rw [e]
    refine ⟨by omega, fun c hc => ?_, ?_⟩
    · rcases List.mem_cons.1 hc with rfl | hc
      · omega
      · exact h2 c hc
    · rcases h3 with h3 | ⟨c, hc, h3⟩
      · rcases h4.2.2 with h5 | h5
        · exact .inl (h3.trans h5)
        · exact .inr ⟨a, List.mem_cons_self, h3.trans h5⟩
      · exact .inr ⟨c, List.mem_cons_of_mem _ hc, h3⟩
theorem minY_le : ∀ (l : List Cell) (z : Int), minY z l ≤ z ∧ (∀ c ∈ l, minY z l ≤ c.f1) ∧ (minY z l = z ∨ ∃ c ∈ l, minY z l = c.f1)
  | [], z => ⟨Int.le_refl _, fun c h => by simp at h, .inl rfl⟩
  | a :: r, z => by
    obtain ⟨h1, h2, h3⟩ := minY_le r (mn z a.f1)
    have h4 : mn z a.f1 ≤ z ∧ mn z a.f1 ≤ a.f1 ∧ (mn z a.f1 = z ∨ mn z a.f1 = a.f1) := by unfold mn; split <;> omega
    have e : minY z (a :: r) = minY (mn z a.f1) r := rfl
    rw [e]
    refine ⟨by omega, fun c hc => ?_, ?_⟩
    · rcases List.mem_cons.1 hc with rfl | hc
      · omega
      · exact h2 c hc
    · rcases h3 with h3 | ⟨c, hc, h3⟩
      · rcases h4.2.2 with h5 | h5
        · exact .inl (h3.trans h5)
        · exact .inr ⟨a, List.mem_cons_self, h3.trans h5⟩
      · exact .inr ⟨c, List.mem_cons_of_mem _ hc, h3⟩
theorem least_le {l : List Cell} {c : Cell} (h : c ∈ l) : (leastOf l).1 ≤ c.f0 ∧ (leastOf l).2 ≤ c.f1 := by
  cases l with
  | nil => simp at h
  | cons a r =>
    have hx := minX_le r a.f0
    have hy := minY_le r a.f1
    show minX a.f0 r ≤ c.f0 ∧ minY a.f1 r ≤ c.f1
    rcases List.mem_cons.1 h with rfl | h
    · exact ⟨hx.1, hy.1⟩
    · exact ⟨hx.2.1 c h, hy.2.1 c h⟩
theorem least_mem {l : List Cell} (h : l ≠ []) : (∃ c ∈ l, (leastOf l).1 = c.f0) ∧ (∃ c ∈ l, (leastOf l).2 = c.f1) := by
  cases l with
  | nil => exact absurd rfl h
  | cons a r =>
    refine ⟨?_, ?_⟩
    · rcases (minX_le r a.f0).2.2 with e | ⟨c, hc, e⟩
      · exact ⟨a, List.mem_cons_self, e⟩
      · exact ⟨c, List.mem_cons_of_mem _ hc, e⟩
    · rcases (minY_le r a.f1).2.2 with e | ⟨c, hc, e⟩
      · exact ⟨a, List.mem_cons_self, e⟩
      · exact ⟨c, List.mem_cons_of_mem _ hc, e⟩
theorem shape_ne {l : List Cell} (h : shapeB l = true) : l ≠ [] := by
  have := (shapeB_iff.1 h).2.2.1
  intro e
  rw [e] at this
  simp at this
def sameC (a b : Cell) : Bool := decide (a.f0 = b.f0) && decide (a.f1 = b.f1)
theorem sameC_iff {a b : Cell} : sameC a b = true ↔ a = b := by
  obtain ⟨a0, a1⟩ := a
  obtain ⟨b0, b1⟩ := b
  simp [sameC]
def idxF : List Cell → Cell → Int → Int
  | [], _, _ => -1
  | a :: r, c, i => if sameC a c = true then i else idxF r c (i + 1)
def idxC (l : List Cell) (c : Cell) : Int := idxF l c 0
theorem specIndex_ev (l : List Cell) (c : Cell) (hs : small l) : Ev (fun k => spec_l02Index.f k l c.f0 c.f1) (idxC l c) := by
  unfold spec_l02Index.f
  refine loop_list l (fun k i (_ : Unit) => spec_l02Index.l0 k l i c.f0 c.f1) (fun pre suf _ => idxF suf c (pre.length : Int)) (fun _ _ => True) ?_ ?_ () trivial
  · intro _ _
    simp only [spec_l02Index.l0, len_lt, if_false]
    exact Ev.now _
  · intro pre d suf _ hx _ ih
    simp only [spec_l02Index.l0, pre_lt hx, pre_0, if_true, at_pre hx, pre_w hx hs, idxF]
    have e : (d.f0 == c.f0 && d.f1 == c.f1) = sameC d c := by simp [sameC, BEq.beq]
    rw [e]
    refine Ev.if_ (fun _ => Ev.now _) (fun _ => Ev.of_eq (ih () trivial) ?_)
    simp
theorem idxF_spec : ∀ (l : List Cell) (c : Cell) (i : Int), 0 ≤ i → (idxF l c i = -1 ∧ c ∉ l) ∨ (∃ j : Nat, j < l.length ∧ idxF l c i = i + (j : Int) ∧ l[j]? = some c ∧ ∀ q : Nat, q < j → l[q]? ≠ some c)
  | [], c, i, _ => .inl ⟨rfl, by simp⟩
  | a :: r, c, i, hi => by
    unfold idxF
    by_cases h : sameC a c = true
    · rw [if_pos h]
      exact .inr ⟨0, by simp, by simp, by simp [sameC_iff.1 h], fun q hq => by omega⟩
    · rw [if_neg h]
      have hne : a ≠ c := fun e => h (sameC_iff.2 e)
      rcases idxF_spec r c (i + 1) (by omega) with ⟨h1, h2⟩ | ⟨j, h1, h2, h3, h4⟩
      · exact .inl ⟨h1, by simp only [List.mem_cons, not_or]; exact ⟨fun e => hne e.symm, h2⟩⟩
      · refine .inr ⟨j + 1, by simpa using h1, by rw [h2]; simp; omega, by simpa using h3, fun q hq => ?_⟩
        cases q with
        | zero => simpa using hne
        | succ q => simpa using h4 q (by omega)
theorem idxC_spec (l : List Cell) (c : Cell) : (idxC l c = -1 ∧ c ∉ l) ∨ (∃ j : Nat, j < l.length ∧ idxC l c = (j : Int) ∧ l[j]? = some c ∧ ∀ q : Nat, q < j → l[q]? ≠ some c) := by
  rcases idxF_spec l c 0 (Int.le_refl _) with h | ⟨j, h1, h2, h3⟩
  · exact .inl h
  · exact .inr ⟨j, h1, by unfold idxC; rw [h2]; omega, h3⟩
theorem idxC_mem (l : List Cell) (c : Cell) : idxC l c ≥ 0 ↔ c ∈ l := by
  rcases idxC_spec l c with ⟨h1, h2⟩ | ⟨j, h1, h2, h3, _⟩
  · rw [h1]; constructor
    · intro h; omega
    · intro h; exact absurd h h2
  · rw [h2]; constructor
    · intro _; exact List.mem_of_getElem? h3
    · intro _; omega
def visit1 (l : List Cell) (i : Int) (s : List Int × List Int) (d : Cell) : List Int × List Int :=
  if idxC l d ≥ 0 ∧ rd s.1 (idxC l d) < 0 then (s.1.set (idxC l d).toNat i, s.2 ++ [idxC l d]) else s
def visit (l : List Cell) (i : Int) (ds : List Cell) (s : List Int × List Int) : List Int × List Int := ds.foldl (visit1 l i) s
def negs (o : List Int) : Nat := o.countP fun x => decide (x < 0)
structure Fine (l : List Cell) (o q : List Int) : Prop where
  len : o.length = l.length
  rng : ∀ j ∈ q, 0 ≤ j ∧ j < (l.length : Int)
theorem idxC_lt (l : List Cell) (d : Cell) : idxC l d < (l.length : Int) := by
  rcases idxC_spec l d with ⟨h, _⟩ | ⟨j, h1, h2, _⟩
  · omega
  · omega
theorem rd_set (o : List Int) (j : Nat) (i : Int) (q : Int) (hj : j < o.length) : rd (o.set j i) q = if q.toNat = j then i else rd o q := by
  unfold rd
  rw [List.getD_eq_getElem?_getD, List.getD_eq_getElem?_getD]
  by_cases h : q.toNat = j
  · rw [if_pos h, h, List.getElem?_set_self hj]; rfl
  · rw [if_neg h, List.getElem?_set_ne (by omega)]
theorem negs_set (o : List Int) (j : Int) (i : Int) (h0 : 0 ≤ j) (h1 : j < (o.length : Int)) (h : rd o j < 0) (hi : 0 ≤ i) : negs (o.set j.toNat i) + 1 = negs o := by
  have hj : j.toNat < o.length := by omega
  have hr : o[j.toNat] < 0 := by
    unfold rd at h
    rw [List.getD_eq_getElem?_getD, List.getElem?_eq_getElem hj] at h
    exact h
  unfold negs
  have hpos : 0 < o.countP fun x => decide (x < 0) := List.countP_pos_iff.2 ⟨_, List.getElem_mem hj, by simpa using hr⟩
  rw [List.countP_set hj]
  have e1 : decide (i < 0) = false := decide_eq_false (by omega)
  have e2 : decide (o[j.toNat] < 0) = true := decide_eq_true hr
  simp only [e1, e2, if_true]
  simp
  omega
theorem visit1_fine {l : List Cell} {i : Int} (hi : 0 ≤ i) {s : List Int × List Int} (h : Fine l s.1 s.2) (d : Cell) :
    Fine l (visit1 l i s d).1 (visit1 l i s d).2 ∧ negs (visit1 l i s d).1 + (visit1 l i s d).2.length = negs s.1 + s.2.length ∧ s.2.length ≤ (visit1 l i s d).2.length ∧ ∀ j : Int, 0 ≤ rd s.1 j → 0 ≤ rd (visit1 l i s d).1 j := by
  unfold visit1
  by_cases hc : idxC l d ≥ 0 ∧ rd s.1 (idxC l d) < 0
  · rw [if_pos hc]
    have hlt := idxC_lt l d
    have hln := h.len
    refine ⟨⟨by simpa using h.len, fun j hj => ?_⟩, ?_, by simp, fun j hj => ?_⟩
    · rcases List.mem_append.1 hj with hj | hj
      · exact h.rng j hj
      · simp at hj; omega
    · have := negs_set s.1 (idxC l d) i hc.1 (by omega) hc.2 hi
      simp only [List.length_append, List.length_singleton]
      omega
    · simp only
      rw [rd_set _ _ _ _ (by omega)]
      split
      · exact hi
      · exact hj
  · rw [if_neg hc]
    exact ⟨h, rfl, Nat.le_refl _, fun _ h => h⟩
theorem visit_fine {l : List Cell} {i : Int} (hi : 0 ≤ i) : ∀ (ds : List Cell) {s : List Int × List Int}, Fine l s.1 s.2 →
    Fine l (visit l i ds s).1 (visit l i ds s).2 ∧ negs (visit l i ds s).1 + (visit l i ds s).2.length = negs s.1 + s.2.length ∧ s.2.length ≤ (visit l i ds s).2.length ∧ ∀ j : Int, 0 ≤ rd s.1 j → 0 ≤ rd (visit l i ds s).1 j
  | [], s, h => ⟨h, rfl, Nat.le_refl _, fun _ h => h⟩
  | d :: r, s, h => by
    obtain ⟨h1, h2, h3, h4⟩ := visit1_fine hi h d
    obtain ⟨h5, h6, h7, h8⟩ := visit_fine hi r h1
    exact ⟨h5, h6.trans h2, Nat.le_trans h3 h7, fun j hj => h8 j (h4 j hj)⟩
theorem visit_snoc (l : List Cell) (i : Int) (ds : List Cell) (d : Cell) (s : List Int × List Int) : visit l i (ds ++ [d]) s = visit1 l i (visit l i ds s) d := by
  simp [visit]
def bfs (nb : Cell → List Cell) (l : List Cell) (i : Int) : Nat → List Int → List Int → List Int
  | 0, o, _ => o
  | _ + 1, o, [] => o
  | n + 1, o, c :: q => bfs nb l i n (visit l i (nb (rd_T59 l c)) (o, q)).1 (visit l i (nb (rd_T59 l c)) (o, q)).2
theorem bfs_nil (nb : Cell → List Cell) (l : List Cell) (i : Int) (n : Nat) (o : List Int) : bfs nb l i n o [] = o := by cases n <;> rfl
theorem bfs_fine {nb : Cell → List Cell} {l : List Cell} {i : Int} (hi : 0 ≤ i) : ∀ (n : Nat) (o q : List Int), Fine l o q → (bfs nb l i n o q).length = l.length ∧ ∀ j : Int, 0 ≤ rd o j → 0 ≤ rd (bfs nb l i n o q) j
  | 0, o, q, h => ⟨h.len, fun _ h => h⟩
  | n + 1, o, [], h => ⟨h.len, fun _ h => h⟩
  | n + 1, o, c :: q, h => by
    have h' : Fine l o q := ⟨h.len, fun j hj => h.rng j (List.mem_cons_of_mem _ hj)⟩
    obtain ⟨h1, _, _, h4⟩ := visit_fine hi (nb (rd_T59 l c)) (s := (o, q)) h'
    obtain ⟨h5, h6⟩ := bfs_fine hi n _ _ h1
    exact ⟨h5, fun j hj => h6 j (h4 j hj)⟩
def partsF (nb : Cell → List Cell) (l : List Cell) : Int → List Cell → List Int → List Int
  | _, [], o => o
  | i, _ :: r, o => partsF nb l (i + 1) r (if rd o i ≥ 0 then o else bfs nb l i l.length (o.set i.toNat i) [i])
def partsR (nb : Cell → List Cell) (l : List Cell) : List Int := partsF nb l 0 l (List.replicate l.length (-1))
theorem step_fine {l : List Cell} {o : List Int} {i : Nat} (hl : o.length = l.length) (hi : i < l.length) (h : ¬ rd o (i : Int) ≥ 0) : Fine l (o.set i (i : Int)) [(i : Int)] ∧ negs (o.set i (i : Int)) + 1 ≤ l.length := by
  refine ⟨⟨by simpa using hl, fun j hj => by simp at hj; omega⟩, ?_⟩
  have h1 := negs_set o (i : Int) (i : Int) (by omega) (by omega) (by omega) (by omega)
  rw [Int.toNat_natCast] at h1
  have h2 : negs o ≤ o.length := List.countP_le_length
  omega
theorem step_next {nb : Cell → List Cell} {l : List Cell} {o : List Int} {i : Nat} (hl : o.length = l.length) (hi : i < l.length) (hd : ∀ j : Nat, j < i → 0 ≤ rd o (j : Int)) :
    (if rd o (i : Int) ≥ 0 then o else bfs nb l (i : Int) l.length (o.set i (i : Int)) [(i : Int)]).length = l.length ∧ ∀ j : Nat, j < i + 1 → 0 ≤ rd (if rd o (i : Int) ≥ 0 then o else bfs nb l (i : Int) l.length (o.set i (i : Int)) [(i : Int)]) (j : Int) := by
  by_cases h : rd o (i : Int) ≥ 0
  · rw [if_pos h]
    refine ⟨hl, fun j hj => ?_⟩
    by_cases e : j = i
    · exact e ▸ h
    · exact hd j (by omega)
  · rw [if_neg h]
    obtain ⟨h1, h2⟩ := step_fine hl hi h
    obtain ⟨h3, h4⟩ := bfs_fine (nb := nb) (i := (i : Int)) (by omega) l.length _ _ h1
    refine ⟨h3, fun j hj => h4 _ ?_⟩
    rw [rd_set _ _ _ _ (by omega), Int.toNat_natCast]
    split
    · omega
    · exact hd j (by omega)
theorem partsF_fine {nb : Cell → List Cell} {l : List Cell} : ∀ (r pre : List Cell) (o : List Int), l = pre ++ r → o.length = l.length → (∀ j : Nat, j < pre.length → 0 ≤ rd o (j : Int)) → (partsF nb l (pre.length : Int) r o).length = l.length ∧ ∀ j : Nat, j < l.length → 0 ≤ rd (partsF nb l (pre.length : Int) r o) (j : Int)
  | [], pre, o, h, hl, hd => by
    rw [List.append_nil] at h
    subst h
    exact ⟨hl, hd⟩
  | c :: r, pre, o, h, hl, hd => by
    obtain ⟨h1, h2⟩ := step_next (nb := nb) (l := l) (o := o) (i := pre.length) hl (by rw [h]; simp) hd
    have := partsF_fine (nb := nb) r (pre ++ [c]) _ (by rw [h]; simp) h1 (by simpa using h2)
    rw [List.length_append] at this
    exact this
theorem partsR_len (nb : Cell → List Cell) (l : List Cell) : (partsR nb l).length = l.length := (partsF_fine l [] _ rfl (by simp) (fun j hj => by simp at hj)).1
theorem partsR_pos (nb : Cell → List Cell) (l : List Cell) : ∀ x ∈ partsR nb l, 0 ≤ x := by
  intro x hx
  obtain ⟨j, hj, e⟩ := List.getElem_of_mem hx
  have h := (partsF_fine (nb := nb) (l := l) l [] (List.replicate l.length (-1)) rfl (by simp) (fun j hj => by simp at hj)).2 j (by have := partsR_len nb l; omega)
  have h' : 0 ≤ rd (partsR nb l) (j : Int) := h
  unfold rd at h'
  rw [List.getD_eq_getElem?_getD, Int.toNat_natCast, List.getElem?_eq_getElem hj] at h'
  exact e ▸ h'
theorem wf64 {n : Int} (h : -9223372036854775808 ≤ n) (h' : n ≤ 9223372036854775807) : (Lit.int .i64 n).wf = true := by
  simp only [Lit.wf, IntKind.min, IntKind.max, IntKind.signed, IntKind.bits, Bool.and_eq_true, decide_eq_true_eq, if_true]; omega
theorem wf_wrap (n : Int) : (Lit.int .i64 (wrap64 n)).wf = true := wf64 (by unfold wrap64; omega) (by unfold wrap64; omega)
theorem wfC_ok {c : Cell} (h : okC c) : wfC c = true := by
  unfold wfC
  unfold okC ok1 at h
  rw [wf64 (by omega) (by omega), wf64 (by omega) (by omega)]
  rfl
theorem lastIdx_eq (c : Cell) : ∀ (l : List Cell) (i : Nat), l.Nodup → lastIdx l c i = if idxF l c (i : Int) ≥ 0 then some (idxF l c (i : Int)).toNat else none
  | [], i, _ => by simp [lastIdx, idxF]
  | a :: r, i, h => by
    obtain ⟨h1, h2⟩ := List.nodup_cons.1 h
    have ih := lastIdx_eq c r (i + 1) h2
    have e : ((i + 1 : Nat) : Int) = (i : Int) + 1 := by omega
    rw [e] at ih
    unfold lastIdx idxF
    rw [ih]
    by_cases hs : sameC a c = true
    · have hac := sameC_iff.1 hs
      rw [if_pos hs]
      have hn : ¬ idxF r c ((i : Int) + 1) ≥ 0 := by
        rcases idxF_spec r c ((i : Int) + 1) (by omega) with ⟨h3, _⟩ | ⟨j, _, _, h3, _⟩
        · omega
        · exact absurd (List.mem_of_getElem? h3) (hac ▸ h1)
      rw [if_neg hn]
      have : a.f0 = c.f0 ∧ a.f1 = c.f1 := by rw [hac]; exact ⟨rfl, rfl⟩
      simp only [this, and_self, if_true]
      simp
    · rw [if_neg hs]
      have hne : ¬ (a.f0 = c.f0 ∧ a.f1 = c.f1) := by
        intro h3
        apply hs
        simp [sameC, h3.1, h3.2]
      by_cases hg : idxF r c ((i : Int) + 1) ≥ 0
      · rw [if_pos hg]
      · rw [if_neg hg]
        simp only [hne, if_false]
theorem look_eq (l : List Cell) (d : Cell) (hn : l.Nodup) (hw : wfC d = true) : impl_partsLook.f l d.f0 d.f1 = some (if idxC l d ≥ 0 then (idxC l d, true) else (0, false)) := by
  unfold impl_partsLook.f
  have hw' : wfC ⟨d.f0, d.f1⟩ = true := hw
  rw [if_pos hw']
  have := lastIdx_eq d l 0 hn
  have e : lastIdx l ⟨d.f0, d.f1⟩ 0 = if idxC l d ≥ 0 then some (idxC l d).toNat else none := this
  rw [e]
  by_cases h : idxC l d ≥ 0
  · rw [if_pos h, if_pos h]
    simp only [Int.toNat_of_nonneg h]
  · rw [if_neg h, if_neg h]
def oneB (l : List Int) : Bool := l.all fun x => decide (x = 0)
theorem visit1_stable {l : List Cell} {i : Int} {s : List Int × List Int} (h : Fine l s.1 s.2) (d : Cell) (j : Int) (hj : 0 ≤ j) : (0 ≤ rd s.1 j → rd (visit1 l i s d).1 j = rd s.1 j) ∧ (rd (visit1 l i s d).1 j = rd s.1 j ∨ rd (visit1 l i s d).1 j = i) := by
  unfold visit1
  by_cases hc : idxC l d ≥ 0 ∧ rd s.1 (idxC l d) < 0
  · rw [if_pos hc]
    have hlt := idxC_lt l d
    have hln := h.len
    simp only
    rw [rd_set _ _ _ _ (by omega)]
    by_cases e : j.toNat = (idxC l d).toNat
    · rw [if_pos e]
      have : j = idxC l d := by omega
      subst this
      exact ⟨fun h => by omega, .inr rfl⟩
    · rw [if_neg e]
      exact ⟨fun _ => rfl, .inl rfl⟩
  · rw [if_neg hc]
    exact ⟨fun _ => rfl, .inl rfl⟩
theorem visit_stable {l : List Cell} {i : Int} (hi : 0 ≤ i) (j : Int) (hj : 0 ≤ j) : ∀ (ds : List Cell) {s : List Int × List Int}, Fine l s.1 s.2 → (0 ≤ rd s.1 j → rd (visit l i ds s).1 j = rd s.1 j) ∧ (rd (visit l i ds s).1 j = rd s.1 j ∨ rd (visit l i ds s).1 j = i)
  | [], s, h => ⟨fun _ => rfl, .inl rfl⟩
  | d :: r, s, h => by
    obtain ⟨h1, h2⟩ := visit1_stable (i := i) h d j hj
    obtain ⟨h3, h4⟩ := visit_stable hi j hj r (visit1_fine hi h d).1
    refine ⟨fun h5 => (h3 (by rw [h1 h5]; exact h5)).trans (h1 h5), ?_⟩
    show rd (visit l i r (visit1 l i s d)).1 j = _ ∨ _
    rcases h4 with h4 | h4
    · rcases h2 with h2 | h2
      · exact .inl (h4.trans h2)
      · exact .inr (h4.trans h2)
    · exact .inr h4
theorem bfs_stable {nb : Cell → List Cell} {l : List Cell} {i : Int} (hi : 0 ≤ i) (j : Int) (hj : 0 ≤ j) : ∀ (n : Nat) (o q : List Int), Fine l o q → (0 ≤ rd o j → rd (bfs nb l i n o q) j = rd o j) ∧ (rd (bfs nb l i n o q) j = rd o j ∨ rd (bfs nb l i n o q) j = i)
  | 0, o, q, h => ⟨fun _ => rfl, .inl rfl⟩
  | n + 1, o, [], h => ⟨fun _ => rfl, .inl rfl⟩
  | n + 1, o, c :: q, h => by
    have h' : Fine l o q := ⟨h.len, fun j hj => h.rng j (List.mem_cons_of_mem _ hj)⟩
    obtain ⟨h1, h2⟩ := visit_stable hi j hj (nb (rd_T59 l c)) (s := (o, q)) h'
    obtain ⟨h3, h4⟩ := bfs_stable (nb := nb) hi j hj n _ _ (visit_fine hi (nb (rd_T59 l c)) (s := (o, q)) h').1
    refine ⟨fun h5 => (h3 (by rw [h1 h5]; exact h5)).trans (h1 h5), ?_⟩
    unfold bfs
    rcases h4 with h4 | h4
    · rcases h2 with h2 | h2
      · exact .inl (h4.trans h2)
      · exact .inr (h4.trans h2)
    · exact .inr h4
theorem partsF_stable {nb : Cell → List Cell} {l : List Cell} (j : Int) (hj : 0 ≤ j) : ∀ (r pre : List Cell) (o : List Int), l = pre ++ r → o.length = l.length → 0 ≤ rd o j → rd (partsF nb l (pre.length : Int) r o) j = rd o j
  | [], pre, o, h, hl, hd => rfl
  | c :: r, pre, o, h, hl, hd => by
    have hp : pre.length < l.length := by rw [h]; simp
    have e : rd (if rd o (pre.length : Int) ≥ 0 then o else bfs nb l (pre.length : Int) l.length (o.set pre.length (pre.length : Int)) [(pre.length : Int)]) j = rd o j ∧ (if rd o (pre.length : Int) ≥ 0 then o else bfs nb l (pre.length : Int) l.length (o.set pre.length (pre.length : Int)) [(pre.length : Int)]).length = l.length := by
      by_cases hg : rd o (pre.length : Int) ≥ 0
      · rw [if_pos hg]; exact ⟨rfl, hl⟩
      · rw [if_neg hg]
        obtain ⟨h1, _⟩ := step_fine hl hp hg
        have e1 : rd (o.set pre.length (pre.length : Int)) j = rd o j := by
          rw [rd_set _ _ _ _ (by omega), if_neg]
          intro e
          have : j = (pre.length : Int) := by omega
          exact hg (this ▸ hd)
        refine ⟨?_, (bfs_fine (by omega) l.length _ _ h1).1⟩
        rw [(bfs_stable (nb := nb) (i := (pre.length : Int)) (by omega) j hj l.length _ _ h1).1 (by rw [e1]; exact hd), e1]
    have := partsF_stable (nb := nb) j hj r (pre ++ [c]) _ (by rw [h]; simp) e.2 (by rw [e.1]; exact hd)
    rw [List.length_append] at this
    exact this.trans e.1
theorem partsF_bad {nb : Cell → List Cell} {l : List Cell} : ∀ (r pre : List Cell) (o : List Int), l = pre ++ r → o.length = l.length → 0 < pre.length → (∃ j : Nat, pre.length ≤ j ∧ j < l.length ∧ rd o (j : Int) < 0) → ∃ j : Nat, j < l.length ∧ 0 < rd (partsF nb l (pre.length : Int) r o) (j : Int)
  | [], pre, o, h, hl, h0, ⟨j, h1, h2, h3⟩ => by rw [List.append_nil] at h; subst h; omega
  | c :: r, pre, o, h, hl, h0, ⟨j, h1, h2, h3⟩ => by
    have hp : pre.length < l.length := by rw [h]; simp
    have hx : l = (pre ++ [c]) ++ r := by rw [h]; simp
    have hle : ((pre ++ [c]).length : Int) = (pre.length : Int) + 1 := by simp
    by_cases hg : rd o (pre.length : Int) ≥ 0
    · have hj : j ≠ pre.length := fun e => by rw [e] at h3; omega
      have := partsF_bad (nb := nb) r (pre ++ [c]) o hx hl (by simp) ⟨j, by simp; omega, h2, h3⟩
      unfold partsF
      rw [if_pos hg]
      rw [hle] at this
      exact this
    · obtain ⟨h4, _⟩ := step_fine hl hp hg
      have e1 : rd (o.set pre.length (pre.length : Int)) (pre.length : Int) = (pre.length : Int) := by
        rw [rd_set _ _ _ _ (by omega), Int.toNat_natCast, if_pos rfl]
      have e2 := (bfs_stable (nb := nb) (i := (pre.length : Int)) (by omega) (pre.length : Int) (by omega) l.length _ _ h4).1 (by rw [e1]; omega)
      have e3 := partsF_stable (nb := nb) (pre.length : Int) (by omega) r (pre ++ [c]) _ hx (bfs_fine (nb := nb) (i := (pre.length : Int)) (by omega) l.length _ _ h4).1 (by rw [e2, e1]; omega)
      refine ⟨pre.length, hp, ?_⟩
      unfold partsF
      rw [if_neg hg, Int.toNat_natCast]
      rw [hle] at e3
      rw [e3, e2, e1]
      omega
def first (nb : Cell → List Cell) (l : List Cell) : List Int := bfs nb l 0 l.length ((List.replicate l.length (-1 : Int)).set 0 0) [0]
theorem rd_neg {o : List Int} (h : ∀ j : Nat, j < o.length → 0 ≤ rd o (j : Int)) : negs o = 0 := by
  unfold negs
  rw [List.countP_eq_zero]
  intro x hx
  obtain ⟨j, hj, e⟩ := List.getElem_of_mem hx
  have := h j hj
  unfold rd at this
  rw [List.getD_eq_getElem?_getD, Int.toNat_natCast, List.getElem?_eq_getElem hj] at this
  have h' : 0 ≤ x := e ▸ this
  simpa using h'
theorem neg_rd {o : List Int} (h : negs o = 0) (j : Nat) (hj : j < o.length) : 0 ≤ rd o (j : Int) := by
  unfold negs at h
  rw [List.countP_eq_zero] at h
  have := h o[j] (List.getElem_mem hj)
  unfold rd
  rw [List.getD_eq_getElem?_getD, Int.toNat_natCast, List.getElem?_eq_getElem hj]
  simpa using this
theorem oneB_rd {o : List Int} : oneB o = true ↔ ∀ j : Nat, j < o.length → rd o (j : Int) = 0 := by
  unfold oneB
  rw [List.all_eq_true]
  constructor
  · intro h j hj
    unfold rd
    rw [List.getD_eq_getElem?_getD, Int.toNat_natCast, List.getElem?_eq_getElem hj]
    simpa using h _ (List.getElem_mem hj)
  · intro h x hx
    obtain ⟨j, hj, e⟩ := List.getElem_of_mem hx
    have := h j hj
    unfold rd at this
    rw [List.getD_eq_getElem?_getD, Int.toNat_natCast, List.getElem?_eq_getElem hj] at this
    have h' : x = 0 := e ▸ this
    simpa using h'
theorem rd_rep {n j : Nat} (h : j < n) : rd (List.replicate n (-1 : Int)) (j : Int) = -1 := by
  unfold rd
  rw [List.getD_eq_getElem?_getD, Int.toNat_natCast, List.getElem?_eq_getElem (by simpa using h)]
  simp
theorem first_fine (l : List Cell) (h0 : l ≠ []) : Fine l ((List.replicate l.length (-1 : Int)).set 0 0) [0] ∧ negs ((List.replicate l.length (-1 : Int)).set 0 0) + 1 = l.length := by
  have hp := List.length_pos_iff.2 h0
  refine ⟨⟨by simp, fun j hj => by simp at hj; omega⟩, ?_⟩
  have h1 := negs_set (List.replicate l.length (-1 : Int)) 0 0 (by omega) (by simp; omega) (by have := rd_rep (n := l.length) (j := 0) hp; rw [Int.natCast_zero] at this; omega) (by omega)
  have h2 : negs (List.replicate l.length (-1 : Int)) = l.length := by
    unfold negs
    rw [List.countP_replicate]
    simp
  rw [h2] at h1
  exact h1
theorem oneB_first (nb : Cell → List Cell) (l : List Cell) (h0 : l ≠ []) : oneB (partsR nb l) = decide (negs (first nb l) = 0) := by
  have hp := List.length_pos_iff.2 h0
  obtain ⟨hf, _⟩ := first_fine l h0
  obtain ⟨c, r, hcr⟩ : ∃ c r, l = c :: r := by cases l with | nil => exact absurd rfl h0 | cons c r => exact ⟨c, r, rfl⟩
  have hfl : (first nb l).length = l.length := (bfs_fine (nb := nb) (i := 0) (by omega) l.length _ _ hf).1
  have e : partsR nb l = partsF nb l 1 r (first nb l) := by
    unfold partsR
    have : ∀ (o : List Int), rd o 0 < 0 → partsF nb l 0 (c :: r) o = partsF nb l 1 r (bfs nb l 0 l.length (o.set 0 0) [0]) := by
      intro o ho
      rw [partsF, if_neg (by omega)]
      rfl
    rw [show partsF nb l 0 l (List.replicate l.length (-1)) = partsF nb l 0 (c :: r) (List.replicate l.length (-1)) from by rw [← hcr]]
    rw [this _ (by have := rd_rep (n := l.length) (j := 0) hp; rw [Int.natCast_zero] at this; omega)]
    rfl
  have hrng : ∀ j : Nat, j < l.length → rd (first nb l) (j : Int) = -1 ∨ rd (first nb l) (j : Int) = 0 := by
    intro j hj
    rcases (bfs_stable (nb := nb) (i := 0) (by omega) (j : Int) (by omega) l.length _ _ hf).2 with h | h
    · have h' : rd (first nb l) (j : Int) = rd ((List.replicate l.length (-1 : Int)).set 0 0) (j : Int) := h
      rw [rd_set _ _ _ _ (by simpa using hp), Int.toNat_natCast, rd_rep hj] at h'
      by_cases e0 : j = 0
      · rw [if_pos e0] at h'; exact .inr h'
      · rw [if_neg e0] at h'; exact .inl h'
    · exact .inr h
  rw [Bool.eq_iff_iff, decide_eq_true_eq, oneB_rd, partsR_len]
  have hx : l = [c] ++ r := hcr
  constructor
  · intro h
    refine Decidable.byContradiction fun hn => ?_
    have hex : ∃ j : Nat, j < l.length ∧ rd (first nb l) (j : Int) < 0 := by
      refine Decidable.byContradiction fun hc => hn (rd_neg fun j hj => ?_)
      rw [hfl] at hj
      refine Decidable.byContradiction fun h5 => hc ⟨j, hj, by omega⟩
    obtain ⟨j, hj, hneg⟩ := hex
    have hj0 : 1 ≤ j := by
      refine Decidable.byContradiction fun h5 => ?_
      have : j = 0 := by omega
      subst this
      have h6 := (bfs_stable (nb := nb) (i := 0) (by omega) ((0 : Nat) : Int) (by omega) l.length _ _ hf).1 (by
        rw [rd_set _ _ _ _ (by simpa using hp), Int.toNat_natCast, if_pos rfl]; omega)
      rw [rd_set _ _ _ _ (by simpa using hp), Int.toNat_natCast, if_pos rfl] at h6
      have h7 : rd (first nb l) ((0 : Nat) : Int) = 0 := h6
      omega
    obtain ⟨q, hq, hpos⟩ := partsF_bad (nb := nb) r [c] (first nb l) hx hfl (by simp) ⟨j, hj0, hj, hneg⟩
    have := h q hq
    rw [e] at this
    have hpos' : 0 < rd (partsF nb l 1 r (first nb l)) (q : Int) := hpos
    omega
  · intro h j hj
    rw [e]
    have h1 := neg_rd h j (by rw [hfl]; exact hj)
    have h2 := partsF_stable (nb := nb) (j : Int) (by omega) r [c] (first nb l) hx hfl h1
    have h3 : rd (partsF nb l 1 r (first nb l)) (j : Int) = rd (first nb l) (j : Int) := h2
    rw [h3]
    rcases hrng j hj with h4 | h4
    · omega
    · exact h4
theorem idxC_inj {l : List Cell} {c d : Cell} (hc : c ∈ l) (h : idxC l c = idxC l d) : c = d := by
  rcases idxC_spec l c with ⟨h1, h2⟩ | ⟨j, h1, h2, h3, _⟩
  · exact absurd hc h2
  · rcases idxC_spec l d with ⟨g1, g2⟩ | ⟨i, g1, g2, g3, _⟩
    · omega
    · have : j = i := by omega
      subst this
      exact Option.some.inj (h3.symm.trans g3)
theorem idxC_at {l : List Cell} (hn : l.Nodup) {j : Nat} (hj : j < l.length) : idxC l l[j] = (j : Int) := by
  rcases idxC_spec l l[j] with ⟨h1, h2⟩ | ⟨i, h1, h2, h3, h4⟩
  · exact absurd (List.getElem_mem hj) h2
  · rw [h2]
    by_cases e : i < j
    · rw [List.getElem?_eq_getElem h1] at h3
      have h3' := Option.some.inj h3
      have := List.pairwise_iff_getElem.1 hn i j h1 hj e
      exact absurd h3' this
    · by_cases e2 : j < i
      · exact absurd (List.getElem?_eq_getElem hj) (h4 j e2)
      · have : i = j := by omega
        rw [this]
theorem rd_cell {l : List Cell} {j : Int} (h0 : 0 ≤ j) (h1 : j < (l.length : Int)) : rd_T59 l j = l[j.toNat]'(by omega) := by
  unfold rd_T59
  rw [List.getD_eq_getElem?_getD, List.getElem?_eq_getElem (by omega)]
  rfl
def Mk (l : List Cell) (o : List Int) (c : Cell) : Prop := c ∈ l ∧ 0 ≤ rd o (idxC l c)
theorem visit1_mk {l : List Cell} {i : Int} (hi : 0 ≤ i) {s : List Int × List Int} (h : Fine l s.1 s.2) (d c : Cell) :
    (Mk l (visit1 l i s d).1 c ↔ Mk l s.1 c ∨ (c = d ∧ d ∈ l)) ∧ (∀ j ∈ s.2, j ∈ (visit1 l i s d).2) ∧ (∀ c, Mk l (visit1 l i s d).1 c → ¬ Mk l s.1 c → idxC l c ∈ (visit1 l i s d).2) ∧ (∀ j ∈ (visit1 l i s d).2, j ∈ s.2 ∨ ∃ c, j = idxC l c ∧ Mk l (visit1 l i s d).1 c) := by
  unfold visit1
  have hln := h.len
  by_cases hc : idxC l d ≥ 0 ∧ rd s.1 (idxC l d) < 0
  · rw [if_pos hc]
    have hdl := (idxC_mem l d).1 hc.1
    have hlt := idxC_lt l d
    have key (c : Cell) : Mk l (s.1.set (idxC l d).toNat i) c ↔ Mk l s.1 c ∨ (c = d ∧ d ∈ l) := by
      unfold Mk
      rw [rd_set _ _ _ _ (by omega)]
      constructor
      · rintro ⟨h1, h2⟩
        have := (idxC_mem l c).2 h1
        by_cases e : (idxC l c).toNat = (idxC l d).toNat
        · exact .inr ⟨idxC_inj h1 (by omega), hdl⟩
        · rw [if_neg e] at h2
          exact .inl ⟨h1, h2⟩
      · rintro (⟨h1, h2⟩ | ⟨rfl, h2⟩)
        · refine ⟨h1, ?_⟩
          split
          · exact hi
          · exact h2
        · exact ⟨h2, by rw [if_pos rfl]; exact hi⟩
    refine ⟨key c, fun j hj => List.mem_append_left _ hj, fun c h1 h2 => ?_, fun j hj => ?_⟩
    · rcases (key c).1 h1 with h3 | ⟨rfl, _⟩
      · exact absurd h3 h2
      · simp
    · rcases List.mem_append.1 hj with hj | hj
      · exact .inl hj
      · simp at hj
        exact .inr ⟨d, hj, (key d).2 (.inr ⟨rfl, hdl⟩)⟩
  · rw [if_neg hc]
    refine ⟨⟨fun h => .inl h, fun h1 => ?_⟩, fun j hj => hj, fun c h1 h2 => absurd h1 h2, fun j hj => .inl hj⟩
    rcases h1 with h1 | ⟨rfl, h2⟩
    · exact h1
    · have h3 := (idxC_mem l c).2 h2
      exact ⟨h2, by
        refine Decidable.byContradiction fun h4 => hc ⟨h3, by omega⟩⟩
theorem visit_mk {l : List Cell} {i : Int} (hi : 0 ≤ i) : ∀ (ds : List Cell) {s : List Int × List Int}, Fine l s.1 s.2 →
    (∀ c, Mk l (visit l i ds s).1 c ↔ Mk l s.1 c ∨ (c ∈ ds ∧ c ∈ l)) ∧ (∀ j ∈ s.2, j ∈ (visit l i ds s).2) ∧ (∀ c, Mk l (visit l i ds s).1 c → ¬ Mk l s.1 c → idxC l c ∈ (visit l i ds s).2) ∧ (∀ j ∈ (visit l i ds s).2, j ∈ s.2 ∨ ∃ c, j = idxC l c ∧ Mk l (visit l i ds s).1 c)
  | [], s, h => ⟨fun c => by simp [visit], fun j hj => hj, fun c h1 h2 => absurd h1 h2, fun j hj => .inl hj⟩
  | d :: r, s, h => by
    have h1 := (visit1_fine hi h d).1
    obtain ⟨_, a2, a3, a4⟩ := visit1_mk hi h d d
    obtain ⟨b1, b2, b3, b4⟩ := visit_mk hi r h1
    have e : visit l i (d :: r) s = visit l i r (visit1 l i s d) := rfl
    rw [e]
    refine ⟨fun c => ?_, fun j hj => b2 j (a2 j hj), fun c h2 h3 => ?_, fun j hj => ?_⟩
    · rw [b1 c, (visit1_mk hi h d c).1]
      constructor
      · rintro ((h2 | ⟨rfl, h2⟩) | ⟨h2, h3⟩)
        · exact .inl h2
        · exact .inr ⟨List.mem_cons_self, h2⟩
        · exact .inr ⟨List.mem_cons_of_mem _ h2, h3⟩
      · rintro (h2 | ⟨h2, h3⟩)
        · exact .inl (.inl h2)
        · rcases List.mem_cons.1 h2 with rfl | h2
          · exact .inl (.inr ⟨rfl, h3⟩)
          · exact .inr ⟨h2, h3⟩
    · by_cases h4 : Mk l (visit1 l i s d).1 c
      · exact b2 _ (a3 c h4 h3)
      · exact b3 c h2 h4
    · rcases b4 j hj with h2 | h2
      · rcases a4 j h2 with h3 | ⟨c, rfl, h3⟩
        · exact .inl h3
        · exact .inr ⟨c, rfl, (b1 c).2 (.inl h3)⟩
      · exact .inr h2
theorem bfs_closed {nb : Cell → List Cell} {l : List Cell} {i : Int} {h : Cell} (hi : 0 ≤ i) (hn : l.Nodup) : ∀ (n : Nat) (o q : List Int), Fine l o q → negs o + q.length ≤ n →
    (∀ c, Mk l o c → Rch nb l h c) → (∀ c, Mk l o c → idxC l c ∉ q → ∀ d ∈ nb c, d ∈ l → Mk l o d) → (∀ j ∈ q, Mk l o (rd_T59 l j)) →
    (∀ c, Mk l (bfs nb l i n o q) c → Rch nb l h c) ∧ (∀ c, Mk l (bfs nb l i n o q) c → ∀ d ∈ nb c, d ∈ l → Mk l (bfs nb l i n o q) d) ∧ (∀ c, Mk l o c → Mk l (bfs nb l i n o q) c)
  | 0, o, q, hf, hm, h1, h2, h3 => by
    have hq : q = [] := List.length_eq_zero_iff.1 (by omega)
    subst hq
    exact ⟨h1, fun c hc d hd hl => h2 c hc (by simp) d hd hl, fun c hc => hc⟩
  | n + 1, o, [], hf, hm, h1, h2, h3 => ⟨h1, fun c hc d hd hl => h2 c hc (by simp) d hd hl, fun c hc => hc⟩
  | n + 1, o, j :: q, hf, hm, h1, h2, h3 => by
    have hf' : Fine l o q := ⟨hf.len, fun j hj => hf.rng j (List.mem_cons_of_mem _ hj)⟩
    obtain ⟨g1, g2, _, _⟩ := visit_fine hi (nb (rd_T59 l j)) (s := (o, q)) hf'
    obtain ⟨m1, m2, m3, m4⟩ := visit_mk hi (nb (rd_T59 l j)) (s := (o, q)) hf'
    have hj := hf.rng j List.mem_cons_self
    have hx := h3 j List.mem_cons_self
    have hix : idxC l (rd_T59 l j) = j := by
      rw [rd_cell hj.1 hj.2, idxC_at hn]
      omega
    simp only [List.length_cons] at hm
    have ih := bfs_closed (nb := nb) (h := h) hi hn n _ _ g1 (by simp only at g2; omega) (fun c hc => by
      rcases (m1 c).1 hc with hc | ⟨hc, hcl⟩
      · exact h1 c hc
      · exact (h1 _ hx).step hc hcl) (fun c hc hcq d hd hl => by
      by_cases ho : Mk l o c
      · by_cases e : idxC l c = j
        · have : c = rd_T59 l j := idxC_inj ho.1 (e.trans hix.symm)
          subst this
          exact (m1 d).2 (.inr ⟨hd, hl⟩)
        · refine (m1 d).2 (.inl (h2 c ho ?_ d hd hl))
          intro hmem
          rcases List.mem_cons.1 hmem with h4 | h4
          · exact e h4
          · exact hcq (m2 _ h4)
      · exact absurd (m3 c hc ho) hcq) (fun i' hi' => by
      rcases m4 i' hi' with h4 | ⟨c, rfl, h4⟩
      · exact (m1 _).2 (.inl (h3 i' (List.mem_cons_of_mem _ h4)))
      · have hc := (idxC_mem l c).2 h4.1
        have : rd_T59 l (idxC l c) = c := by
          rcases idxC_spec l c with ⟨q1, q2⟩ | ⟨k, q1, q2, q3, _⟩
          · exact absurd h4.1 q2
          · rw [q2, rd_cell (by omega) (by omega)]
            have := List.getElem?_eq_getElem q1
            rw [this] at q3
            simpa using q3
        rw [this]
        exact h4)
    exact ⟨ih.1, ih.2.1, fun c hc => ih.2.2 c ((m1 c).2 (.inl hc))⟩
theorem oneB_conn {nb : Cell → List Cell} {l : List Cell} (h0 : l ≠ []) (hn : l.Nodup) (hs : ∀ c ∈ l, ∀ d ∈ l, d ∈ nb c → c ∈ nb d) : oneB (partsR nb l) = true ↔ Conn nb l := by
  have hp := List.length_pos_iff.2 h0
  obtain ⟨hf, hneg⟩ := first_fine l h0
  rw [oneB_first nb l h0, decide_eq_true_eq]
  have h0l : l[0] ∈ l := List.getElem_mem hp
  have hi0 : idxC l l[0] = 0 := idxC_at hn hp
  have hrd : rd_T59 l 0 = l[0] := rd_cell (by omega) (by omega)
  have hmk (c : Cell) : Mk l ((List.replicate l.length (-1 : Int)).set 0 0) c ↔ c = l[0] := by
    unfold Mk
    rw [rd_set _ _ _ _ (by simpa using hp)]
    constructor
    · rintro ⟨h1, h2⟩
      by_cases e : (idxC l c).toNat = 0
      · have := (idxC_mem l c).2 h1
        exact idxC_inj h1 (by omega)
      · rw [if_neg e] at h2
        have h3 := (idxC_mem l c).2 h1
        have h4 := idxC_lt l c
        have h5 := rd_rep (n := l.length) (j := (idxC l c).toNat) (by omega)
        rw [Int.toNat_of_nonneg h3] at h5
        omega
    · rintro rfl
      exact ⟨h0l, by rw [hi0, if_pos (by simp)]; omega⟩
  obtain ⟨r1, r2, r3⟩ := bfs_closed (nb := nb) (h := l[0]) (i := 0) (by omega) hn l.length _ _ hf (by simp only [List.length_singleton]; omega) (fun c hc => by rw [(hmk c).1 hc]; exact Rch.refl) (fun c hc hcq => by
    rw [(hmk c).1 hc, hi0] at hcq
    exact absurd (by simp) hcq) (fun j hj => by
    simp at hj
    subst hj
    rw [hrd]
    exact (hmk _).2 rfl)
  have hfl : (first nb l).length = l.length := (bfs_fine (nb := nb) (i := 0) (by omega) l.length _ _ hf).1
  rw [conn_from hs h0l]
  constructor
  · intro h b hb
    refine r1 b ⟨hb, ?_⟩
    have h1 := (idxC_mem l b).2 hb
    have h2 := idxC_lt l b
    have := neg_rd h (idxC l b).toNat (by rw [hfl]; omega)
    rw [Int.toNat_of_nonneg h1] at this
    exact this
  · intro h
    refine rd_neg fun j hj => ?_
    rw [hfl] at hj
    have hr := h l[j] (List.getElem_mem hj) (fun c => Mk l (first nb l) c) (r3 _ ((hmk _).2 rfl)) (fun c d hc hd hl => r2 c hc d hd hl)
    have := hr.2
    rw [idxC_at hn hj] at this
    exact this
theorem sorted_le (x y : Cell) : (!Go.Proofs.ltOf cmpV y x) = decide (¬ ltC y x) := by
  rw [ltV]
  by_cases h : ltC y x
  · have h' : y.f1 < x.f1 ∨ y.f1 = x.f1 ∧ y.f0 < x.f0 := h
    simp [h, h']
  · have h' : ¬ (y.f1 < x.f1 ∨ y.f1 = x.f1 ∧ y.f0 < x.f0) := h
    simp only [h, h', decide_false]
    rfl
theorem sortC_perm (l : List Cell) : (sortC l).Perm l := List.mergeSort_perm _ _
theorem sortC_len (l : List Cell) : (sortC l).length = l.length := (sortC_perm l).length_eq
theorem sortC_mem {l : List Cell} {c : Cell} : c ∈ sortC l ↔ c ∈ l := (sortC_perm l).mem_iff
theorem sortC_sorted (l : List Cell) : (sortC l).Pairwise fun a b => ¬ ltC b a := by
  have := List.pairwise_mergeSort (le := fun x y : Cell => !Go.Proofs.ltOf cmpV y x) (fun a b c h1 h2 => by
    rw [sorted_le, decide_eq_true_eq] at *
    unfold ltC at *
    omega) (fun a b => by
    rw [sorted_le, sorted_le, Bool.or_eq_true, decide_eq_true_eq, decide_eq_true_eq]
    unfold ltC
    omega) l
  exact this.imp fun h => by rw [sorted_le, decide_eq_true_eq] at h; exact h
theorem eq_of_sorted : ∀ (l l' : List Cell), l.Perm l' → (l.Pairwise fun a b => ¬ ltC b a) → (l'.Pairwise fun a b => ¬ ltC b a) → l = l'
  | [], l', hp, _, _ => (List.Perm.nil_eq hp)
  | a :: r, [], hp, _, _ => absurd hp.symm (by simp)
  | a :: r, b :: s, hp, h1, h2 => by
    obtain ⟨h3, h4⟩ := List.pairwise_cons.1 h1
    obtain ⟨h5, h6⟩ := List.pairwise_cons.1 h2
    have hab : a = b := by
      have ha : a ∈ b :: s := hp.mem_iff.1 List.mem_cons_self
      have hb : b ∈ a :: r := hp.mem_iff.2 List.mem_cons_self
      have n1 : ¬ ltC b a := by
        rcases List.mem_cons.1 hb with e | e
        · rw [e]; unfold ltC; omega
        · exact h3 b e
      have n2 : ¬ ltC a b := by
        rcases List.mem_cons.1 ha with e | e
        · rw [e]; unfold ltC; omega
        · exact h5 a e
      obtain ⟨a0, a1⟩ := a
      obtain ⟨b0, b1⟩ := b
      unfold ltC at n1 n2
      simp only at n1 n2
      simp only [S59.mk.injEq]
      omega
    subst hab
    rw [eq_of_sorted r s (List.Perm.cons_inv hp) h4 h6]
theorem sortC_eq {l l' : List Cell} (hp : l'.Perm l) (hs : l'.Pairwise fun a b => ¬ ltC b a) : sortC l = l' :=
  eq_of_sorted _ _ ((sortC_perm l).trans hp.symm) (sortC_sorted l) hs
theorem implSorted_eq (l : List Cell) (h0 : 0 < l.length) (h1 : l.length ≤ 1000000000000) : impl_sorted.f l = some (sortC l) := by
  unfold impl_sorted.f impl_Cell_101.f impl_Cell_102__impl_compareCells.f
  rw [if_pos h1, Option.bind_some, if_pos ⟨h0, by omega⟩]
  rfl
def insC (c : Cell) : List Cell → List Cell
  | [] => [c]
  | a :: r => if ltC c a then c :: a :: r else a :: insC c r
theorem insC_perm (c : Cell) : ∀ l : List Cell, (insC c l).Perm (c :: l)
  | [] => List.Perm.refl _
  | a :: r => by
    unfold insC
    split
    · exact List.Perm.refl _
    · exact ((insC_perm c r).cons a).trans (List.Perm.swap c a r)
theorem insC_sorted (c : Cell) : ∀ l : List Cell, (l.Pairwise fun a b => ¬ ltC b a) → (insC c l).Pairwise fun a b => ¬ ltC b a
  | [], _ => by simp [insC]
  | a :: r, h => by
    obtain ⟨h1, h2⟩ := List.pairwise_cons.1 h
    unfold insC
    split
    · rename_i hc
      refine List.pairwise_cons.2 ⟨fun b hb => ?_, h⟩
      rcases List.mem_cons.1 hb with rfl | hb
      · unfold ltC at *; omega
      · have := h1 b hb
        unfold ltC at *; omega
    · rename_i hc
      refine List.pairwise_cons.2 ⟨fun b hb => ?_, insC_sorted c r h2⟩
      rcases List.mem_cons.1 ((insC_perm c r).mem_iff.1 hb) with rfl | hb
      · exact hc
      · exact h1 b hb
theorem specInsert_ev (l : List Cell) (c : Cell) (hl : l.length ≤ 1048576) : Ev (fun k => spec_l02Insert.f k l c.f0 c.f1) (insC c l) := by
  have hs : small l := by unfold small; omega
  unfold spec_l02Insert.f
  have := loop_list l (fun k i (s : List Cell × Bool) => spec_l02Insert.l0 k l s.1 s.2 i c.f0 c.f1) (fun pre suf s => if s.2 = true then s.1 ++ suf else s.1 ++ insC c suf) (fun pre s => s.1.length ≤ pre.length + 1 ∧ (s.2 = false → s.1.length = pre.length)) ?_ ?_ ([], false) ⟨by simp, fun _ => rfl⟩
  · simpa using this
  · rintro ⟨s, b⟩ ⟨h1, h2⟩
    simp only at h1 h2
    simp only [spec_l02Insert.l0, len_lt, if_false]
    cases b
    · refine Ev.neg (by simp) (Ev.pos (by omega) (Ev.of_eq (Ev.now _) ?_))
      simp [insC]
    · refine Ev.pos rfl (Ev.of_eq (Ev.now _) ?_)
      simp
  · rintro pre d suf ⟨s, b⟩ hx ⟨h1, h2⟩ ih
    have hp := pre_len hx
    simp only at h1 h2
    simp only [spec_l02Insert.l0, pre_lt hx, pre_0, if_true, at_pre hx, pre_w hx hs]
    cases b
    · refine Ev.neg (by simp) ?_
      simp only [l02Less_eq, Option.bind_some]
      have h2' := h2 rfl
      by_cases hd : ltC c d
      · have hd' : c.f1 < d.f1 ∨ c.f1 = d.f1 ∧ c.f0 < d.f0 := hd
        refine Ev.pos (by simpa using hd') (Ev.pos (by omega) ?_)
        refine Ev.pos (by simp; omega) (Ev.of_eq (ih ((s ++ [(⟨c.f0, c.f1⟩ : Cell)]) ++ [(⟨d.f0, d.f1⟩ : Cell)], true) ⟨by simp; omega, fun h => by cases h⟩) ?_)
        simp [insC, hd]
      · have hd' : ¬ (c.f1 < d.f1 ∨ c.f1 = d.f1 ∧ c.f0 < d.f0) := hd
        refine Ev.neg (by simpa using hd') (Ev.pos (by omega) (Ev.of_eq (ih (s ++ [(⟨d.f0, d.f1⟩ : Cell)], false) ⟨by simp; omega, fun _ => by simp; omega⟩) ?_))
        simp [insC, hd]
    · refine Ev.pos rfl (Ev.pos (by omega) (Ev.of_eq (ih (s ++ [(⟨d.f0, d.f1⟩ : Cell)], true) ⟨by simp; omega, fun h => by cases h⟩) ?_))
      simp
def insAll : List Cell → List Cell → List Cell
  | acc, [] => acc
  | acc, c :: r => insAll (insC c acc) r
theorem insAll_spec : ∀ (l acc : List Cell), (acc.Pairwise fun a b => ¬ ltC b a) → (insAll acc l).Perm (acc ++ l) ∧ (insAll acc l).Pairwise fun a b => ¬ ltC b a
  | [], acc, h => ⟨by simp [insAll], h⟩
  | c :: r, acc, h => by
    obtain ⟨h1, h2⟩ := insAll_spec r (insC c acc) (insC_sorted c acc h)
    refine ⟨h1.trans ?_, h2⟩
    refine ((insC_perm c acc).append_right r).trans ?_
    exact List.perm_middle.symm
theorem specSortI_ev (l : List Cell) (hl : l.length ≤ 1048576) : Ev (fun k => spec_l02Sort.f k l) (insAll [] l) := by
  have hs : small l := by unfold small; omega
  unfold spec_l02Sort.f
  refine loop_list l (fun k i (s : List Cell) => spec_l02Sort.l0 k l s i) (fun pre suf s => insAll s suf) (fun pre s => s.length = pre.length) ?_ ?_ [] rfl
  · intro s _
    simp only [spec_l02Sort.l0, len_lt, if_false]
    exact Ev.now _
  · intro pre c suf s hx hi ih
    have hp := pre_len hx
    simp only [spec_l02Sort.l0, pre_lt hx, pre_0, if_true, at_pre hx, pre_w hx hs]
    refine Ev.bind (specInsert_ev s c (by omega)) (ih _ ?_)
    rw [(insC_perm c s).length_eq]
    simp [hi]
theorem insAll_eq (l : List Cell) : insAll [] l = sortC l := by
  obtain ⟨h1, h2⟩ := insAll_spec l [] List.Pairwise.nil
  exact (sortC_eq (by simpa using h1) h2).symm
theorem specSort_ev (l : List Cell) (hl : l.length ≤ 1048576) : Ev (fun k => spec_l02Sort.f k l) (sortC l) := by
  rw [← insAll_eq]
  exact specSortI_ev l hl
def moveL (l : List Cell) (x y : Int) : List Cell := l.map fun c => ⟨wrap64 (c.f0 + x), wrap64 (c.f1 + y)⟩
theorem moveL_len (l : List Cell) (x y : Int) : (moveL l x y).length = l.length := by simp [moveL]
theorem specMove_ev (l : List Cell) (x y : Int) (hl : l.length ≤ 1048576) : Ev (fun k => spec_l02Move.f k l x y) (moveL l x y) := by
  have hs : small l := by unfold small; omega
  unfold spec_l02Move.f
  have := loop_list l (fun k i (s : List Cell) => spec_l02Move.l0 k l x y s i) (fun pre suf s => s ++ moveL suf x y) (fun pre s => s.length = pre.length) ?_ ?_ [] rfl
  · simpa using this
  · intro s _
    simp only [spec_l02Move.l0, len_lt, if_false]
    exact Ev.of_eq (Ev.now _) (by simp [moveL])
  · intro pre c suf s hx hi ih
    have hp := pre_len hx
    simp only [spec_l02Move.l0, pre_lt hx, pre_0, if_true, at_pre hx, pre_w hx hs]
    refine Ev.pos (by omega) (Ev.of_eq (ih _ (by simp [hi])) ?_)
    simp [moveL]
theorem implMoved_ev (l : List Cell) (x y : Int) (hl : l.length ≤ 1048576) : Ev (fun k => impl_moved.f k l x y) (moveL l x y) := by
  have hs : small l := by unfold small; omega
  unfold impl_moved.f
  refine Ev.pos (by omega) (Ev.pos (by omega) ?_)
  have := loop_list l (fun k i (s : List Cell) => impl_moved.l0 k x y s l (l.length : Int) i) (fun pre suf s => s ++ moveL suf x y) (fun pre s => s.length = pre.length) ?_ ?_ [] rfl
  · simpa using this
  · intro s _
    simp only [impl_moved.l0, len_lt, if_false]
    exact Ev.of_eq (Ev.now _) (by simp [moveL])
  · intro pre c suf s hx hi ih
    have hp := pre_len hx
    simp only [impl_moved.l0, pre_lt hx, pre_0, if_true, at_pre hx, pre_w hx hs]
    refine Ev.pos (by omega) (Ev.of_eq (ih _ (by simp [hi])) ?_)
    simp [moveL]
def rot6 : Nat → Int × Int → Int × Int
  | 0, p => p
  | n + 1, p => rot6 n (wrap64 (-p.2), wrap64 (p.1 + p.2))
def latC (c : Cell) (t : Int) : Int × Int := rot6 (t % 6).toNat (if t ≥ 6 then (c.f1, c.f0) else (c.f0, c.f1))
def latD (t : Int) (c : Cell) : Cell := ⟨(latC c t).1, (latC c t).2⟩
theorem tmod6 {t : Int} (h : 0 ≤ t) : Int.tmod t 6 = ((t % 6).toNat : Int) := by
  rw [Int.tmod_eq_emod_of_nonneg h]
  omega
theorem specLat_l (n : Nat) (hn : n ≤ 1048576) : ∀ p : Int × Int, Ev (fun k => spec_l07Turn.l0 k (n : Int) p.1 p.2) (rot6 n p) := by
  induction n with
  | zero =>
    intro p
    refine Ev.succ ?_
    simp only [spec_l07Turn.l0]
    exact Ev.neg (by simp) (Ev.now _)
  | succ n ih =>
    intro p
    refine Ev.succ ?_
    simp only [spec_l07Turn.l0]
    have e1 : wrap64 (((n + 1 : Nat) : Int) - 1) = (n : Int) := by rw [w64 (by omega) (by omega)]; omega
    refine Ev.pos (by omega) ?_
    simp only [e1]
    exact ih (by omega) (wrap64 (-p.2), wrap64 (p.1 + p.2))
theorem specLat_ev (c : Cell) (t : Int) (h : 0 ≤ t) : Ev (fun k => spec_l07Turn.f k c.f0 c.f1 t) (latC c t) := by
  unfold spec_l07Turn.f latC
  have := specLat_l (t % 6).toNat (by omega)
  by_cases h4 : t ≥ 6
  · rw [if_pos h4]
    refine Ev.pos h4 (Ev.step (fun k => spec_l07Turn.j0.eq_2 _ _ _ _) ?_)
    simp only [tmod6 h]
    exact this (c.f1, c.f0)
  · rw [if_neg h4]
    refine Ev.neg h4 (Ev.step (fun k => spec_l07Turn.j0.eq_2 _ _ _ _) ?_)
    simp only [tmod6 h]
    exact this (c.f0, c.f1)
def latL (l : List Cell) (t : Int) : List Cell := sortC (l.map (latD t))
theorem latL_len (l : List Cell) (t : Int) : (latL l t).length = l.length := by unfold latL; rw [sortC_len]; simp
theorem implLat_l (m : Nat) (hm : m ≤ 1048576) (t : Int) (l s : List Cell) (len_ i_ : Int) {r : List Cell} (n : Nat) : ∀ (i : Nat) (p : Int × Int), i + n = m → s.length ≤ 1048576 →
    Ev (fun k => impl_latticeCells.l0 k t (s ++ [(⟨(rot6 n p).1, (rot6 n p).2⟩ : Cell)]) l len_ (wrap64 (i_ + 1))) r → Ev (fun k => impl_latticeCells.l1 k t s l len_ i_ (m : Int) (i : Int) p.1 p.2) r := by
  induction n with
  | zero =>
    intro i p hi hs hc
    refine Ev.succ ?_
    simp only [impl_latticeCells.l1]
    exact Ev.neg (by omega) (Ev.pos (by omega) hc)
  | succ n ih =>
    intro i p hi hs hc
    refine Ev.succ ?_
    simp only [impl_latticeCells.l1]
    have e1 : wrap64 ((i : Int) + 1) = ((i + 1 : Nat) : Int) := by rw [w64 (by omega) (by omega)]; omega
    refine Ev.pos (by omega) ?_
    simp only [e1]
    exact ih (i + 1) (wrap64 (-p.2), wrap64 (p.1 + p.2)) (by omega) hs hc
theorem implLattice_ev (l : List Cell) (t : Int) (ht : 0 ≤ t) (hl : l.length ≤ 1048576) (h0 : 0 < l.length) : Ev (fun k => impl_latticeCells.f k l t) (latL l t) := by
  have hs : small l := by unfold small; omega
  unfold impl_latticeCells.f latL
  refine Ev.pos (by omega) (Ev.pos (by omega) ?_)
  have := loop_list l (fun k i (s : List Cell) => impl_latticeCells.l0 k t s l (l.length : Int) i) (fun pre suf s => sortC (s ++ suf.map (latD t))) (fun pre s => s.length = pre.length) ?_ ?_ [] rfl
  · simpa using this
  · intro s hi
    have hi' : s.length = l.length := hi
    simp only [impl_latticeCells.l0, len_lt, if_false, implSorted_eq s (by omega) (by omega), Option.bind_some]
    exact Ev.of_eq (Ev.now _) (by simp)
  · intro pre c suf s hx hi ih
    have hp := pre_len hx
    simp only [impl_latticeCells.l0, pre_lt hx, pre_0, if_true, at_pre hx]
    have hc := implLat_l (t % 6).toNat (by omega) t l s (l.length : Int) (pre.length : Int) (r := sortC (s ++ (c :: suf).map (latD t))) (t % 6).toNat 0
    have hih := ih (s ++ [latD t c]) (by simp [hi])
    have e : s ++ [latD t c] ++ suf.map (latD t) = s ++ (c :: suf).map (latD t) := by simp
    simp only [e] at hih
    by_cases h6 : t ≥ 6
    · refine Ev.pos h6 (Ev.step (fun k => impl_latticeCells.j1.eq_2 _ _ _ _ _ _ _ _) ?_)
      simp only [tmod6 ht]
      refine hc (c.f1, c.f0) (by omega) (by omega) ?_
      rw [pre_w hx hs]
      have e2 : (⟨(rot6 (t % 6).toNat (c.f1, c.f0)).1, (rot6 (t % 6).toNat (c.f1, c.f0)).2⟩ : Cell) = latD t c := by unfold latD latC; rw [if_pos h6]
      rw [e2]
      exact hih
    · refine Ev.neg h6 (Ev.step (fun k => impl_latticeCells.j1.eq_2 _ _ _ _ _ _ _ _) ?_)
      simp only [tmod6 ht]
      refine hc (c.f0, c.f1) (by omega) (by omega) ?_
      rw [pre_w hx hs]
      have e2 : (⟨(rot6 (t % 6).toNat (c.f0, c.f1)).1, (rot6 (t % 6).toNat (c.f0, c.f1)).2⟩ : Cell) = latD t c := by unfold latD latC; rw [if_neg h6]
      rw [e2]
      exact hih
theorem shape_pos {l : List Cell} (h : shapeB l = true) : 0 < l.length := List.length_pos_iff.2 (shape_ne h)
theorem l01Mod3 (a : Int) : spec_l01Mod.f a 3 = some (a % 3) := by
  unfold spec_l01Mod.f
  rw [if_neg (by decide), mod_eq a 3 (by decide) (by decide)]
theorem modOf3 (a : Int) : impl_modOf.f a 3 = some (a % 3) := by
  unfold impl_modOf.f
  rw [if_neg (by decide), mod_eq a 3 (by decide) (by decide)]
theorem l07Is_eq (x y : Int) : spec_l07Is.f 0 x y = some (decide (x % 3 = y % 3 ∧ x % 3 ≠ 0)) := by
  unfold spec_l07Is.f
  rw [if_neg (by decide)]
  simp only [l01Mod3, Option.bind_some]
  by_cases h : x % 3 = y % 3
  · rw [if_pos h]; simp [h]; rfl
  · rw [if_neg h]; simp [h]
theorem isTriangle_eq (x y : Int) : impl_isTriangle.f x y = some (decide (x % 3 = y % 3 ∧ x % 3 ≠ 0)) := by
  unfold impl_isTriangle.f
  simp only [modOf3, Option.bind_some]
  by_cases h : x % 3 = 0
  · rw [if_pos h]; simp [h]
  · rw [if_neg h]
    by_cases h' : x % 3 = y % 3 <;> simp [h, h']
    omega
def triX (c : Cell) : Prop := c.f0 % 3 = c.f1 % 3 ∧ c.f0 % 3 ≠ 0
instance (c : Cell) : Decidable (triX c) := by unfold triX; infer_instance
def allTri (l : List Cell) : Bool := l.all fun c => decide (triX c)
theorem l07Is0 (c : Cell) : spec_l07Is.f 0 c.f0 c.f1 = some (decide (triX c)) := by
  rw [l07Is_eq]; congr 1
theorem specShape0_ev (l : List Cell) (hs : small l) : Ev (fun k => spec_l07Shape.f k 0 l) (allTri l && shapeB l) := by
  unfold spec_l07Shape.f
  refine loop_list l (fun k i (_ : Unit) => spec_l07Shape.l0 k 0 l i) (fun pre suf _ => allTri suf && shapeB l) (fun _ _ => True) ?_ ?_ () trivial
  · intro _ _
    simp only [spec_l07Shape.l0, len_lt, if_false]
    exact Ev.bind (specIsShape_ev l hs) (Ev.of_eq (Ev.now _) (by simp [allTri]))
  · intro pre c suf _ hx _ ih
    simp only [spec_l07Shape.l0, pre_lt hx, pre_0, if_true, at_pre hx, pre_w hx hs, l07Is0, Option.bind_some]
    by_cases h : triX c
    · refine Ev.pos (by simpa using h) (Ev.of_eq (ih () trivial) ?_)
      simp [allTri, h]
    · refine Ev.neg (by simpa using h) (Ev.of_eq (Ev.now _) ?_)
      simp [allTri, h]
def badI : List Cell → Int → Int
  | [], _ => -1
  | c :: r, i => if triX c then badI r (i + 1) else i
theorem badI_spec : ∀ (l : List Cell) (i : Int), 0 ≤ i → (badI l i ≥ 0 ↔ allTri l = false)
  | [], i, _ => by simp [badI, allTri]
  | c :: r, i, hi => by
    unfold badI
    by_cases h : triX c
    · rw [if_pos h, badI_spec r (i + 1) (by omega)]; simp [allTri, h]
    · rw [if_neg h]; simp [allTri, h, hi]
theorem implTriShape_ev (l : List Cell) (hs : small l) : Ev (fun k => impl_isTriangleShape.f k l) (allTri l && shapeB l) := by
  unfold impl_isTriangleShape.f
  refine Ev.bind (implIsShape_ev l hs) ?_
  by_cases hsh : shapeB l = true
  · refine Ev.pos hsh ?_
    have hb : Ev (fun k => impl_Cell_98__impl_isTriangleShape_1.f k l) (badI l 0) := by
      unfold impl_Cell_98__impl_isTriangleShape_1.f
      refine loop_list l (fun k i (_ : Unit) => impl_Cell_98__impl_isTriangleShape_1.l0 k l (l.length : Int) i) (fun pre suf _ => badI suf (pre.length : Int)) (fun _ _ => True) ?_ ?_ () trivial
      · intro _ _
        simp only [impl_Cell_98__impl_isTriangleShape_1.l0, len_lt, if_false]
        exact Ev.now _
      · intro pre c suf _ hx _ ih
        simp only [impl_Cell_98__impl_isTriangleShape_1.l0, pre_lt hx, pre_0, if_true, at_pre hx, pre_w hx hs]
        have e : impl_isTriangleShape_1.f c.f0 c.f1 = some (!decide (triX c)) := by
          unfold impl_isTriangleShape_1.f
          rw [isTriangle_eq]
          rfl
        simp only [e, Option.bind_some, badI]
        by_cases h : triX c
        · rw [if_pos h]
          exact Ev.neg (by simp [h]) (Ev.of_eq (ih () trivial) (by simp))
        · rw [if_neg h]
          exact Ev.pos (by simp [h]) (Ev.now _)
    have hc : Ev (fun k => impl_Cell_72__impl_isTriangleShape_1.f k l) (!allTri l) := by
      unfold impl_Cell_72__impl_isTriangleShape_1.f
      refine Ev.bind hb (Ev.of_eq (Ev.now _) ?_)
      have := badI_spec l 0 (Int.le_refl _)
      cases h : allTri l
      · simpa using this.2 h
      · have : ¬ badI l 0 ≥ 0 := fun e => by rw [this.1 e] at h; cases h
        simpa using this
    refine Ev.bind hc (Ev.of_eq (Ev.now _) ?_)
    simp [hsh]
  · refine Ev.neg hsh (Ev.of_eq (Ev.now _) ?_)
    simp [hsh]
def normalT (l : List Cell) : List Cell := moveL l (wrap64 ((leastOf l).1 % 3 - (leastOf l).1)) (wrap64 ((leastOf l).2 % 3 - (leastOf l).2))
theorem normalT_len (l : List Cell) : (normalT l).length = l.length := moveL_len _ _ _
theorem specNormal0_ev (l : List Cell) (hl : l.length ≤ 1048576) (h0 : 0 < l.length) : Ev (fun k => spec_l07Normal.f k 0 l) (normalT l) := by
  unfold spec_l07Normal.f
  refine Ev.bind (specLeast_ev l (by unfold small; omega) h0) (Ev.neg (by decide) ?_)
  simp only [l01Mod3, Option.bind_some]
  exact Ev.bind (specMove_ev l _ _ hl) (Ev.now _)
theorem implNormalT_ev (l : List Cell) (hl : l.length ≤ 1048576) (h0 : 0 < l.length) : Ev (fun k => impl_normalTriangles.f k l) (normalT l) := by
  unfold impl_normalTriangles.f
  refine Ev.bind (implCorner_ev l (by unfold small; omega) h0) ?_
  simp only [modOf3, Option.bind_some]
  exact Ev.bind (implMoved_ev l _ _ hl) (Ev.now _)
theorem specForm0_ev (l : List Cell) (t : Int) (ht : 0 ≤ t) (hl : l.length ≤ 1048576) (h0 : 0 < l.length) : Ev (fun k => spec_l07Form.f k 0 l t) (normalT (latL l t)) := by
  have hs : small l := by unfold small; omega
  unfold spec_l07Form.f latL
  have := loop_list l (fun k i (s : List Cell) => spec_l07Form.l0 k 0 l t s i) (fun pre suf s => normalT (sortC (s ++ suf.map (latD t)))) (fun pre s => s.length = pre.length) ?_ ?_ [] rfl
  · simpa using this
  · intro s hi
    have hi' : s.length = l.length := hi
    simp only [spec_l07Form.l0, len_lt, if_false]
    refine Ev.bind (specSort_ev s (by omega)) (Ev.bind (specNormal0_ev _ (by rw [sortC_len]; omega) (by rw [sortC_len]; omega)) (Ev.of_eq (Ev.now _) (by simp)))
  · intro pre c suf s hx hi ih
    have hp := pre_len hx
    simp only [spec_l07Form.l0, pre_lt hx, pre_0, if_true, at_pre hx, pre_w hx hs]
    refine Ev.bind (specLat_ev c t ht) (Ev.pos (by omega) (Ev.of_eq (ih (s ++ [latD t c]) (by simp [hi])) (by simp)))
theorem implTriForm_ev (l : List Cell) (t : Int) (ht : 0 ≤ t) (hl : l.length ≤ 1048576) (h0 : 0 < l.length) : Ev (fun k => impl_triangleForm.f k l t) (normalT (latL l t)) := by
  unfold impl_triangleForm.f
  exact Ev.bind (implLattice_ev l t ht hl h0) (Ev.bind (implNormalT_ev _ (by rw [latL_len]; omega) (by rw [latL_len]; omega)) (Ev.now _))
theorem ltC_irrefl (a : Cell) : ¬ ltC a a := by unfold ltC; omega
theorem ltC_total {a b : Cell} (h : ¬ ltC a b) (h' : ¬ ltC b a) : a = b := by
  obtain ⟨a0, a1⟩ := a
  obtain ⟨b0, b1⟩ := b
  unfold ltC at *
  simp only [S59.mk.injEq]
  simp only at h h'
  omega
instance (priority := low) : DecidableEq Cell := fun a b => decidable_of_iff (sameC a b = true) sameC_iff
def cmpL : List Cell → List Cell → Int
  | [], _ => 0
  | _ :: _, [] => 0
  | a :: r, b :: s => if ltC a b then -1 else if ltC b a then 1 else cmpL r s
def cmpS (a b : List Cell) : Int := if a.length = b.length then cmpL a b else if a.length < b.length then -1 else 1
theorem cmpL_zero : ∀ (a b : List Cell), a.length = b.length → (cmpL a b = 0 ↔ a = b)
  | [], b, h => by
    have : b = [] := List.length_eq_zero_iff.1 h.symm
    simp [cmpL, this]
  | a :: r, [], h => by simp at h
  | a :: r, b :: s, h => by
    unfold cmpL
    by_cases h1 : ltC a b
    · rw [if_pos h1]
      have : a ≠ b := fun e => ltC_irrefl b (e ▸ h1)
      simp [this]
    · rw [if_neg h1]
      by_cases h2 : ltC b a
      · rw [if_pos h2]
        have : a ≠ b := fun e => ltC_irrefl b (e ▸ h2)
        simp [this]
      · rw [if_neg h2, cmpL_zero r s (by simpa using h)]
        simp [ltC_total h1 h2]
theorem cmpS_zero (a b : List Cell) : cmpS a b = 0 ↔ a = b := by
  unfold cmpS
  by_cases h : a.length = b.length
  · rw [if_pos h]; exact cmpL_zero a b h
  · rw [if_neg h]
    have : a ≠ b := fun e => h (by rw [e])
    split <;> simp [this]
theorem specCompare_ev (a b : List Cell) (ha : small a) : Ev (fun k => spec_CompareShapes.f k a b) (cmpS a b) := by
  unfold spec_CompareShapes.f cmpS
  by_cases hl : a.length = b.length
  · rw [if_pos hl]
    refine Ev.pos (by omega) ?_
    refine loop_list a (fun k i (_ : Unit) => spec_CompareShapes.l0 k a b i) (fun pre suf _ => cmpL suf (b.drop pre.length)) (fun _ _ => True) ?_ ?_ () trivial
    · intro _ _
      simp only [spec_CompareShapes.l0, len_lt, if_false]
      exact Ev.of_eq (Ev.now _) (by simp [cmpL])
    · intro pre c suf _ hx _ ih
      have hp := pre_len hx
      have hpb : pre.length < b.length := by omega
      have hlt : ((pre.length : Int) < (b.length : Int)) = True := by simp; omega
      have eb : rd_T59 b (pre.length : Int) = b[pre.length] := by
        unfold rd_T59
        rw [List.getD_eq_getElem?_getD, Int.toNat_natCast, List.getElem?_eq_getElem hpb]
        rfl
      simp only [spec_CompareShapes.l0, pre_lt hx, pre_0, if_true, hlt, at_pre hx, pre_w hx ha, eb, l02Less_eq, Option.bind_some]
      rw [List.drop_eq_getElem_cons hpb, cmpL]
      have hih := ih () trivial
      rw [List.length_append, List.length_singleton] at hih
      generalize b.drop (pre.length + 1) = R at hih ⊢
      generalize b[pre.length] = d at hih ⊢
      by_cases h1 : ltC c d
      · have h1' : c.f1 < d.f1 ∨ c.f1 = d.f1 ∧ c.f0 < d.f0 := h1
        rw [if_pos h1]
        exact Ev.pos (by simpa using h1') (Ev.now _)
      · have h1' : ¬ (c.f1 < d.f1 ∨ c.f1 = d.f1 ∧ c.f0 < d.f0) := h1
        rw [if_neg h1]
        refine Ev.neg (by simpa using h1') ?_
        by_cases h2 : ltC d c
        · have h2' : d.f1 < c.f1 ∨ d.f1 = c.f1 ∧ d.f0 < c.f0 := h2
          rw [if_pos h2]
          exact Ev.pos (by simpa using h2') (Ev.now _)
        · have h2' : ¬ (d.f1 < c.f1 ∨ d.f1 = c.f1 ∧ d.f0 < c.f0) := h2
          rw [if_neg h2]
          exact Ev.neg (by simpa using h2') hih
  · rw [if_neg hl]
    refine Ev.neg (by omega) ?_
    by_cases h : a.length < b.length
    · rw [if_pos h]; exact Ev.pos (by omega) (Ev.now _)
    · rw [if_neg h]; exact Ev.neg (by omega) (Ev.now _)
theorem cmpC_val (c d : Cell) : cmpC c d = if ltC c d then -1 else if ltC d c then 1 else 0 := by
  unfold cmpC cmpI ltC
  repeat' split
  all_goals omega
theorem implCompareS_ev (a b : List Cell) (ha : small a) : Ev (fun k => impl_compareShapes.f k a b) (cmpS a b) := by
  unfold impl_compareShapes.f cmpS
  by_cases hl : a.length = b.length
  · rw [if_pos hl]
    refine Ev.pos (by omega) (Ev.bind ?_ (Ev.now _))
    unfold impl_Cell_88__impl_compareCells.f
    refine loop_list a (fun k i (_ : Unit) => impl_Cell_88__impl_compareCells.l0 k a b a (a.length : Int) i) (fun pre suf _ => cmpL suf (b.drop pre.length)) (fun _ _ => True) ?_ ?_ () trivial
    · intro _ _
      simp only [impl_Cell_88__impl_compareCells.l0, len_lt, if_false]
      exact Ev.neg (by omega) (Ev.of_eq (Ev.now _) (by simp [cmpL]))
    · intro pre c suf _ hx _ ih
      have hp := pre_len hx
      have hpb : pre.length < b.length := by omega
      have eb : rd_T59 b (pre.length : Int) = b[pre.length] := by
        unfold rd_T59
        rw [List.getD_eq_getElem?_getD, Int.toNat_natCast, List.getElem?_eq_getElem hpb]
        rfl
      simp only [impl_Cell_88__impl_compareCells.l0, pre_lt hx, pre_0, if_true, at_pre hx, pre_w hx ha, eb, compareCells_eq, Option.bind_some]
      refine Ev.neg (by omega) (Ev.pos (by omega) ?_)
      rw [List.drop_eq_getElem_cons hpb, cmpL]
      have hih := ih () trivial
      rw [List.length_append, List.length_singleton] at hih
      generalize b.drop (pre.length + 1) = R at hih ⊢
      generalize b[pre.length] = d at hih ⊢
      have hv := cmpC_val c d
      by_cases h1 : ltC c d
      · rw [if_pos h1] at hv ⊢
        exact Ev.neg (by omega) (Ev.of_eq (Ev.now _) hv)
      · rw [if_neg h1] at hv ⊢
        by_cases h2 : ltC d c
        · rw [if_pos h2] at hv ⊢
          exact Ev.neg (by omega) (Ev.of_eq (Ev.now _) hv)
        · rw [if_neg h2] at hv ⊢
          exact Ev.pos hv hih
  · rw [if_neg hl]
    refine Ev.neg (by omega) ?_
    by_cases h : a.length < b.length
    · rw [if_pos h]; exact Ev.pos (by omega) (Ev.now _)
    · rw [if_neg h]; exact Ev.neg (by omega) (Ev.now _)
def minS : List Cell → List (List Cell) → List Cell
  | m, [] => m
  | m, x :: r => minS (if cmpS x m < 0 then x else m) r
theorem at_preL2 {xs pre suf : List (List Cell)} {c : List Cell} (h : xs = pre ++ c :: suf) : rd_L2 xs (pre.length : Int) = c := by
  subst h; exact getD_at pre suf c _
theorem implMin_ev (c : List Cell) (r : List (List Cell)) (hs : small (c :: r)) (hx_ : ∀ x ∈ c :: r, small x) : Ev (fun k => impl_leastOf.f k (c :: r)) (minS c r) := by
  unfold impl_leastOf.f
  refine Ev.bind ?_ (Ev.now _)
  unfold impl_Cell_100__impl_compareShapes.f
  refine Ev.neg (by rw [List.length_cons]; omega) (Ev.pos (by rw [List.length_cons]; omega) ?_)
  have h1 : rd_L2 (c :: r) 0 = c := rfl
  rw [h1]
  refine loop_tail c r (fun k i (s : List Cell) => impl_Cell_100__impl_compareShapes.l0 k (c :: r) s i) (fun _ suf s => minS s suf) (fun _ s => True) ?_ ?_ c trivial
  · rintro s _
    simp only [impl_Cell_100__impl_compareShapes.l0, len_lt, if_false]
    exact Ev.now _
  · rintro pre d suf s hx _ _ ih
    simp only [impl_Cell_100__impl_compareShapes.l0, pre_lt hx, pre_0, if_true, at_preL2 hx, pre_w hx hs]
    refine Ev.bind (implCompareS_ev d s (hx_ d (by rw [hx]; simp))) ?_
    unfold minS
    by_cases h : cmpS d s < 0
    · rw [if_pos h]; exact Ev.pos h (ih d trivial)
    · rw [if_neg h]; exact Ev.neg h (ih s trivial)
end Go.Proofs.Ytlnliahadgmbcaa.L
end
section
namespace Go.Proofs.Ytlnliahadgmbcaa.F
open Go.RowKit Go.Proofs.YtlnliahadgmbcaaW.PrintWords Go.Proofs.YtlnliahadgmbcaaW.PrintLast Go.Proofs.YtlnliahadgmbcaaW.PrintMore
attribute [local go_sem] max2_int min2_int max_two min_two max_three min_three max_four min_four
set_option linter.unusedVariables false
set_option linter.unusedSimpArgs false
attribute [local go_sem high] eqA59
open Go.Sort
theorem take_snoc_get {β : Type} (l : List β) (m : Nat) (h : m < l.length) : l.take (m + 1) = l.take m ++ [l[m]] := by
  rw [List.take_succ_eq_append_getElem h]
section
variable {α β : Type} [Inhabited α] [DecidableEq β] {key : α → β} {d dk : Array α} {m kk : Nat}
omit [Inhabited α] in
theorem take_set {l : List α} {k : Nat} {x : α} (h : k < l.length) : (l.set k x).take (k + 1) = l.take k ++ [x] := by
  rw [take_snoc_get _ k (by simpa using h), List.take_set_of_le (Nat.le_refl _)]
  simp
end
open Go.Sort
instance instDecC : DecidableEq S59 := fun a b => if h : a.f0 = b.f0 ∧ a.f1 = b.f1 then .isTrue (by obtain ⟨a0, a1⟩ := a; obtain ⟨b0, b1⟩ := b; simp_all) else .isFalse (fun e => h (by rw [e]; exact ⟨rfl, rfl⟩))
open Go.Sort
open Go.Sort
end Go.Proofs.Ytlnliahadgmbcaa.F
end
section
namespace Go.Proofs.Ytlnliahadgmbcaa.L
open Go.RowKit Go.Proofs.YtlnliahadgmbcaaW.PrintWords Go.Proofs.YtlnliahadgmbcaaW.PrintLast Go.Proofs.YtlnliahadgmbcaaW.PrintMore Go.Proofs.Ytlnliahadgmbcaa.F
set_option linter.unusedVariables false
set_option linter.unusedSimpArgs false
theorem minS_mem : ∀ (r : List (List Cell)) (m : List Cell), minS m r ∈ m :: r
  | [], m => by simp [minS]
  | x :: r, m => by
    unfold minS
    have h := minS_mem r (if cmpS x m < 0 then x else m)
    rcases List.mem_cons.1 h with h | h
    · rw [h]
      split
      · simp
      · simp
    · exact List.mem_cons_of_mem _ (List.mem_cons_of_mem _ h)
def minA : List (List Cell) → List Cell
  | [] => []
  | c :: r => minS c r
theorem specLeastS_ev (c : List Cell) (r : List (List Cell)) (hs : small (c :: r)) (hx_ : ∀ x ∈ c :: r, small x) : Ev (fun k => spec_l07Least.f k (c :: r)) (minS c r) := by
  unfold spec_l07Least.f
  refine Ev.pos (by rw [List.length_cons]; omega) ?_
  have h1 : rd_L2 (c :: r) 0 = c := rfl
  rw [h1]
  refine loop_tail c r (fun k i (s : List Cell) => spec_l07Least.l0 k (c :: r) s i) (fun _ suf s => minS s suf) (fun _ s => True) ?_ ?_ c trivial
  · rintro s _
    simp only [spec_l07Least.l0, len_lt, if_false]
    exact Ev.now _
  · rintro pre d suf s hx _ _ ih
    simp only [spec_l07Least.l0, pre_lt hx, pre_0, if_true, at_preL2 hx, pre_w hx hs]
    refine Ev.bind (specCompare_ev d s (hx_ d (by rw [hx]; simp))) ?_
    unfold minS
    by_cases h : cmpS d s < 0
    · rw [if_pos h]; exact Ev.pos h (ih d trivial)
    · rw [if_neg h]; exact Ev.neg h (ih s trivial)
def toP (c : Cell) : V2 := (c.f0, c.f1)
theorem toP_inj {c d : Cell} (h : toP c = toP d) : c = d := by
  obtain ⟨a, b⟩ := c
  obtain ⟨a', b'⟩ := d
  simpa [toP] using h
theorem cellP_eq {c d : Cell} : c = d ↔ c.f0 = d.f0 ∧ c.f1 = d.f1 := by
  obtain ⟨a, b⟩ := c
  obtain ⟨a', b'⟩ := d
  simp
def boxP (m : Int) (p : V2) : Prop := (-m ≤ p.1 ∧ p.1 ≤ m) ∧ (-m ≤ p.2 ∧ p.2 ≤ m)
theorem rot6_app : ∀ (n : Nat) (m : Int) (p : V2), m * 2 ^ n ≤ 1000000 → boxP m p → rot6 n p = app2 (pow2 mR n) p ∧ boxP (m * 2 ^ n) (rot6 n p)
  | 0, m, p, hm, h => ⟨(app_one2 p).symm, by rw [Int.pow_zero, Int.mul_one]; exact h⟩
  | n + 1, m, p, hm, h => by
    have hm0 : 0 ≤ m := by unfold boxP at h; omega
    have hp : (2 : Int) ^ (n + 1) = 2 * 2 ^ n := by rw [Int.pow_succ]; omega
    have h1 : 0 < (2 : Int) ^ n := Int.pow_pos (by omega)
    have hm2 : m * 2 ^ (n + 1) = 2 * m * 2 ^ n := by rw [hp, Int.mul_comm 2 m, Int.mul_assoc]
    have hm3 : 2 * m ≤ 2 * m * 2 ^ n := by
      have := Int.mul_le_mul_of_nonneg_left (show (1 : Int) ≤ 2 ^ n by omega) (show 0 ≤ 2 * m by omega)
      omega
    unfold boxP at h
    have e1 : wrap64 (-p.2) = -p.2 := w64 (by omega) (by omega)
    have e2 : wrap64 (p.1 + p.2) = p.1 + p.2 := w64 (by omega) (by omega)
    obtain ⟨h3, h4⟩ := rot6_app n (2 * m) (wrap64 (-p.2), wrap64 (p.1 + p.2)) (by omega) (by rw [e1, e2]; unfold boxP; simp only; omega)
    rw [hm2]
    refine ⟨?_, h4⟩
    show rot6 n (wrap64 (-p.2), wrap64 (p.1 + p.2)) = app2 (mul2 (pow2 mR n) mR) p
    rw [h3, app_mul2, e1, e2, app_mR]
theorem latD_app {c : Cell} (h : boxP 1000 (toP c)) (t : Nat) : toP (latD (t : Int) c) = app2 (mat2 t) (toP c) := by
  show latC c (t : Int) = _
  unfold latC mat2
  have e : ((t : Int) % 6).toNat = t % 6 := by omega
  have hb : (1000 : Int) * 2 ^ (t % 6) ≤ 1000000 := by
    have e : t % 6 = 0 ∨ t % 6 = 1 ∨ t % 6 = 2 ∨ t % 6 = 3 ∨ t % 6 = 4 ∨ t % 6 = 5 := by omega
    rcases e with e | e | e | e | e | e <;> rw [e] <;> decide
  rw [e, app_mul2]
  by_cases h6 : t ≥ 6
  · rw [if_pos (by omega), if_pos h6, app_mS]
    exact (rot6_app (t % 6) 1000 (c.f1, c.f0) hb ⟨h.2, h.1⟩).1
  · rw [if_neg (by omega), if_neg h6, app_one2]
    exact (rot6_app (t % 6) 1000 (c.f0, c.f1) hb h).1
def shiftC (v : V2) (c : Cell) : Cell := ⟨c.f0 + v.1, c.f1 + v.2⟩
theorem shiftC_P (v : V2) (c : Cell) : toP (shiftC v c) = add2 (toP c) v := rfl
theorem shiftC_lt (v : V2) (a b : Cell) : ltC (shiftC v a) (shiftC v b) ↔ ltC a b := by
  unfold ltC shiftC
  simp only
  omega
theorem leastC_shift {l : List Cell} (h : l ≠ []) (v : V2) : leastOf (l.map (shiftC v)) = add2 (leastOf l) v := by
  obtain ⟨⟨c, hc, e1⟩, ⟨d, hd, e2⟩⟩ := least_mem h
  obtain ⟨⟨c', hc', e1'⟩, ⟨d', hd', e2'⟩⟩ := least_mem (l := l.map (shiftC v)) (by simpa using h)
  obtain ⟨x, hx, rfl⟩ := List.mem_map.1 hc'
  obtain ⟨y, hy, rfl⟩ := List.mem_map.1 hd'
  have a1 := (least_le hx).1
  have a2 := (least_le hy).2
  have b1 := (least_le (List.mem_map.2 ⟨c, hc, rfl⟩ : shiftC v c ∈ l.map (shiftC v))).1
  have b2 := (least_le (List.mem_map.2 ⟨d, hd, rfl⟩ : shiftC v d ∈ l.map (shiftC v))).2
  unfold shiftC at *
  unfold add2
  simp only at *
  exact Prod.ext (by simp only; omega) (by simp only; omega)
theorem sortC_shift (l : List Cell) (v : V2) {l1 : List Cell} (hp : l1.Perm (l.map (shiftC v))) : sortC l1 = (sortC l).map (shiftC v) := by
  refine sortC_eq (((sortC_perm l).map _).trans hp.symm) ?_
  rw [List.pairwise_map]
  exact (sortC_sorted l).imp fun hab => fun hl => hab ((shiftC_lt v _ _).1 hl)
theorem sortC_ne {l : List Cell} (h : l ≠ []) : sortC l ≠ [] := by
  intro e2
  have := congrArg List.length e2
  rw [sortC_len] at this
  exact h (List.length_eq_zero_iff.1 this)
structure NF (nf : List Cell → List Cell) (okV : V2 → Prop) : Prop where
  inv : ∀ (l : List Cell) (v : V2), l ≠ [] → okV v → nf (l.map (shiftC v)) = nf l
  val : ∀ (l : List Cell), l ≠ [] → (∀ c ∈ l, boxP 10000 (toP c)) → ∃ v, okV v ∧ boxP 20000 v ∧ nf l = l.map (shiftC v)
  lin : ∀ (t : Nat) (v : V2), t < 12 → okV v → okV (app2 (mat2 t) v)
theorem nf_perm {nf : List Cell → List Cell} {okV : V2 → Prop} (hn : NF nf okV) {l1 l2 : List Cell} {v : V2} (hv : okV v) (hp : l1.Perm (l2.map (shiftC v))) (h : l2 ≠ []) : nf (sortC l1) = nf (sortC l2) := by
  rw [sortC_shift l2 v hp]
  exact hn.inv _ v (sortC_ne h) hv
theorem mat2_three {t : Nat} (ht : t < 12) {v : V2} (h1 : v.1 % 3 = 0) (h2 : v.2 % 3 = 0) : (app2 (mat2 t) v).1 % 3 = 0 ∧ (app2 (mat2 t) v).2 % 3 = 0 := by
  have key (n : Nat) : ∀ {v : V2}, v.1 % 3 = 0 → v.2 % 3 = 0 → (app2 (pow2 mR n) v).1 % 3 = 0 ∧ (app2 (pow2 mR n) v).2 % 3 = 0 := by
    induction n with
    | zero => intro v h1 h2; unfold pow2; rw [app_one2]; exact ⟨h1, h2⟩
    | succ n ih =>
      intro v h1 h2
      unfold pow2
      rw [app_mul2, app_mR]
      exact ih (by simp only; omega) (by simp only; omega)
  unfold mat2
  rw [app_mul2]
  split
  · rw [app_mS]; exact key _ h2 h1
  · rw [app_one2]; exact key _ h1 h2
theorem normalT_nf : NF normalT (fun v => v.1 % 3 = 0 ∧ v.2 % 3 = 0) where
  inv l v h hv := by
    obtain ⟨v1, v2⟩ := hv
    unfold normalT moveL
    rw [leastC_shift h, List.map_map]
    refine List.map_congr_left fun c _ => ?_
    simp only [Function.comp, shiftC, add2, S59.mk.injEq]
    have m1 : ((leastOf l).1 + v.1) % 3 = (leastOf l).1 % 3 := by omega
    have m2 : ((leastOf l).2 + v.2) % 3 = (leastOf l).2 % 3 := by omega
    rw [m1, m2]
    constructor <;> (unfold wrap64; omega)
  val l h hb := by
    obtain ⟨⟨c, hc, e1⟩, ⟨d, hd, e2⟩⟩ := least_mem h
    have b1 := hb c hc
    have b2 := hb d hd
    unfold boxP toP at b1 b2
    simp only at b1 b2
    refine ⟨((leastOf l).1 % 3 - (leastOf l).1, (leastOf l).2 % 3 - (leastOf l).2), ⟨by simp only; omega, by simp only; omega⟩, by unfold boxP; simp only; omega, ?_⟩
    unfold normalT moveL
    refine List.map_congr_left fun x hx => ?_
    have b3 := hb x hx
    unfold boxP toP at b3
    simp only at b3
    simp only [shiftC, S59.mk.injEq]
    rw [w64 (n := (leastOf l).1 % 3 - (leastOf l).1) (by omega) (by omega), w64 (n := (leastOf l).2 % 3 - (leastOf l).2) (by omega) (by omega), w64 (by omega) (by omega), w64 (by omega) (by omega)]
    exact ⟨rfl, rfl⟩
  lin t v ht hv := mat2_three ht hv.1 hv.2
structure MoveC (l x : List Cell) (A : M2) (w : V2) (φ : Cell → Cell) : Prop where
  val : ∀ c ∈ l, toP (φ c) = add2 (app2 A (toP c)) w
  perm : x.Perm (l.map φ)
theorem shape_box {l : List Cell} (h : shapeB l = true) (c : Cell) (hc : c ∈ l) : boxP 100 (toP c) := by
  have := (shapeB_iff.1 h).1 c hc
  unfold okC ok1 at this
  unfold boxP toP
  simp only; omega
theorem box_le {m n : Int} {p : V2} (h : boxP m p) (hn : m ≤ n) : boxP n p := by unfold boxP at *; omega
theorem lat_box {c : Cell} (h : boxP 100 (toP c)) (t : Nat) : boxP 10000 (toP (latD (t : Int) c)) := by
  show boxP 10000 (latC c (t : Int))
  unfold latC
  have e : ((t : Int) % 6).toNat = t % 6 := by omega
  rw [e]
  have he : t % 6 = 0 ∨ t % 6 = 1 ∨ t % 6 = 2 ∨ t % 6 = 3 ∨ t % 6 = 4 ∨ t % 6 = 5 := by omega
  have key (p : V2) (hp : boxP 100 p) : boxP 10000 (rot6 (t % 6) p) := by
    have hb : (100 : Int) * 2 ^ (t % 6) ≤ 10000 := by rcases he with e | e | e | e | e | e <;> rw [e] <;> decide
    exact box_le (rot6_app (t % 6) 100 p (by omega) hp).2 hb
  split
  · exact key _ ⟨h.2, h.1⟩
  · exact key _ h
theorem lform_move {nf : List Cell → List Cell} {okV : V2 → Prop} (hn : NF nf okV) {l : List Cell} (h : shapeB l = true) (t : Nat) :
    ∃ w φ, okV w ∧ MoveC l (nf (latL l (t : Int))) (mat2 t) w φ ∧ ∀ c, φ c = shiftC w (latD (t : Int) c) := by
  have hne : l.map (latD (t : Int)) ≠ [] := by simpa using shape_ne h
  obtain ⟨w, hw, _, e⟩ := hn.val (latL l (t : Int)) (sortC_ne hne) (fun c hc => by
    unfold latL at hc
    rw [sortC_mem] at hc
    obtain ⟨d, hd, rfl⟩ := List.mem_map.1 hc
    exact lat_box (shape_box h d hd) t)
  refine ⟨w, fun c => shiftC w (latD (t : Int) c), hw, ⟨fun c hc => ?_, ?_⟩, fun _ => rfl⟩
  · rw [shiftC_P, latD_app (box_le (shape_box h c hc) (by omega))]
  · rw [e]
    refine ((sortC_perm _).map _).trans ?_
    rw [List.map_map]
    exact List.Perm.refl _
theorem lform_form {nf : List Cell → List Cell} {okV : V2 → Prop} (hn : NF nf okV) {l : List Cell} (h : shapeB l = true) {t s u : Nat} (hs : s < 12) (hx : shapeB (nf (latL l (t : Int))) = true) (e : mul2 (mat2 s) (mat2 t) = mat2 u) :
    nf (latL (nf (latL l (t : Int))) (s : Int)) = nf (latL l (u : Int)) := by
  obtain ⟨w, φ, hw, hm, hφ⟩ := lform_move hn h t
  refine nf_perm hn (v := app2 (mat2 s) w) (hn.lin s w hs hw) ?_ (by simpa using shape_ne h)
  refine (hm.perm.map (latD (s : Int))).trans ?_
  rw [List.map_map, List.map_map]
  refine List.Perm.of_eq (List.map_congr_left fun c hc => toP_inj ?_)
  have hb := shape_box hx (φ c) (hm.perm.mem_iff.2 (List.mem_map.2 ⟨c, hc, rfl⟩))
  simp only [Function.comp]
  rw [latD_app (box_le hb (by omega)), hm.val c hc, shiftC_P, latD_app (box_le (shape_box h c hc) (by omega)), app_add2, ← app_mul2, e]
theorem shape_nodup {l : List Cell} (h : shapeB l = true) : l.Nodup := (shapeB_iff.1 h).2.1.imp fun {a b} hab e => by
  subst e
  unfold ltC at hab
  omega
theorem MoveC.inj {l x : List Cell} {A : M2} {w : V2} {φ : Cell → Cell} (h : MoveC l x A w φ) (hA : A ∈ mats2) : ∀ c ∈ l, ∀ d ∈ l, φ c = φ d → c = d := fun c hc d hd e => by
  have := congrArg toP e
  rw [h.val c hc, h.val d hd] at this
  refine toP_inj (mats2_inj hA ?_)
  unfold add2 at this
  simp only [Prod.mk.injEq] at this
  exact Prod.ext (by omega) (by omega)
theorem MoveC.mem {l x : List Cell} {A : M2} {w : V2} {φ : Cell → Cell} (h : MoveC l x A w φ) (y : Cell) : y ∈ x ↔ ∃ c ∈ l, φ c = y := by
  rw [h.perm.mem_iff, List.mem_map]
theorem cmpL_le_trans : ∀ (a b c : List Cell), a.length = b.length → b.length = c.length → cmpL a b ≤ 0 → cmpL b c ≤ 0 → cmpL a c ≤ 0
  | [], _, _, _, _, _, _ => by simp [cmpL]
  | x :: r, [], c, h1, _, _, _ => by simp at h1
  | x :: r, y :: s, [], _, h2, _, _ => by simp at h2
  | x :: r, y :: s, z :: t, h1, h2, h3, h4 => by
    unfold cmpL at h3 h4 ⊢
    have tot {a b : Cell} (h : ¬ ltC a b) (h' : ¬ ltC b a) : a = b := by
      unfold ltC at h h'
      exact cellP_eq.2 (by omega)
    by_cases c1 : ltC x y
    · by_cases c2 : ltC y z
      · rw [if_pos (ltC_trans c1 c2)]; omega
      · rw [if_neg c2] at h4
        by_cases c3 : ltC z y
        · rw [if_pos c3] at h4; omega
        · rw [← tot c2 c3, if_pos c1]; omega
    · rw [if_neg c1] at h3
      by_cases c2 : ltC y x
      · rw [if_pos c2] at h3; omega
      · rw [if_neg c2] at h3
        have exy := tot c1 c2
        subst exy
        by_cases c3 : ltC x z
        · rw [if_pos c3]; omega
        · rw [if_neg c3] at h4 ⊢
          by_cases c4 : ltC z x
          · rw [if_pos c4] at h4; omega
          · rw [if_neg c4] at h4 ⊢
            exact cmpL_le_trans r s t (by simpa using h1) (by simpa using h2) h3 h4
theorem cmpL_neg : ∀ (a b : List Cell), cmpL b a = - cmpL a b
  | [], [] => rfl
  | [], _ :: _ => rfl
  | _ :: _, [] => rfl
  | x :: r, y :: s => by
    unfold cmpL
    by_cases c1 : ltC x y
    · have c2 : ¬ ltC y x := fun h => by unfold ltC at *; omega
      simp [c1, c2]
    · by_cases c2 : ltC y x
      · simp [c1, c2]
      · simp only [c1, c2, if_false]
        exact cmpL_neg r s
theorem cmpS_neg (a b : List Cell) : cmpS b a = - cmpS a b := by
  unfold cmpS
  by_cases h : a.length = b.length
  · rw [if_pos h, if_pos h.symm]; exact cmpL_neg a b
  · rw [if_neg h, if_neg (fun e => h e.symm)]
    by_cases h2 : a.length < b.length
    · rw [if_pos h2, if_neg (by omega)]; rfl
    · rw [if_neg h2, if_pos (by omega)]
theorem minS_le (n : Nat) : ∀ (r : List (List Cell)) (m : List Cell), m.length = n → (∀ x ∈ r, x.length = n) → ∀ x ∈ m :: r, cmpS (minS m r) x ≤ 0
  | [], m, hm, _, x, hx => by
    simp at hx
    subst hx
    have := (cmpS_zero x x).2 rfl
    simp only [minS]; omega
  | y :: r, m, hm, hr, x, hx => by
    have hy := hr y List.mem_cons_self
    have tr (a b c : List Cell) (ha : a.length = n) (hb : b.length = n) (hc : c.length = n) (h1 : cmpS a b ≤ 0) (h2 : cmpS b c ≤ 0) : cmpS a c ≤ 0 := by
      unfold cmpS at *
      rw [if_pos (by omega)] at h1 h2 ⊢
      exact cmpL_le_trans a b c (by omega) (by omega) h1 h2
    unfold minS
    have hk : (if cmpS y m < 0 then y else m).length = n := by split <;> assumption
    have ih := minS_le n r (if cmpS y m < 0 then y else m) hk (fun z hz => hr z (List.mem_cons_of_mem _ hz))
    have hl : (minS (if cmpS y m < 0 then y else m) r).length = n := by
      rcases List.mem_cons.1 (minS_mem r (if cmpS y m < 0 then y else m)) with h | h
      · rw [h]; exact hk
      · exact hr _ (List.mem_cons_of_mem _ h)
    have h0 := ih _ List.mem_cons_self
    have both : cmpS (if cmpS y m < 0 then y else m) m ≤ 0 ∧ cmpS (if cmpS y m < 0 then y else m) y ≤ 0 := by
      have r1 := (cmpS_zero m m).2 rfl
      have r2 := (cmpS_zero y y).2 rfl
      have := cmpS_neg y m
      split <;> omega
    rcases List.mem_cons.1 hx with rfl | hx
    · exact tr _ _ _ hl hk hm h0 both.1
    · rcases List.mem_cons.1 hx with rfl | hx
      · exact tr _ _ _ hl hk hy h0 both.2
      · exact ih x (List.mem_cons_of_mem _ hx)
theorem minS_eq (n : Nat) {m m' : List Cell} {r r' : List (List Cell)} (h : ∀ x ∈ m :: r, x.length = n) (h' : ∀ x ∈ m' :: r', x.length = n) (h1 : ∀ x ∈ m :: r, x ∈ m' :: r') (h2 : ∀ x ∈ m' :: r', x ∈ m :: r) : minS m r = minS m' r' := by
  have a1 := minS_le n r m (h m List.mem_cons_self) (fun x hx => h x (List.mem_cons_of_mem _ hx)) _ (h2 _ (minS_mem r' m'))
  have a2 := minS_le n r' m' (h' m' List.mem_cons_self) (fun x hx => h' x (List.mem_cons_of_mem _ hx)) _ (h1 _ (minS_mem r m))
  rw [cmpS_neg] at a2
  exact (cmpS_zero _ _).1 (by omega)
def triRaw (c : Cell) : List Cell := if c.f0 % 3 = 2 then [⟨wrap64 (c.f0 + (-1)), wrap64 (c.f1 + (-1))⟩, ⟨wrap64 (c.f0 - (2 * (-1))), wrap64 (c.f1 + (-1))⟩, ⟨wrap64 (c.f0 + (-1)), wrap64 (c.f1 - (2 * (-1)))⟩]
  else [⟨wrap64 (c.f0 + 1), wrap64 (c.f1 + 1)⟩, ⟨wrap64 (c.f0 - (2 * 1)), wrap64 (c.f1 + 1)⟩, ⟨wrap64 (c.f0 + 1), wrap64 (c.f1 - (2 * 1))⟩]
def triC (c : Cell) : List Cell := sortC (triRaw c)
theorem triRaw_len (c : Cell) : (triRaw c).length = 3 := by unfold triRaw; split <;> rfl
theorem triC_len (c : Cell) : (triC c).length ≤ 16 := by unfold triC; rw [sortC_len, triRaw_len]; omega
theorem implTri_eq (c : Cell) : impl_trianglesAround.f c.f0 c.f1 = some (triC c) := by
  unfold impl_trianglesAround.f triC triRaw
  simp only [modOf3, Option.bind_some]
  by_cases h : c.f0 % 3 = 2
  · rw [if_pos h, if_pos h, implSorted_eq _ (by simp) (by simp)]; rfl
  · rw [if_neg h, if_neg h, implSorted_eq _ (by simp) (by simp)]; rfl
theorem specTri_eq {c : Cell} (h : okC c) (ht : triX c) : spec_l07Around.f 0 c.f0 c.f1 = some (triC c) := by
  unfold spec_l07Around.f
  rw [if_neg (by decide)]
  simp only [l01Mod3, Option.bind_some]
  unfold okC ok1 at h
  unfold triX at ht
  have w (n : Int) (h0 : -1000 ≤ n) (h1 : n ≤ 1000) : wrap64 n = n := w64 (by omega) (by omega)
  by_cases h1 : c.f0 % 3 = 1
  · rw [if_pos h1]
    congr 1
    symm
    refine sortC_eq ?_ ?_
    · unfold triRaw
      rw [if_neg (by omega), w (c.f0 + 1) (by omega) (by omega), w (c.f1 - 2) (by omega) (by omega), w (c.f0 - 2) (by omega) (by omega), w (c.f1 + 1) (by omega) (by omega), w (c.f0 - 2 * 1) (by omega) (by omega), w (c.f1 - 2 * 1) (by omega) (by omega)]
      exact List.reverse_perm [(⟨c.f0 + 1, c.f1 + 1⟩ : Cell), ⟨c.f0 - 2, c.f1 + 1⟩, ⟨c.f0 + 1, c.f1 - 2⟩]
    · rw [w (c.f0 + 1) (by omega) (by omega), w (c.f1 - 2) (by omega) (by omega), w (c.f0 - 2) (by omega) (by omega), w (c.f1 + 1) (by omega) (by omega)]
      simp only [List.pairwise_cons, List.mem_cons, List.not_mem_nil, or_false, forall_eq_or_imp, forall_eq, false_implies, implies_true, List.Pairwise.nil, and_true, ltC]
      omega
  · rw [if_neg h1]
    congr 1
    symm
    refine sortC_eq ?_ ?_
    · unfold triRaw
      rw [if_pos (by omega), w (c.f0 - 1) (by omega) (by omega), w (c.f1 - 1) (by omega) (by omega), w (c.f0 + 2) (by omega) (by omega), w (c.f1 + 2) (by omega) (by omega), w (c.f0 + -1) (by omega) (by omega), w (c.f1 + -1) (by omega) (by omega), w (c.f0 - 2 * -1) (by omega) (by omega), w (c.f1 - 2 * -1) (by omega) (by omega)]
      have e1 : c.f0 + -1 = c.f0 - 1 := by omega
      have e2 : c.f1 + -1 = c.f1 - 1 := by omega
      have e3 : c.f0 - 2 * -1 = c.f0 + 2 := by omega
      have e4 : c.f1 - 2 * -1 = c.f1 + 2 := by omega
      rw [e1, e2, e3, e4]
    · rw [w (c.f0 - 1) (by omega) (by omega), w (c.f1 - 1) (by omega) (by omega), w (c.f0 + 2) (by omega) (by omega), w (c.f1 + 2) (by omega) (by omega)]
      simp only [List.pairwise_cons, List.mem_cons, List.not_mem_nil, or_false, forall_eq_or_imp, forall_eq, false_implies, implies_true, List.Pairwise.nil, and_true, ltC]
      omega
end Go.Proofs.Ytlnliahadgmbcaa.L
end
section
namespace Go.Proofs.Ytlnliahadgmbcaa.L
open Go.RowKit Go.Proofs.YtlnliahadgmbcaaW.PrintWords Go.Proofs.YtlnliahadgmbcaaW.PrintLast Go.Proofs.YtlnliahadgmbcaaW.PrintMore Go.Proofs.Ytlnliahadgmbcaa.F
set_option linter.unusedVariables false
def nearC (m : Int) (c : Cell) : Prop := -m ≤ c.f0 ∧ c.f0 ≤ m ∧ -m ≤ c.f1 ∧ c.f1 ≤ m
def triAdj (c d : Cell) : Prop :=
  (c.f0 % 3 = 2 ∧ (d.f0 = c.f0 - 1 ∧ d.f1 = c.f1 - 1 ∨ d.f0 = c.f0 + 2 ∧ d.f1 = c.f1 - 1 ∨ d.f0 = c.f0 - 1 ∧ d.f1 = c.f1 + 2)) ∨
  (c.f0 % 3 ≠ 2 ∧ (d.f0 = c.f0 + 1 ∧ d.f1 = c.f1 + 1 ∨ d.f0 = c.f0 - 2 ∧ d.f1 = c.f1 + 1 ∨ d.f0 = c.f0 + 1 ∧ d.f1 = c.f1 - 2))
theorem cell_eq {c d : Cell} : c = d ↔ c.f0 = d.f0 ∧ c.f1 = d.f1 := by
  obtain ⟨a, b⟩ := c
  obtain ⟨a', b'⟩ := d
  simp
theorem triC_adj {c d : Cell} (h : nearC 1000 c) : d ∈ triC c ↔ triAdj c d := by
  unfold triC triRaw triAdj
  unfold nearC at h
  have w (n : Int) (h0 : -2000 ≤ n) (h1 : n ≤ 2000) : wrap64 n = n := w64 (by omega) (by omega)
  rw [sortC_mem]
  by_cases h2 : c.f0 % 3 = 2
  · rw [if_pos h2, w (c.f0 + -1) (by omega) (by omega), w (c.f1 + -1) (by omega) (by omega), w (c.f0 - 2 * -1) (by omega) (by omega), w (c.f1 - 2 * -1) (by omega) (by omega)]
    simp only [List.mem_cons, List.not_mem_nil, or_false, cell_eq]
    omega
  · rw [if_neg h2, w (c.f0 + 1) (by omega) (by omega), w (c.f1 + 1) (by omega) (by omega), w (c.f0 - 2 * 1) (by omega) (by omega), w (c.f1 - 2 * 1) (by omega) (by omega)]
    simp only [List.mem_cons, List.not_mem_nil, or_false, cell_eq]
    omega
theorem triAdj_sym {c d : Cell} (hc : triX c) (h : triAdj c d) : triX d ∧ triAdj d c := by
  unfold triX at hc
  unfold triAdj at h
  unfold triX triAdj
  rcases h with ⟨h2, h | h | h⟩ | ⟨h2, h | h | h⟩
  · exact ⟨by omega, .inr ⟨by omega, .inl (by omega)⟩⟩
  · exact ⟨by omega, .inr ⟨by omega, .inr (.inl (by omega))⟩⟩
  · exact ⟨by omega, .inr ⟨by omega, .inr (.inr (by omega))⟩⟩
  · exact ⟨by omega, .inl ⟨by omega, .inl (by omega)⟩⟩
  · exact ⟨by omega, .inl ⟨by omega, .inr (.inl (by omega))⟩⟩
  · exact ⟨by omega, .inl ⟨by omega, .inr (.inr (by omega))⟩⟩
theorem likeCC_ev (a : List Cell) (hs : small a) : Ev (fun k => laws_likeCells.f k a a) true := by
  unfold laws_likeCells.f
  refine Ev.pos rfl ?_
  refine loop_list a (fun k i (_ : Unit) => laws_likeCells.l0 k a a i) (fun _ _ _ => true) (fun _ _ => True) ?_ ?_ () trivial
  · intro _ _
    simp only [laws_likeCells.l0, len_lt, if_false]
    exact Ev.now _
  · intro pre d suf _ hx _ ih
    simp only [laws_likeCells.l0, pre_lt hx, pre_0, if_true, at_pre hx, pre_w hx hs]
    exact Ev.neg (by simp) (ih () trivial)
end Go.Proofs.Ytlnliahadgmbcaa.L
end
section
namespace Go.Proofs.Ytlnliahadgmbcaa.L
open Go.RowKit Go.Proofs.YtlnliahadgmbcaaW.PrintWords Go.Proofs.YtlnliahadgmbcaaW.PrintLast Go.Proofs.YtlnliahadgmbcaaW.PrintMore Go.Proofs.Ytlnliahadgmbcaa.F
set_option linter.unusedVariables false
set_option linter.unusedSimpArgs false
def formR (ok : Bool) (form : List Cell) (t : Int) : List Cell × Int := if ok = true then (if 0 ≤ t ∧ t ≤ 11 then (if shapeB form = true then (form, 0) else ([], 3)) else ([], 2)) else ([], 1)
theorem formR_len (ok : Bool) (form : List Cell) (t : Int) : (formR ok form t).1.length ≤ form.length := by
  unfold formR
  split
  · split
    · split <;> simp
    · simp
  · simp
def triFR (l : List Cell) (t : Int) : List Cell × Int := formR (allTri l && shapeB l) (normalT (latL l t)) t
theorem specTriFormC_ev (l : List Cell) (t : Int) (hl : l.length ≤ 1048576) : Ev (fun k => spec_TriangleForm.f k l t) (triFR l t) := by
  have hs : small l := by unfold small; omega
  unfold spec_TriangleForm.f triFR
  refine Ev.bind (a := formR (allTri l && shapeB l) (normalT (latL l t)) t) ?_ (Ev.now _)
  unfold spec_l07FormCode.f formR
  refine Ev.bind (specShape0_ev l hs) (Ev.if_ (fun h => ?_) (fun _ => Ev.now _))
  rw [Bool.and_eq_true] at h
  simp only [in_eq, Option.bind_some, decide_eq_true_eq]
  refine Ev.if_ (fun ht => ?_) (fun _ => Ev.now _)
  refine Ev.bind (specForm0_ev l t ht.1 hl (shape_pos h.2)) (Ev.bind (specIsShape_ev _ ?_) (Ev.if_ (fun _ => Ev.now _) (fun _ => Ev.now _)))
  unfold small; rw [normalT_len, latL_len]; omega
theorem implTriFormC_ev (l : List Cell) (t : Int) (hl : l.length ≤ 1048576) : Ev (fun k => impl_TriangleForm.f k l t) (triFR l t) := by
  have hs : small l := by unfold small; omega
  unfold impl_TriangleForm.f triFR formR
  refine Ev.bind (implTriShape_ev l hs) (Ev.if_ (fun h => ?_) (fun _ => Ev.now _))
  rw [Bool.and_eq_true] at h
  have h1 : impl_isLatticeTurn.f t = some (decide (0 ≤ t ∧ t ≤ 11)) := by unfold impl_isLatticeTurn.f; rw [within_eq]; rfl
  simp only [h1, Option.bind_some, decide_eq_true_eq]
  refine Ev.if_ (fun ht => ?_) (fun _ => Ev.now _)
  refine Ev.bind (implTriForm_ev l t ht.1 hl (shape_pos h.2)) (Ev.bind (implIsShape_ev _ ?_) (Ev.if_ (fun _ => Ev.now _) (fun _ => Ev.now _)))
  unfold small; rw [normalT_len, latL_len]; omega
structure Src (cs : List Int) (a s : Int) : Prop where
  at0 : 0 ≤ a
  at1 : a ≤ (cs.length : Int)
  sd0 : 0 ≤ s
  sd1 : s < 2147483647
  len : cs.length ≤ 1000000000000000000
  byte : ∀ x ∈ cs, 0 ≤ x ∧ x ≤ 255
theorem rd_byte {cs : List Int} {a s : Int} (h : Src cs a s) (i : Int) (h0 : 0 ≤ i) (h1 : i < (cs.length : Int)) : 0 ≤ rd cs i ∧ rd cs i ≤ 255 := by
  unfold rd
  obtain ⟨n, rfl⟩ : ∃ n : Nat, i = (n : Int) := ⟨i.toNat, by omega⟩
  have hn : n < cs.length := by omega
  have e : cs.getD (n : Int).toNat 0 = cs[n] := by simp [List.getD, hn]
  rw [e]
  exact h.byte _ (List.getElem_mem hn)
theorem next_ex {cs : List Int} {a s : Int} (h : Src cs a s) (n : Int) (hn : n ≤ 1000000000000) : ∃ v a' s', spec_l01Next.f cs a s n = some (v, a', s') ∧ Src cs a' s' ∧ 0 ≤ v ∧ (1 ≤ n → v < n) := by
  have ⟨h0, h1, h2, h3, h4, h5⟩ := h
  unfold spec_l01Next.f
  by_cases hn1 : n ≤ 1
  · rw [if_pos hn1]
    exact ⟨_, _, _, rfl, h, by omega, by omega⟩
  · rw [if_neg hn1]
    have ew : wrap64 ((wrap64 (s * 48271)) + 29) = s * 48271 + 29 := by rw [w64 (n := s * 48271) (by omega) (by omega), w64 (by omega) (by omega)]
    have em : Int.tmod (s * 48271 + 29) 2147483647 = (s * 48271 + 29) % 2147483647 := Int.tmod_eq_emod_of_nonneg (by omega)
    have hs0 : 0 ≤ (s * 48271 + 29) % 2147483647 := Int.emod_nonneg _ (by omega)
    have hs1 : (s * 48271 + 29) % 2147483647 < 2147483647 := Int.emod_lt_of_pos _ (by omega)
    rw [ew, em]
    generalize (s * 48271 + 29) % 2147483647 = s' at hs0 hs1 ⊢
    have et : Int.tdiv s' 31 = s' / 31 := Int.tdiv_eq_ediv_of_nonneg hs0
    rw [et, w64 (n := s' / 31) (by omega) (by omega)]
    have tm (x : Int) (hx : 0 ≤ x) : 0 ≤ Int.tmod x n ∧ Int.tmod x n < n := by
      rw [Int.tmod_eq_emod_of_nonneg hx]
      exact ⟨Int.emod_nonneg _ (by omega), Int.emod_lt_of_pos _ (by omega)⟩
    by_cases ha : a < (cs.length : Int)
    · have ea : wrap64 (a + 1) = a + 1 := w64 (by omega) (by omega)
      have hr := rd_byte h a h0 ha
      have e1 : wrap64 (rd cs a) = rd cs a := w64 (by omega) (by omega)
      have e2 : wrap64 (a + 1 - 1) = a := by rw [w64 (by omega) (by omega)]; omega
      have e3 : wrap64 (s' / 31 + rd cs a) = s' / 31 + rd cs a := w64 (by omega) (by omega)
      have hS : Src cs (a + 1) s' := ⟨by omega, by omega, hs0, hs1, h4, h5⟩
      rw [if_pos ha, if_pos h0, ea, e1, e2, e1, e3, if_pos h0, if_pos ha, if_neg (by omega : ¬ n = 0)]
      repeat' split
      all_goals first
        | exact ⟨_, _, _, rfl, hS, (tm _ (by omega)).1, fun _ => (tm _ (by omega)).2⟩
        | omega
    · have hS : Src cs a s' := ⟨by omega, by omega, hs0, hs1, h4, h5⟩
      rw [if_neg ha, if_neg (by omega : ¬ n = 0)]
      have := tm (s' / 31) (by omega)
      exact ⟨_, _, _, rfl, hS, this.1, fun _ => this.2⟩
def Ex {α : Type} (g : Nat → Option α) (P : α → Prop) : Prop := ∃ r, Ev g r ∧ P r
theorem Ex.now {α : Type} {P : α → Prop} {r : α} (h : P r) : Ex (fun _ => some r) P := ⟨r, Ev.now _, h⟩
theorem Ex.mono {α : Type} {g : Nat → Option α} {P Q : α → Prop} (h : Ex g P) (hi : ∀ r, P r → Q r) : Ex g Q := by
  obtain ⟨r, h1, h2⟩ := h
  exact ⟨r, h1, hi r h2⟩
theorem Ex.bind {α β : Type} {g : Nat → Option α} {f : Nat → α → Option β} {P : α → Prop} {Q : β → Prop} (h : Ex g P) (k : ∀ a, P a → Ex (fun n => f n a) Q) : Ex (fun n => (g n).bind (f n)) Q := by
  obtain ⟨a, h1, h2⟩ := h
  obtain ⟨b, h3, h4⟩ := k a h2
  exact ⟨b, Ev.bind h1 h3, h4⟩
theorem Ex.bindE {α β : Type} {g : Nat → Option α} {f : Nat → α → Option β} {a : α} {Q : β → Prop} (h : Ev g a) (k : Ex (fun n => f n a) Q) : Ex (fun n => (g n).bind (f n)) Q := by
  obtain ⟨b, h3, h4⟩ := k
  exact ⟨b, Ev.bind h h3, h4⟩
theorem Ex.bind0 {α β : Type} {o : Option α} {f : Nat → α → Option β} {a : α} {Q : β → Prop} (h : o = some a) (k : Ex (fun n => f n a) Q) : Ex (fun n => o.bind (f n)) Q := by
  subst h
  exact k
theorem Ex.pos {α : Type} {c : Prop} [Decidable c] {f g : Nat → Option α} {P : α → Prop} (h : c) (e : Ex f P) : Ex (fun k => if c then f k else g k) P := by
  obtain ⟨r, h1, h2⟩ := e
  exact ⟨r, Ev.pos h h1, h2⟩
theorem Ex.neg {α : Type} {c : Prop} [Decidable c] {f g : Nat → Option α} {P : α → Prop} (h : ¬ c) (e : Ex g P) : Ex (fun k => if c then f k else g k) P := by
  obtain ⟨r, h1, h2⟩ := e
  exact ⟨r, Ev.neg h h1, h2⟩
theorem Ex.if_ {α : Type} {c : Prop} [Decidable c] {f g : Nat → Option α} {P : α → Prop} (h : c → Ex f P) (h' : ¬ c → Ex g P) : Ex (fun k => if c then f k else g k) P := by
  by_cases hc : c
  · exact Ex.pos hc (h hc)
  · exact Ex.neg hc (h' hc)
theorem Ex.succ {α : Type} {g : Nat → Option α} {P : α → Prop} (h : Ex (fun k => g (k + 1)) P) : Ex g P := by
  obtain ⟨r, h1, h2⟩ := h
  exact ⟨r, Ev.succ h1, h2⟩
theorem Ex.next {β : Type} {cs : List Int} {a s : Int} (h : Src cs a s) (n : Int) (hn : n ≤ 1000000000000) {f : Nat → Int × Int × Int → Option β} {Q : β → Prop}
    (k : ∀ v a' s', Src cs a' s' → 0 ≤ v → (1 ≤ n → v < n) → Ex (fun q => f q (v, a', s')) Q) : Ex (fun q => (spec_l01Next.f cs a s n).bind (f q)) Q := by
  obtain ⟨v, a', s', e, h1, h2, h3⟩ := next_ex h n hn
  exact Ex.bind0 e (k v a' s' h1 h2 h3)
theorem from_l (cs : List Int) (hl : cs.length ≤ 1000000000000000000) (hb : ∀ x ∈ cs, 0 ≤ x ∧ x ≤ 255) : ∀ (q i : Nat) (s : Int), i + q = min cs.length 64 → 0 ≤ s → s < 2147483647 →
    Ex (fun k => spec_l01From.l0 k cs (i : Int) cs 0 s) fun r => r.1 = cs ∧ r.2.1 = 0 ∧ Src cs 0 r.2.2
  | 0, i, s, hi, h0, h1 => by
    refine Ex.succ ?_
    simp only [spec_l01From.l0]
    have hS : Src cs 0 s := ⟨by omega, by omega, h0, h1, hl, hb⟩
    refine Ex.if_ (fun _ => Ex.neg (by omega) (Ex.now ⟨rfl, rfl, hS⟩)) (fun _ => Ex.now ⟨rfl, rfl, hS⟩)
  | q + 1, i, s, hi, h0, h1 => by
    refine Ex.succ ?_
    simp only [spec_l01From.l0]
    have hS : Src cs 0 s := ⟨by omega, by omega, h0, h1, hl, hb⟩
    have hr := rd_byte hS (i : Int) (by omega) (by omega)
    have ei : wrap64 ((i : Int) + 1) = ((i + 1 : Nat) : Int) := by rw [w64 (by omega) (by omega)]; omega
    have es : Int.tmod (wrap64 ((wrap64 (s * 47)) + (wrap64 (rd cs (i : Int))))) 2147483647 = (s * 47 + rd cs (i : Int)) % 2147483647 := by
      rw [w64 (n := s * 47) (by omega) (by omega), w64 (n := rd cs (i : Int)) (by omega) (by omega), w64 (by omega) (by omega), Int.tmod_eq_emod_of_nonneg (by omega)]
    rw [ei, es]
    exact Ex.pos (by omega) (Ex.pos (by omega) (Ex.pos (by omega) (from_l cs hl hb q (i + 1) _ (by omega) (Int.emod_nonneg _ (by omega)) (Int.emod_lt_of_pos _ (by omega)))))
theorem from_ex (cs : List Int) (hl : cs.length ≤ 1000000000000000000) (hb : ∀ x ∈ cs, 0 ≤ x ∧ x ≤ 255) : Ex (fun k => spec_l01From.f k cs) fun r => r.1 = cs ∧ r.2.1 = 0 ∧ Src cs 0 r.2.2 := by
  unfold spec_l01From.f
  exact from_l cs hl hb (min cs.length 64) 0 61003 (by omega) (by omega) (by omega)
theorem around7 (k x y : Int) : ∃ L, spec_l07Around.f k x y = some L ∧ 1 ≤ L.length ∧ L.length ≤ 6 := by
  unfold spec_l07Around.f
  by_cases h : k = 1
  · rw [if_pos h]
    exact ⟨_, rfl, by simp, by simp⟩
  · rw [if_neg h, l01Mod3]
    simp only [Option.bind_some]
    split
    · exact ⟨_, rfl, by simp, by simp⟩
    · exact ⟨_, rfl, by simp, by simp⟩
theorem draw7_l (cs : List Int) (kd : Int) : ∀ (q : Nat) (l : List Cell) (a s : Int), l.length + q ≤ 40 → 1 ≤ l.length → Src cs a s →
    Ex (fun k => spec_l07Draw.l0 k kd l (q : Int) cs a s) fun r => r.1.length ≤ 100 ∧ Src cs r.2.1 r.2.2
  | 0, l, a, s, hq, h1, hS => by
    refine Ex.succ ?_
    simp only [spec_l07Draw.l0]
    refine Ex.neg (by omega) (Ex.next hS 5 (by omega) fun v1 a1 s1 hS1 _ _ => Ex.next hS1 5 (by omega) fun v2 a2 s2 hS2 _ _ => ?_)
    refine Ex.bindE (specMove_ev l _ _ (by omega)) ?_
    have hml := moveL_len l (wrap64 ((wrap64 (3 * v1)) - 6)) (wrap64 ((wrap64 (3 * v2)) - 6))
    generalize moveL l (wrap64 ((wrap64 (3 * v1)) - 6)) (wrap64 ((wrap64 (3 * v2)) - 6)) = t at hml ⊢
    refine Ex.next hS2 (t.length : Int) (by omega) fun v3 a3 s3 hS3 g0 g1 => Ex.next hS3 24 (by omega) fun v4 a4 s4 hS4 _ _ => ?_
    have g2 := g1 (by omega)
    have ew : wrap64 ((t.length : Int) - 1) = (t.length : Int) - 1 := w64 (by omega) (by omega)
    simp only [ew]
    refine Ex.if_ (fun _ => Ex.pos g0 (Ex.pos g2 (Ex.now ⟨by simp; omega, hS4⟩))) (fun _ => ?_)
    refine Ex.if_ (fun _ => Ex.pos g0 (Ex.pos g2 (Ex.pos (by omega) (Ex.pos (by omega) (Ex.pos (by omega) (Ex.now ⟨by simp; omega, hS4⟩)))))) (fun _ => ?_)
    refine Ex.if_ (fun _ => Ex.now ⟨by simp, hS4⟩) (fun _ => ?_)
    refine Ex.if_ (fun _ => Ex.pos (by omega) (Ex.bindE (specMove_ev t _ _ (by omega)) (Ex.now ⟨by simp only [moveL_len]; omega, hS4⟩))) (fun _ => Ex.now ⟨by simp only; omega, hS4⟩)
  | q + 1, l, a, s, hq, h1, hS => by
    refine Ex.succ ?_
    simp only [spec_l07Draw.l0]
    have ew : wrap64 (((q + 1 : Nat) : Int) - 1) = (q : Int) := by rw [w64 (by omega) (by omega)]; omega
    simp only [ew]
    refine Ex.pos (by omega) (Ex.next hS (l.length : Int) (by omega) fun v1 a1 s1 hS1 g0 g1 => ?_)
    have g2 := g1 (by omega)
    obtain ⟨L, e, e1, e2⟩ := around7 kd (rd_T59 l v1).f0 (rd_T59 l v1).f1
    refine Ex.pos g0 (Ex.pos g2 (Ex.bind0 e (Ex.next hS1 (L.length : Int) (by omega) fun v2 a2 s2 hS2 p0 p1 => ?_)))
    have p2 := p1 (by omega)
    refine Ex.pos p0 (Ex.pos p2 (Ex.bindE (specIndex_ev l (rd_T59 L v2) (by unfold small; omega)) (Ex.if_ (fun _ => ?_) (fun _ => draw7_l cs kd q l a2 s2 (by omega) h1 hS2))))
    have hi := (insC_perm (rd_T59 L v2) l).length_eq
    rw [List.length_cons] at hi
    exact Ex.bindE (specInsert_ev l (rd_T59 L v2) (by omega)) (draw7_l cs kd q _ a2 s2 (by omega) (by omega) hS2)
theorem draw7_ex {cs : List Int} {a s : Int} (kd : Int) (h : Src cs a s) : Ex (fun k => spec_l07Draw.f k cs a s kd) fun r => r.1.length ≤ 100 ∧ Src cs r.2.1 r.2.2 := by
  unfold spec_l07Draw.f
  refine Ex.next h 2 (by omega) fun v1 a1 s1 h1 _ _ => Ex.bind0 rfl (Ex.pos (by simp only [List.length_cons, List.length_nil]; omega) (Ex.next h1 6 (by omega) fun v2 a2 s2 h2 g0 g1 => ?_))
  have := g1 (by omega)
  obtain ⟨q, rfl⟩ : ∃ q : Nat, v2 = (q : Int) := ⟨v2.toNat, by omega⟩
  exact draw7_l cs kd q _ a2 s2 (by simp; omega) (by simp) h2
theorem draw7Far_ex {cs : List Int} {a s : Int} (kd : Int) (h : Src cs a s) : Ex (fun k => spec_l07DrawFar.f k cs a s kd) fun r => r.1.length ≤ 100 ∧ Src cs r.2.1 r.2.2 := by
  unfold spec_l07DrawFar.f
  refine Ex.next h 24 (by omega) fun v1 a1 s1 h1 _ _ => Ex.if_ (fun _ => Ex.next h1 2 (by omega) fun v2 a2 s2 h2 _ _ => Ex.now ⟨by simp, h2⟩) (fun _ => ?_)
  refine Ex.next h1 24 (by omega) fun v2 a2 s2 h2 _ _ => Ex.if_ (fun _ => Ex.now ⟨by simp, h2⟩) (fun _ => ?_)
  exact Ex.bind (draw7_ex kd h2) fun r hr => Ex.now hr
theorem draw7Turn_ex {cs : List Int} {a s : Int} (h : Src cs a s) : Ex (fun _ => spec_l07DrawTurn.f cs a s) fun r => Src cs r.2.1 r.2.2 := by
  unfold spec_l07DrawTurn.f
  refine Ex.next (f := fun _ => _) h 16 (by omega) fun v1 a1 s1 h1 _ _ => Ex.if_ (fun _ => ?_) (fun _ => ?_)
  · refine Ex.bind0 (f := fun _ => _) rfl (Ex.next (f := fun _ => _) h1 2 (by omega) fun v2 a2 s2 h2 g0 g1 => ?_)
    have := g1 (by omega)
    exact Ex.pos g0 (Ex.pos (by simp only [List.length_cons, List.length_nil]; omega) (Ex.now h2))
  · exact Ex.next (f := fun _ => _) h1 12 (by omega) fun v2 a2 s2 h2 _ _ => Ex.now h2
theorem drawTriForm_ex (cs : List Int) (hl : cs.length ≤ 1000000000000000000) (hb : ∀ x ∈ cs, 0 ≤ x ∧ x ≤ 255) : Ex (fun k => spec_DrawTriangleForm.f k cs) fun r => r.1.length ≤ 100 := by
  unfold spec_DrawTriangleForm.f
  refine Ex.bind (from_ex cs hl hb) fun ⟨c1, a1, s1⟩ ⟨e1, e2, h1⟩ => ?_
  simp only at e1 e2 h1
  subst e1 e2
  refine Ex.bind (draw7Far_ex 0 h1) fun r ⟨hr, h2⟩ => ?_
  exact Ex.bind (draw7Turn_ex h2) fun r2 h3 => Ex.now hr
def triG (l : List Cell) (t : Int) : List Cell := normalT (latL l t)
theorem triG_len (l : List Cell) (t : Int) : (triG l t).length = l.length := by unfold triG; rw [normalT_len, latL_len]
def triGOk (l : List Cell) : Nat → Int → Bool
  | 0, _ => true
  | n + 1, t => shapeB (triG l t) && triGOk l n (t + 1)
def triGS (l : List Cell) : Nat → Int → List (List Cell)
  | 0, _ => []
  | n + 1, t => triG l t :: triGS l n (t + 1)
theorem triGS_len (l : List Cell) : ∀ (n : Nat) (t : Int), (triGS l n t).length = n
  | 0, _ => rfl
  | n + 1, t => by unfold triGS; rw [List.length_cons, triGS_len l n]
theorem triGS_mem (l : List Cell) : ∀ (n : Nat) (t : Int), ∀ x ∈ triGS l n t, x.length = l.length
  | 0, _, x, h => by simp [triGS] at h
  | n + 1, t, x, h => by
    unfold triGS at h
    rcases List.mem_cons.1 h with rfl | h
    · exact triG_len l t
    · exact triGS_mem l n _ x h
theorem specForms0_l (l : List Cell) (hl : l.length ≤ 1048576) (h0 : 0 < l.length) : ∀ (n : Nat) (t : Int) (acc : List (List Cell)) (b : Bool), 0 ≤ t → t + (n : Int) = 12 → acc.length + n ≤ 12 → Ev (fun k => spec_l07Forms.l0 k 0 l acc b t) (acc ++ triGS l n t, b && triGOk l n t)
  | 0, t, acc, b, h1, h2, h3 => by
    refine Ev.succ ?_
    simp only [spec_l07Forms.l0]
    exact Ev.neg (by omega) (Ev.of_eq (Ev.now _) (by simp [triGS, triGOk]))
  | n + 1, t, acc, b, h1, h2, h3 => by
    refine Ev.succ ?_
    simp only [spec_l07Forms.l0]
    have ew : wrap64 (t + 1) = t + 1 := w64 (by omega) (by omega)
    refine Ev.pos (by omega) (Ev.bind (specForm0_ev l t h1 hl h0) ?_)
    have hf : small (normalT (latL l t)) := by have := triG_len l t; unfold triG at this; unfold small; omega
    simp only [ew]
    cases b
    · refine Ev.neg (by simp) (Ev.pos (by omega) (Ev.of_eq (specForms0_l l hl h0 n (t + 1) (acc ++ [triG l t]) false (by omega) (by omega) (by simp; omega)) ?_))
      simp [triGS]
    · refine Ev.pos rfl (Ev.bind (specIsShape_ev _ hf) (Ev.pos (by omega) (Ev.of_eq (specForms0_l l hl h0 n (t + 1) (acc ++ [triG l t]) _ (by omega) (by omega) (by simp; omega)) ?_)))
      simp [triGS, triGOk, triG]
theorem implLeast0_l (l : List Cell) (hl : l.length ≤ 1048576) (h0 : 0 < l.length) : ∀ (n : Nat) (t : Int) (acc : List (List Cell)), 0 ≤ t → t + (n : Int) = 12 → acc.length + n = 12 → (∀ x ∈ acc, small x) → Ev (fun k => impl_leastForm__impl_triangleForm.l0 k l acc t) (if triGOk l n t = true then (minA (acc ++ triGS l n t), true) else ([], false))
  | 0, t, acc, h1, h2, h3, h4 => by
    obtain ⟨c, r, rfl⟩ : ∃ c r, acc = c :: r := by cases acc with | nil => simp at h3 | cons c r => exact ⟨c, r, rfl⟩
    refine Ev.succ ?_
    simp only [impl_leastForm__impl_triangleForm.l0]
    refine Ev.neg (by omega) (Ev.bind (implMin_ev c r (by unfold small; omega) h4) (Ev.of_eq (Ev.now _) ?_))
    simp [triGOk, triGS, minA]
  | n + 1, t, acc, h1, h2, h3, h4 => by
    have ew : wrap64 (t + 1) = t + 1 := w64 (by omega) (by omega)
    have hf : small (normalT (latL l t)) := by have := triG_len l t; unfold triG at this; unfold small; omega
    by_cases hs : shapeB (normalT (latL l t)) = true
    · have hm := implLeast0_l l hl h0 n (t + 1) (acc ++ [normalT (latL l t)]) (by omega) (by omega) (by simp; omega) (fun x hx => by
        rcases List.mem_append.1 hx with hx | hx
        · exact h4 x hx
        · simp at hx; exact hx ▸ hf)
      refine Ev.succ ?_
      simp only [impl_leastForm__impl_triangleForm.l0]
      refine Ev.pos (by omega) (Ev.bind (implTriForm_ev l t h1 hl h0) (Ev.bind (implIsShape_ev _ hf) (Ev.pos hs (Ev.pos (by omega) ?_))))
      simp only [ew]
      refine Ev.of_eq hm ?_
      simp [triGOk, triGS, triG, hs]
    · refine Ev.succ ?_
      simp only [impl_leastForm__impl_triangleForm.l0]
      refine Ev.pos (by omega) (Ev.bind (implTriForm_ev l t h1 hl h0) (Ev.bind (implIsShape_ev _ hf) (Ev.neg hs (Ev.of_eq (Ev.now _) ?_))))
      simp [triGOk, triG, hs]
def triGMin (l : List Cell) : List Cell := minS (triG l 0) (triGS l 11 1)
theorem triGMin_len (l : List Cell) : (triGMin l).length = l.length := by
  have h := minS_mem (triGS l 11 1) (triG l 0)
  rcases List.mem_cons.1 h with h | h
  · unfold triGMin; rw [h, triG_len]
  · exact triGS_mem l 11 1 _ h
end Go.Proofs.Ytlnliahadgmbcaa.L
end
section
namespace Go.Proofs.Ytlnliahadgmbcaa.L
open Go.RowKit Go.Proofs.YtlnliahadgmbcaaW.PrintWords Go.Proofs.YtlnliahadgmbcaaW.PrintLast Go.Proofs.YtlnliahadgmbcaaW.PrintMore Go.Proofs.Ytlnliahadgmbcaa.F
set_option linter.unusedVariables false
set_option linter.unusedSimpArgs false
def triGFree (l : List Cell) : List Cell × Int := if (allTri l && shapeB l) = true then (if triGOk l 12 0 = true then (triGMin l, 0) else ([], 3)) else ([], 1)
theorem triGFree_len (l : List Cell) : (triGFree l).1.length ≤ l.length := by
  unfold triGFree
  split
  · split
    · rw [triGMin_len]; exact Nat.le_refl _
    · simp
  · simp
theorem specTriangleFree_ev (l : List Cell) (hl : l.length ≤ 1048576) : Ev (fun k => spec_TriangleFree.f k l) (triGFree l) := by
  have hs : small l := by unfold small; omega
  unfold spec_TriangleFree.f
  refine Ev.bind (a := triGFree l) ?_ (Ev.now _)
  unfold spec_l07FreeCode.f triGFree
  refine Ev.bind (specShape0_ev l hs) (Ev.if_ (fun h => ?_) (fun _ => Ev.now _))
  have hp : 0 < l.length := shape_pos (by rw [Bool.and_eq_true] at h; exact h.2)
  have hF : Ev (fun k => spec_l07Forms.f k 0 l) (triGS l 12 0, triGOk l 12 0) := by
    unfold spec_l07Forms.f
    exact Ev.of_eq (specForms0_l l hl hp 12 0 [] true (by omega) (by omega) (by simp)) (by simp)
  refine Ev.bind hF (Ev.if_ (fun _ => ?_) (fun _ => Ev.now _))
  simp only [Option.bind_some, List.nil_append, List.length_nil]
  have e12 : triGS l 12 0 = triG l 0 :: triGS l 11 1 := rfl
  have hmem : ∀ x ∈ triG l 0 :: triGS l 11 1, small x := by
    intro x hx
    rw [← e12] at hx
    have := triGS_mem l 12 0 x hx
    unfold small; omega
  simp only [e12]
  refine Ev.bind (specLeastS_ev _ _ (by unfold small; rw [List.length_cons, triGS_len]; omega) hmem) ?_
  have hml := triGMin_len l
  unfold triGMin at hml
  exact Ev.pos (by omega) (Ev.of_eq (Ev.now _) rfl)
theorem implTriangleFree_ev (l : List Cell) (hl : l.length ≤ 1048576) : Ev (fun k => impl_TriangleFree.f k l) (triGFree l) := by
  have hs : small l := by unfold small; omega
  unfold impl_TriangleFree.f triGFree
  refine Ev.bind (implTriShape_ev l hs) (Ev.if_ (fun h => ?_) (fun _ => Ev.now _))
  have hp : 0 < l.length := shape_pos (by rw [Bool.and_eq_true] at h; exact h.2)
  have hL : Ev (fun k => impl_leastForm__impl_triangleForm.f k l) (if triGOk l 12 0 = true then (minA (triGS l 12 0), true) else ([], false)) := by
    unfold impl_leastForm__impl_triangleForm.f
    exact Ev.of_eq (implLeast0_l l hl hp 12 0 [] (by omega) (by omega) (by simp) (fun x hx => by simp at hx)) (by simp)
  by_cases ho : triGOk l 12 0 = true
  · rw [if_pos ho] at hL ⊢
    exact Ev.bind hL (Ev.pos rfl (Ev.of_eq (Ev.now _) rfl))
  · rw [if_neg ho] at hL ⊢
    exact Ev.bind hL (Ev.neg (by simp) (Ev.now _))
end Go.Proofs.Ytlnliahadgmbcaa.L
end
section
namespace Go.Proofs.Ytlnliahadgmbcaa.L
open Go.RowKit Go.Proofs.YtlnliahadgmbcaaW.PrintWords Go.Proofs.YtlnliahadgmbcaaW.PrintLast Go.Proofs.YtlnliahadgmbcaaW.PrintMore Go.Proofs.Ytlnliahadgmbcaa.F
set_option linter.unusedVariables false
set_option linter.unusedSimpArgs false
set_option linter.unusedSectionVars false
def cells (l : List Cell) (h : List Int) : List Cell := h.map fun j => rd_T59 l j
def Sim (l : List Cell) (o h : List Int) : Prop := ∀ j : Int, 0 ≤ j → j < (l.length : Int) → (j ∈ h ↔ 0 ≤ rd o j)
theorem idxC_rd {l : List Cell} {d : Cell} (h : idxC l d ≥ 0) : rd_T59 l (idxC l d) = d := by
  rcases idxC_spec l d with ⟨h1, _⟩ | ⟨j, h1, h2, h3, _⟩
  · omega
  · rw [h2]
    unfold rd_T59
    rw [List.getD_eq_getElem?_getD, Int.toNat_natCast, h3]
    rfl
theorem rd_inj {l : List Cell} (hn : l.Nodup) {i j : Int} (hi : 0 ≤ i ∧ i < (l.length : Int)) (hj : 0 ≤ j ∧ j < (l.length : Int)) (h : rd_T59 l i = rd_T59 l j) : i = j := by
  unfold rd_T59 at h
  rw [List.getD_eq_getElem?_getD, List.getD_eq_getElem?_getD, List.getElem?_eq_getElem (show i.toNat < l.length by omega), List.getElem?_eq_getElem (show j.toNat < l.length by omega)] at h
  have h' : l[i.toNat]'(by omega) = l[j.toNat]'(by omega) := h
  have key := List.pairwise_iff_getElem.1 hn
  rcases Nat.lt_trichotomy i.toNat j.toNat with e | e | e
  · exact absurd h' (key _ _ _ _ e)
  · omega
  · exact absurd h'.symm (key _ _ _ _ e)
theorem kept_iff {l : List Cell} (hn : l.Nodup) {o h : List Int} (hs : Sim l o h) (hr : ∀ j ∈ h, 0 ≤ j ∧ j < (l.length : Int)) {d : Cell} (hd : idxC l d ≥ 0) : idxC (cells l h) d < 0 ↔ rd o (idxC l d) < 0 := by
  have hlt := idxC_lt l d
  have h1 : idxC (cells l h) d ≥ 0 ↔ 0 ≤ rd o (idxC l d) := by
    rw [idxC_mem, ← hs _ hd hlt]
    unfold cells
    rw [List.mem_map]
    constructor
    · rintro ⟨j, hj, e⟩
      have := rd_inj hn (hr j hj) ⟨hd, hlt⟩ (e.trans (idxC_rd hd).symm)
      exact this ▸ hj
    · intro hj
      exact ⟨_, hj, idxC_rd hd⟩
  omega
theorem visit1_sim {l : List Cell} {i : Int} (hi : 0 ≤ i) {s : List Int × List Int} (hf : Fine l s.1 s.2) (p : List Int) (hs : Sim l s.1 (p ++ s.2)) (d : Cell) : Sim l (visit1 l i s d).1 (p ++ (visit1 l i s d).2) := by
  unfold visit1
  by_cases hc : idxC l d ≥ 0 ∧ rd s.1 (idxC l d) < 0
  · rw [if_pos hc]
    have hlt := idxC_lt l d
    have hln := hf.len
    intro j hj hj'
    simp only
    rw [rd_set _ _ _ _ (by omega), ← List.append_assoc, List.mem_append, hs j hj hj']
    by_cases e : j.toNat = (idxC l d).toNat
    · rw [if_pos e]
      have : j = idxC l d := by omega
      simp [this, hi]
    · rw [if_neg e]
      have : ¬ j = idxC l d := fun h => e (by rw [h])
      simp [this]
  · rw [if_neg hc]
    exact hs
theorem visit_sim {l : List Cell} {i : Int} (hi : 0 ≤ i) (p : List Int) : ∀ (ds : List Cell) {s : List Int × List Int}, Fine l s.1 s.2 → Sim l s.1 (p ++ s.2) → Sim l (visit l i ds s).1 (p ++ (visit l i ds s).2)
  | [], s, hf, hs => hs
  | d :: r, s, hf, hs => visit_sim hi p r (visit1_fine hi hf d).1 (visit1_sim hi hf p hs d)
theorem cells_len (l : List Cell) (h : List Int) : (cells l h).length = h.length := by simp [cells]
section
variable (K : Int) (nb : Cell → List Cell) (l : List Cell) (hnb : ∀ c ∈ l, spec_l07Around.f K c.f0 c.f1 = some (nb c)) (hlen : ∀ c, (nb c).length ≤ 16)
include hnb hlen
theorem gr_l1 (hl : l.length ≤ 1048576) (hn : l.Nodup) (xs : List Cell) (hx4 : xs.length ≤ 16) (o p q : List Int) (hf : Fine l o q) (hp : ∀ j ∈ p, 0 ≤ j ∧ j < (l.length : Int)) (hs : Sim l o (p ++ q)) (hb : negs o + (p ++ q).length ≤ l.length) (at_ : Int) {r : Bool}
    (hc : Ev (fun k => spec_l07Connected.l0 k K l (cells l (p ++ (visit l 0 xs (o, q)).2)) (wrap64 (at_ + 1))) r) :
    Ev (fun k => spec_l07Connected.l1 k K l (cells l (p ++ q)) at_ xs 0) r := by
  have hsm : small xs := by unfold small; omega
  have hls : small l := by unfold small; omega
  refine loop_list xs (fun k j (s : List Int × List Int) => spec_l07Connected.l1 k K l (cells l (p ++ s.2)) at_ xs j) (fun _ _ _ => r) (fun pre s => s = visit l 0 pre (o, q)) ?_ ?_ (o, q) rfl
  · rintro s rfl
    simp only [spec_l07Connected.l1, len_lt, if_false]
    exact hc
  · rintro pre d suf s hx rfl ih
    obtain ⟨h1, h2, h3, _⟩ := visit_fine (i := 0) (by omega) pre (s := (o, q)) hf
    have h4 := visit_sim (i := 0) (by omega) p pre (s := (o, q)) hf hs
    simp only at h2 h3
    have hln := h1.len
    have hq : (p ++ (visit l 0 pre (o, q)).2).length ≤ l.length := by
      rw [List.length_append] at hb ⊢
      omega
    simp only [spec_l07Connected.l1, pre_lt hx, pre_0, if_true, at_pre hx, pre_w hx hsm]
    refine Ev.bind (specIndex_ev l d hls) ?_
    by_cases hg : idxC l d ≥ 0
    · refine Ev.pos hg (Ev.bind (specIndex_ev _ d (by unfold small; rw [cells_len]; omega)) ?_)
      have hk := kept_iff hn h4 (fun j hj => by
        rcases List.mem_append.1 hj with hj | hj
        · exact hp j hj
        · exact h1.rng j hj) hg
      by_cases hr : rd (visit l 0 pre (o, q)).1 (idxC l d) < 0
      · refine Ev.pos (hk.2 hr) (Ev.pos (by rw [cells_len]; omega) ?_)
        have e : visit1 l 0 (visit l 0 pre (o, q)) d = ((visit l 0 pre (o, q)).1.set (idxC l d).toNat 0, (visit l 0 pre (o, q)).2 ++ [idxC l d]) := by
          unfold visit1; rw [if_pos ⟨hg, hr⟩]
        have h := ih ((visit l 0 pre (o, q)).1.set (idxC l d).toNat 0, (visit l 0 pre (o, q)).2 ++ [idxC l d]) (by rw [visit_snoc, e])
        have e2 : cells l (p ++ ((visit l 0 pre (o, q)).2 ++ [idxC l d])) = cells l (p ++ (visit l 0 pre (o, q)).2) ++ [(⟨d.f0, d.f1⟩ : Cell)] := by
          unfold cells
          rw [← List.append_assoc, List.map_append (l₂ := [idxC l d])]
          simp [idxC_rd hg]
        rw [← e2]
        exact h
      · refine Ev.neg (fun h => hr (hk.1 h)) (ih _ ?_)
        rw [visit_snoc]
        unfold visit1
        rw [if_neg fun h => hr h.2]
    · refine Ev.neg hg (ih _ ?_)
      rw [visit_snoc]
      unfold visit1
      rw [if_neg fun h => hg h.1]
theorem gr_l0 (hl : l.length ≤ 1048576) (hn : l.Nodup) : ∀ (n : Nat) (o p q : List Int), Fine l o q → (∀ j ∈ p, 0 ≤ j ∧ j < (l.length : Int)) → Sim l o (p ++ q) → negs o + (p ++ q).length = l.length → negs o + q.length ≤ n →
    Ev (fun k => spec_l07Connected.l0 k K l (cells l (p ++ q)) (p.length : Int)) (decide (negs (bfs nb l 0 n o q) = 0)) := by
  intro n
  have done : ∀ (n : Nat) (o p : List Int), negs o + p.length = l.length → Ev (fun k => spec_l07Connected.l0 k K l (cells l (p ++ [])) (p.length : Int)) (decide (negs (bfs nb l 0 n o []) = 0)) := by
    intro n o p hb
    refine Ev.succ ?_
    simp only [spec_l07Connected.l0, List.append_nil, cells_len, bfs_nil]
    refine Ev.neg (by omega) (Ev.of_eq (Ev.now _) ?_)
    rw [Bool.eq_iff_iff, beq_iff_eq, decide_eq_true_eq]
    omega
  induction n with
  | zero =>
    intro o p q hf hp hs hb hm
    obtain rfl : q = [] := List.length_eq_zero_iff.1 (by omega)
    exact done 0 o p (by simpa using hb)
  | succ n ih =>
    intro o p q hf hp hs hb hm
    cases q with
    | nil => exact done (n + 1) o p (by simpa using hb)
    | cons c q =>
      refine Ev.succ ?_
      have hr := hf.rng c List.mem_cons_self
      have hlen' : (p ++ c :: q).length = p.length + (q.length + 1) := by simp
      have e1 : rd_T59 (cells l (p ++ c :: q)) (p.length : Int) = rd_T59 l c := by
        unfold cells
        rw [List.map_append, List.map_cons]
        have := getD_at (p.map fun j => rd_T59 l j) (q.map fun j => rd_T59 l j) (rd_T59 l c) z59
        rw [List.length_map] at this
        exact this
      simp only [spec_l07Connected.l0, e1, cells_len]
      refine Ev.pos (by rw [hlen']; omega) (Ev.pos (by omega) ?_)
      have hmem : rd_T59 l c ∈ l := by
        unfold rd_T59
        rw [List.getD_eq_getElem?_getD, List.getElem?_eq_getElem (show c.toNat < l.length by omega)]
        exact List.getElem_mem _
      simp only [hnb _ hmem, Option.bind_some]
      have hf' : Fine l o q := ⟨hf.len, fun j hj => hf.rng j (List.mem_cons_of_mem _ hj)⟩
      obtain ⟨h1, h2, h3, _⟩ := visit_fine (i := 0) (by omega) (nb (rd_T59 l c)) (s := (o, q)) hf'
      simp only at h2 h3
      have ea : p ++ c :: q = (p ++ [c]) ++ q := by simp
      have ew : wrap64 ((p.length : Int) + 1) = ((p ++ [c]).length : Int) := by
        rw [w64 (by omega) (by omega)]; simp
      rw [ea] at hb hs ⊢
      have hp' : ∀ j ∈ p ++ [c], 0 ≤ j ∧ j < (l.length : Int) := by
        intro j hj
        rcases List.mem_append.1 hj with hj | hj
        · exact hp j hj
        · simp at hj; exact hj ▸ hr
      refine gr_l1 K nb l hnb hlen hl hn _ (hlen _) o (p ++ [c]) q hf' hp' hs (by omega) _ ?_
      rw [ew]
      refine ih _ _ _ h1 hp' (visit_sim (i := 0) (by omega) (p ++ [c]) _ (s := (o, q)) hf' hs) ?_ ?_
      · simp only [List.length_append, List.length_singleton] at hb ⊢
        omega
      · simp only [List.length_cons] at hm
        omega
theorem gr_ev (hl : l.length ≤ 1048576) (h0 : l ≠ []) (hn : l.Nodup) : Ev (fun k => spec_l07Connected.f k K l) (oneB (partsR nb l)) := by
  rw [oneB_first nb l h0]
  unfold spec_l07Connected.f
  have hp := List.length_pos_iff.2 h0
  obtain ⟨hf, hb⟩ := first_fine l h0
  refine Ev.pos (by omega) ?_
  have hs : Sim l ((List.replicate l.length (-1 : Int)).set 0 0) ([] ++ [0]) := by
    intro j hj hj'
    rw [rd_set _ _ _ _ (by simpa using hp)]
    obtain ⟨m, rfl⟩ := Int.eq_ofNat_of_zero_le hj
    rw [rd_rep (by omega)]
    by_cases e : m = 0
    · subst e; simp
    · rw [if_neg (by simpa using e)]; simp [e]
  exact gr_l0 K nb l hnb hlen hl hn l.length _ [] [0] hf (fun j hj => by simp at hj) hs (by simpa using hb) (by simp; omega)
end
end Go.Proofs.Ytlnliahadgmbcaa.L
end
section
namespace Go.Proofs.Ytlnliahadgmbcaa.L
open Go.RowKit Go.Proofs.YtlnliahadgmbcaaW.PrintWords Go.Proofs.Ytlnliahadgmbcaa.F
set_option linter.unusedVariables false
theorem triC_wf {c : Cell} (h : wfC c = true) : ∀ d ∈ triC c, wfC d = true := by
  intro d hd
  unfold triC at hd
  rw [sortC_mem] at hd
  unfold triRaw at hd
  split at hd <;> simp only [List.mem_cons, List.not_mem_nil, or_false] at hd <;> rcases hd with rfl | rfl | rfl <;> simp [wfC, wf_wrap]
end Go.Proofs.Ytlnliahadgmbcaa.L
end
section
namespace Go.Proofs.Ytlnliahadgmbcaa.L
open Go.RowKit Go.Proofs.YtlnliahadgmbcaaW.PrintWords Go.Proofs.YtlnliahadgmbcaaW.PrintLast Go.Proofs.YtlnliahadgmbcaaW.PrintMore Go.Proofs.Ytlnliahadgmbcaa.F
set_option linter.unusedVariables false
set_option linter.unusedSimpArgs false
theorem max_ev (l : List Int) (hs : small l) (h0 : 0 < l.length) (hp : ∀ x ∈ l, 0 ≤ x) : Ev (fun k => slices_Max_int64_int64.f k l) (l.foldl mx 0) := by
  unfold slices_Max_int64_int64.f
  obtain ⟨c, r, rfl⟩ : ∃ c r, l = c :: r := by cases l with | nil => simp at h0 | cons c r => exact ⟨c, r, rfl⟩
  refine Ev.neg (by omega) (Ev.pos (by omega) ?_)
  have h1 : rd (c :: r) 0 = c := rfl
  rw [h1]
  have := loop_tail c r (fun k i (s : Int) => slices_Max_int64_int64.l0 k (c :: r) s i) (fun _ suf s => suf.foldl mx s) (fun _ _ => True) ?_ ?_ c trivial
  · refine Ev.of_eq this ?_
    have hc := hp c List.mem_cons_self
    have : mx 0 c = c := by unfold mx; split <;> omega
    simp [this]
  · rintro s _
    simp only [slices_Max_int64_int64.l0, len_lt, if_false]
    exact Ev.now _
  · rintro pre d suf s hx _ _ ih
    simp only [slices_Max_int64_int64.l0, pre_lt hx, pre_0, if_true, at_preI hx, pre_w hx hs]
    exact ih (mx s d) trivial
theorem foldl_mx : ∀ (l : List Int) (a : Int), 0 ≤ a → (∀ x ∈ l, 0 ≤ x) → 0 ≤ l.foldl mx a ∧ (l.foldl mx a = 0 ↔ a = 0 ∧ oneB l = true)
  | [], a, ha, _ => ⟨ha, by simp [oneB]⟩
  | c :: r, a, ha, h => by
    have hc := h c List.mem_cons_self
    have h1 : 0 ≤ mx a c := by unfold mx; split <;> omega
    obtain ⟨h2, h3⟩ := foldl_mx r (mx a c) h1 (fun x hx => h x (List.mem_cons_of_mem _ hx))
    refine ⟨h2, h3.trans ?_⟩
    have h4 : mx a c = 0 ↔ a = 0 ∧ c = 0 := by unfold mx; split <;> omega
    rw [h4]
    simp [oneB, and_assoc]
theorem pt_l3 (l : List Cell) (hl : l.length ≤ 1048576) (hn : l.Nodup) (i : Int) (hi : 0 ≤ i) (xs : List Cell) (hx4 : xs.length ≤ 16) (hwx : ∀ d ∈ xs, wfC d = true) (o p q : List Int) (hf : Fine l o q) (hb : negs o + (p ++ q).length ≤ l.length) (at_ len_ n_ : Int) {r : List Int}
    (hc : Ev (fun k => impl_parts__impl_trianglesAround.l2 k l (visit l i xs (o, q)).1 i (p ++ (visit l i xs (o, q)).2) (wrap64 (at_ + 1)) len_ n_) r) :
    Ev (fun k => impl_parts__impl_trianglesAround.l3 k l o i (p ++ q) at_ len_ n_ xs (xs.length : Int) 0) r := by
  have hsm : small xs := by unfold small; omega
  refine loop_list xs (fun k j (s : List Int × List Int) => impl_parts__impl_trianglesAround.l3 k l s.1 i (p ++ s.2) at_ len_ n_ xs (xs.length : Int) j) (fun _ _ _ => r) (fun pre s => s = visit l i pre (o, q)) ?_ ?_ (o, q) rfl
  · rintro s rfl
    simp only [impl_parts__impl_trianglesAround.l3, len_lt, if_false]
    exact hc
  · rintro pre d suf s hx rfl ih
    obtain ⟨h1, h2, h3, _⟩ := visit_fine hi pre (s := (o, q)) hf
    simp only at h2 h3
    have hln := h1.len
    have hd : wfC d = true := hwx d (by rw [hx]; simp)
    simp only [impl_parts__impl_trianglesAround.l3, pre_lt hx, pre_0, if_true, at_pre hx, pre_w hx hsm, look_eq l d hn hd, Option.bind_some]
    have hlt := idxC_lt l d
    have hq : (p ++ (visit l i pre (o, q)).2).length ≤ l.length := by
      rw [List.length_append] at hb ⊢
      omega
    by_cases hg : idxC l d ≥ 0
    · simp only [hg, if_true]
      refine Ev.pos (by omega) ?_
      by_cases hr : rd (visit l i pre (o, q)).1 (idxC l d) < 0
      · refine Ev.pos hr (Ev.pos (by omega) ?_)
        have e : visit1 l i (visit l i pre (o, q)) d = ((visit l i pre (o, q)).1.set (idxC l d).toNat i, (visit l i pre (o, q)).2 ++ [idxC l d]) := by
          unfold visit1; rw [if_pos ⟨hg, hr⟩]
        have h := ih ((visit l i pre (o, q)).1.set (idxC l d).toNat i, (visit l i pre (o, q)).2 ++ [idxC l d]) (by rw [visit_snoc, e])
        rw [List.append_assoc]
        exact h
      · refine Ev.neg hr (ih _ ?_)
        rw [visit_snoc]
        unfold visit1
        rw [if_neg fun h => hr h.2]
    · simp only [hg, if_false, Bool.false_eq_true]
      refine ih _ ?_
      rw [visit_snoc]
      unfold visit1
      rw [if_neg fun h => hg h.1]
theorem pt_l2 (l : List Cell) (hl : l.length ≤ 1048576) (hn : l.Nodup) (hw : l.all wfC = true) (i : Int) (hi : 0 ≤ i) (len_ n_ : Int) {r : List Int} : ∀ (n : Nat) (o p q : List Int), Fine l o q → negs o + (p ++ q).length ≤ l.length → negs o + q.length ≤ n →
    Ev (fun k => impl_parts__impl_trianglesAround.l1 k l (bfs triC l i n o q) len_ (wrap64 (n_ + 1))) r → Ev (fun k => impl_parts__impl_trianglesAround.l2 k l o i (p ++ q) (p.length : Int) len_ n_) r := by
  intro n
  induction n with
  | zero =>
    intro o p q hf hb hm hc
    obtain rfl : q = [] := List.length_eq_zero_iff.1 (by omega)
    refine Ev.succ ?_
    simp only [impl_parts__impl_trianglesAround.l2, List.append_nil, len_lt, if_false]
    exact hc
  | succ n ih =>
    intro o p q hf hb hm hc
    refine Ev.succ ?_
    cases q with
    | nil =>
      simp only [impl_parts__impl_trianglesAround.l2, List.append_nil, len_lt, if_false]
      exact hc
    | cons c q =>
      have hr := hf.rng c List.mem_cons_self
      have hlen : (p ++ c :: q).length = p.length + (q.length + 1) := by simp
      have e1 : rd (p ++ c :: q) (p.length : Int) = c := by unfold rd; exact getD_at p q c _
      simp only [impl_parts__impl_trianglesAround.l2, e1]
      refine Ev.pos (by rw [hlen]; omega) (Ev.pos (by omega) (Ev.pos hr.1 (Ev.pos hr.2 ?_)))
      simp only [implTri_eq, Option.bind_some]
      have hf' : Fine l o q := ⟨hf.len, fun j hj => hf.rng j (List.mem_cons_of_mem _ hj)⟩
      have hwc : wfC (rd_T59 l c) = true := by
        refine List.all_eq_true.1 hw _ ?_
        unfold rd_T59
        rw [List.getD_eq_getElem?_getD, List.getElem?_eq_getElem (show c.toNat < l.length by omega)]
        exact List.getElem_mem _
      obtain ⟨h1, h2, h3, _⟩ := visit_fine hi (triC (rd_T59 l c)) (s := (o, q)) hf'
      have ea : p ++ c :: q = (p ++ [c]) ++ q := by simp
      have ew : wrap64 ((p.length : Int) + 1) = ((p ++ [c]).length : Int) := by
        rw [w64 (by omega) (by omega)]; simp
      rw [ea] at hb ⊢
      refine pt_l3 l hl hn i hi (triC (rd_T59 l c)) (triC_len _) (triC_wf hwc) o (p ++ [c]) q hf' hb _ _ _ ?_
      rw [ew]
      refine ih _ _ _ h1 ?_ ?_ hc
      · simp only [List.length_append, List.length_singleton] at hb ⊢
        simp only at h2 h3
        omega
      · simp only [List.length_cons] at hm
        simp only at h2
        omega
theorem pt_ev (l : List Cell) (hl : l.length ≤ 1048576) (hn : l.Nodup) (hw : l.all wfC = true) : Ev (fun k => impl_parts__impl_trianglesAround.f k l) (partsR triC l) := by
  have hs : small l := by unfold small; omega
  unfold impl_parts__impl_trianglesAround.f
  refine Ev.pos hw (Ev.pos (by omega) (Ev.pos (by omega) ?_))
  have hz := loop_list l (fun k i (s : List Int) => impl_parts__impl_trianglesAround.l0 k l s l (l.length : Int) i) (fun _ _ _ => partsR triC l) (fun pre s => s = List.replicate pre.length (-1) ++ List.replicate (l.length - pre.length) 0) ?_ ?_ (List.replicate (l.length : Int).toNat 0) (by simp)
  · exact hz
  · rintro s rfl
    simp only [impl_parts__impl_trianglesAround.l0, len_lt, if_false, Nat.sub_self, List.replicate_zero, List.append_nil]
    have := loop_list l (fun k i (s : List Int) => impl_parts__impl_trianglesAround.l1 k l s (l.length : Int) i) (fun pre suf s => partsF triC l (pre.length : Int) suf s) (fun pre s => s.length = l.length ∧ ∀ j : Nat, j < pre.length → 0 ≤ rd s (j : Int)) ?_ ?_ (List.replicate l.length (-1)) ⟨by simp, fun j hj => by simp at hj⟩
    · exact this
    · rintro s _
      simp only [impl_parts__impl_trianglesAround.l1, len_lt, if_false]
      exact Ev.now _
    · rintro pre c suf s hx ⟨h1, h2⟩ ih
      have hp := pre_len hx
      obtain ⟨h3, h4⟩ := step_next (nb := triC) (l := l) (o := s) (i := pre.length) h1 hp h2
      have hlt : ((pre.length : Int) < (s.length : Int)) = True := by rw [h1]; exact pre_lt hx
      simp only [impl_parts__impl_trianglesAround.l1, pre_lt hx, pre_0, if_true, hlt, pre_w hx hs, Int.toNat_natCast]
      have hih := ih _ ⟨h3, by simpa using h4⟩
      unfold partsF
      rw [Int.toNat_natCast]
      have ee : ((pre ++ [c]).length : Int) = (pre.length : Int) + 1 := by simp
      rw [ee] at hih
      by_cases hg : rd s (pre.length : Int) ≥ 0
      · rw [if_pos hg] at hih ⊢
        exact Ev.pos hg hih
      · rw [if_neg hg] at hih ⊢
        refine Ev.neg hg ?_
        obtain ⟨h5, h6⟩ := step_fine h1 hp hg
        have e0 : ([(pre.length : Int)] : List Int) = [] ++ [(pre.length : Int)] := rfl
        have := pt_l2 l hl hn hw (pre.length : Int) (by omega) (l.length : Int) (pre.length : Int) (r := partsF triC l ((pre.length : Int) + 1) suf (bfs triC l (pre.length : Int) l.length (s.set pre.length (pre.length : Int)) [(pre.length : Int)])) l.length (s.set pre.length (pre.length : Int)) [] [(pre.length : Int)] h5 (by simpa using h6) (by simpa using h6) (by
          rw [pre_w hx hs]; exact hih)
        exact this
  · rintro pre c suf s hx rfl ih
    have hp := pre_len hx
    have hlt : ((pre.length : Int) < ((List.replicate pre.length (-1 : Int) ++ List.replicate (l.length - pre.length) 0).length : Int)) = True := by simp; omega
    simp only [impl_parts__impl_trianglesAround.l0, pre_lt hx, pre_0, if_true, hlt, pre_w hx hs, Int.toNat_natCast]
    refine ih _ ?_
    have e : l.length - pre.length = (l.length - (pre.length + 1)) + 1 := by omega
    simp only [List.length_append, List.length_singleton]
    rw [e, List.replicate_succ, List.set_append_right _ _ (by simp)]
    simp [List.replicate_succ', List.append_assoc]
theorem pt_conn (l : List Cell) (hl : l.length ≤ 1048576) (h0 : l ≠ []) (hn : l.Nodup) (hw : l.all wfC = true) : Ev (fun k => impl_connected__impl_trianglesAround.f k l) (oneB (partsR triC l)) := by
  unfold impl_connected__impl_trianglesAround.f
  have hln := partsR_len triC l
  have hp := partsR_pos triC l
  have hpos : 0 < (partsR triC l).length := by rw [hln]; exact List.length_pos_iff.2 h0
  refine Ev.bind (pt_ev l hl hn hw) (Ev.bind (max_ev _ (by unfold small; omega) hpos hp) (Ev.of_eq (Ev.now _) ?_))
  have h := (foldl_mx (partsR triC l) 0 (Int.le_refl _) hp).2
  rw [Bool.eq_iff_iff, beq_iff_eq, h]
  simp
end Go.Proofs.Ytlnliahadgmbcaa.L
end
section
namespace Go.Proofs.Ytlnliahadgmbcaa.L
open Go.RowKit Go.Proofs.YtlnliahadgmbcaaW.PrintWords Go.Proofs.YtlnliahadgmbcaaW.PrintLast Go.Proofs.YtlnliahadgmbcaaW.PrintMore Go.Proofs.Ytlnliahadgmbcaa.F
set_option linter.unusedVariables false
set_option linter.unusedSimpArgs false
theorem shape_fine {l : List Cell} (h : shapeB l = true) : l ≠ [] ∧ l.Nodup ∧ l.all wfC = true ∧ l.length ≤ 1048576 := by
  obtain ⟨h1, h2, h3, h4⟩ := shapeB_iff.1 h
  refine ⟨shape_ne h, h2.imp fun {a b} hab e => ?_, List.all_eq_true.2 fun c hc => wfC_ok (h1 c hc), by omega⟩
  subst e
  unfold ltC at hab
  omega
def triB (l : List Cell) : Bool × Bool := if allTri l && shapeB l then (true, oneB (partsR triC l)) else (false, false)
theorem specTriShape_ev (l : List Cell) (hs : small l) : Ev (fun k => spec_IsTriangleShape.f k l) (triB l) := by
  unfold spec_IsTriangleShape.f triB
  refine Ev.bind (specShape0_ev l hs) (Ev.if_ (fun h => ?_) (fun _ => Ev.now _))
  rw [Bool.and_eq_true] at h
  obtain ⟨h1, h2, h3, h4⟩ := shape_fine h.2
  have ho := (shapeB_iff.1 h.2).1
  have ht : ∀ c ∈ l, triX c := fun c hc => by simpa using List.all_eq_true.1 h.1 c hc
  exact Ev.bind (gr_ev 0 triC l (fun c hc => specTri_eq (ho c hc) (ht c hc)) triC_len h4 h1 h2) (Ev.now _)
theorem implTriShapeC_ev (l : List Cell) (hs : small l) : Ev (fun k => impl_IsTriangleShape.f k l) (triB l) := by
  unfold impl_IsTriangleShape.f triB
  refine Ev.bind (implTriShape_ev l hs) (Ev.if_ (fun h => ?_) (fun _ => Ev.now _))
  rw [Bool.and_eq_true] at h
  obtain ⟨h1, h2, h3, h4⟩ := shape_fine h.2
  exact Ev.bind (pt_conn l h4 h1 h2 h3) (Ev.now _)
end Go.Proofs.Ytlnliahadgmbcaa.L
end
section
namespace Go.Proofs.Ytlnliahadgmbcaa.L
open Go.RowKit Go.Proofs.YtlnliahadgmbcaaW.PrintWords Go.Proofs.YtlnliahadgmbcaaW.PrintLast Go.Proofs.YtlnliahadgmbcaaW.PrintMore Go.Proofs.Ytlnliahadgmbcaa.F
set_option linter.unusedVariables false
set_option linter.unusedSimpArgs false
theorem triGOk_iff (l : List Cell) : ∀ (n : Nat) (t : Int), triGOk l n t = true ↔ ∀ j : Nat, j < n → shapeB (triG l (t + (j : Int))) = true
  | 0, t => ⟨fun _ j hj => by omega, fun _ => rfl⟩
  | n + 1, t => by
    unfold triGOk
    rw [Bool.and_eq_true, triGOk_iff l n (t + 1)]
    constructor
    · rintro ⟨h1, h2⟩ j hj
      cases j with
      | zero => simpa using h1
      | succ j =>
        have := h2 j (by omega)
        rw [show t + ((j + 1 : Nat) : Int) = t + 1 + (j : Int) by omega]
        exact this
    · intro h
      refine ⟨by simpa using h 0 (by omega), fun j hj => ?_⟩
      have := h (j + 1) (by omega)
      rw [show t + ((j + 1 : Nat) : Int) = t + 1 + (j : Int) by omega] at this
      exact this
theorem triGS_iff (l : List Cell) (x : List Cell) : ∀ (n : Nat) (t : Int), x ∈ triGS l n t ↔ ∃ j : Nat, j < n ∧ x = triG l (t + (j : Int))
  | 0, t => by simp [triGS]
  | n + 1, t => by
    unfold triGS
    rw [List.mem_cons, triGS_iff l x n (t + 1)]
    constructor
    · rintro (h | ⟨j, hj, h⟩)
      · exact ⟨0, by omega, by simpa using h⟩
      · exact ⟨j + 1, by omega, by rw [h]; congr 1; omega⟩
    · rintro ⟨j, hj, h⟩
      cases j with
      | zero => exact .inl (by simpa using h)
      | succ j => exact .inr ⟨j, by omega, by rw [h]; congr 1; omega⟩
theorem triAll_iff (l : List Cell) (x : List Cell) : x ∈ triG l 0 :: triGS l 11 1 ↔ ∃ u : Nat, u < 12 ∧ x = triG l (u : Int) := by
  have := triGS_iff l x 12 0
  have e : triGS l 12 0 = triG l 0 :: triGS l 11 1 := rfl
  rw [e] at this
  rw [this]
  constructor
  · rintro ⟨j, hj, h⟩; exact ⟨j, hj, by rw [h]; congr 1; omega⟩
  · rintro ⟨j, hj, h⟩; exact ⟨j, hj, by rw [h]; congr 1; omega⟩
theorem tri_form {l : List Cell} (hs : shapeB l = true) (ha : allTri l = true) {t : Nat} (ht : t < 12) (hx : shapeB (triG l (t : Int)) = true) (hok : triGOk l 12 0 = true) :
    allTri (triG l (t : Int)) = true ∧ oneB (partsR triC (triG l (t : Int))) = oneB (partsR triC l) ∧ triGOk (triG l (t : Int)) 12 0 = true ∧ triGMin (triG l (t : Int)) = triGMin l ∧ cmpS (triGMin l) (triG l (t : Int)) ≤ 0 := by
  have hx0 : shapeB (normalT (latL l (t : Int))) = true := hx
  obtain ⟨w, φ, hw, hm, hφ⟩ := lform_move normalT_nf hs t
  have hA := mat2_mem ht
  have htri : ∀ c ∈ l, triX c := fun c hc => by simpa using List.all_eq_true.1 ha c hc
  have hnear (c : Cell) (hc : c ∈ l) : nearC 1000 c := by
    have := shape_box hs c hc
    unfold boxP toP at this
    unfold nearC
    simp only at this; omega
  have hnearx (c : Cell) (hc : c ∈ triG l (t : Int)) : nearC 1000 c := by
    have := shape_box hx c hc
    unfold boxP toP at this
    unfold nearC
    simp only at this; omega
  have hmem (y : Cell) : y ∈ triG l (t : Int) ↔ ∃ c ∈ l, φ c = y := hm.mem y
  have htx : ∀ c ∈ l, triX (φ c) := fun c hc => by
    have h1 := (mats2_adjT hA (p := toP c) (q := toP c) (htri c hc)).1
    have h2 := (adjT_shift (p := app2 (mat2 t) (toP c)) (q := toP c) hw.1 hw.2).1.1 h1
    rw [← hm.val c hc] at h2
    exact h2
  have hall : allTri (triG l (t : Int)) = true := List.all_eq_true.2 fun y hy => by
    obtain ⟨c, hc, rfl⟩ := (hmem y).1 hy
    simpa using htx c hc
  have hsym (s : List Cell) (h1 : ∀ c ∈ s, triX c) (h2 : ∀ c ∈ s, nearC 1000 c) : ∀ c ∈ s, ∀ d ∈ s, d ∈ triC c → c ∈ triC d := fun c hc d hd hcd =>
    (triC_adj (h2 d hd)).2 (triAdj_sym (h1 c hc) ((triC_adj (h2 c hc)).1 hcd)).2
  have hshape (s u : Nat) (hsu : mul2 (mat2 s) (mat2 t) = mat2 u) (hs12 : s < 12) : triG (triG l (t : Int)) (s : Int) = triG l (u : Int) := lform_form normalT_nf hs hs12 hx hsu
  have hokl (u : Nat) (hu : u < 12) : shapeB (triG l (u : Int)) = true := by
    have := (triGOk_iff l 12 0).1 hok u hu
    rwa [show (0 : Int) + (u : Int) = (u : Int) by omega] at this
  refine ⟨hall, ?_, ?_, ?_, ?_⟩
  · rw [Bool.eq_iff_iff, oneB_conn (shape_ne hx) (shape_nodup hx) (hsym _ (fun c hc => by simpa using List.all_eq_true.1 hall c hc) hnearx), oneB_conn (shape_ne hs) (shape_nodup hs) (hsym l htri hnear)]
    refine (conn_map (hm.inj hA) (fun c hc d hd => ?_) hmem).symm
    rw [triC_adj (hnear c hc), triC_adj (hnearx _ ((hmem _).2 ⟨c, hc, rfl⟩))]
    have h1 := (mats2_adjT hA (p := toP c) (q := toP d) (htri c hc)).2
    have h2 := (adjT_shift (p := app2 (mat2 t) (toP c)) (q := app2 (mat2 t) (toP d)) hw.1 hw.2).2
    rw [← hm.val c hc, ← hm.val d hd] at h2
    exact h1.trans h2
  · refine (triGOk_iff _ 12 0).2 fun s hs12 => ?_
    rw [show (0 : Int) + (s : Int) = (s : Int) by omega]
    obtain ⟨u, hu, e⟩ := mats2_at (mats2_mul _ (mat2_mem hs12) _ hA)
    rw [hshape s u e.symm hs12]
    exact hokl u hu
  · have hlen (u : Nat) : (triG l (u : Int)).length = l.length := triG_len l _
    refine minS_eq l.length (fun x hx' => ?_) (fun x hx' => ?_) (fun x hx' => ?_) (fun x hx' => ?_)
    · obtain ⟨u, _, rfl⟩ := (triAll_iff _ x).1 hx'
      rw [triG_len, triG_len]
    · obtain ⟨u, _, rfl⟩ := (triAll_iff _ x).1 hx'
      rw [triG_len]
    · obtain ⟨s, hs12, rfl⟩ := (triAll_iff _ x).1 hx'
      obtain ⟨u, hu, e⟩ := mats2_at (mats2_mul _ (mat2_mem hs12) _ hA)
      exact (triAll_iff l _).2 ⟨u, hu, hshape s u e.symm hs12⟩
    · obtain ⟨u, hu, rfl⟩ := (triAll_iff _ x).1 hx'
      obtain ⟨B, hB, eB⟩ := mats2_div hA (mat2_mem hu)
      obtain ⟨s, hs12, rfl⟩ := mats2_at hB
      exact (triAll_iff _ _).2 ⟨s, hs12, (hshape s u eB hs12).symm⟩
  · refine minS_le l.length (triGS l 11 1) (triG l 0) (triG_len l 0) (fun x hx' => ?_) _ ((triAll_iff l _).2 ⟨t, ht, rfl⟩)
    exact triGS_mem l 11 1 x hx'
end Go.Proofs.Ytlnliahadgmbcaa.L
namespace Go.Proofs.Ytlnliahadgmbcaa.Pure
open Go.RowKit Go.Proofs.YtlnliahadgmbcaaW.PrintWords Go.Proofs.Ytlnliahadgmbcaa.F Go.Proofs.Ytlnliahadgmbcaa.L
set_option linter.unusedVariables false
theorem FnTriangleForms (l0 : List Int) (hv0 : l0.length ≤ 9223372036854775807 ∧ ∀ x ∈ l0, (Lit.int .u8 x).wf = true) : ∃ k, laws_FnTriangleForms.f k l0 = some true := by
  refine Ev.rounds ?_
  obtain ⟨hm, hv⟩ := hv0
  have hb : ∀ x ∈ l0, 0 ≤ x ∧ x ≤ 255 := fun x hx => by
    have := hv x hx
    have m0 : IntKind.u8.min = 0 := by decide
    have m1 : IntKind.u8.max = 255 := by decide
    simp [Lit.wf, m0, m1] at this
    omega
  unfold laws_FnTriangleForms.f
  refine Ev.bind0 rfl ?_
  by_cases hbig : (l0.length : Int) > 4096
  · exact Ev.pos (by simpa using hbig) (Ev.now _)
  refine Ev.neg (by simpa using hbig) ?_
  obtain ⟨⟨l, t⟩, e1, q1⟩ := drawTriForm_ex l0 (by omega) hb
  simp only at q1
  have hs : small l := by unfold small; omega
  have c1 : small (triFR l t).1 := by
    have := formR_len (allTri l && shapeB l) (normalT (latL l t)) t
    rw [normalT_len, latL_len] at this
    unfold triFR small; omega
  have c2 : small (triGFree l).1 := by have := triGFree_len l; unfold small; omega
  refine Ev.bind e1 (Ev.bind (implTriFormC_ev l t (by omega)) (Ev.bind (specTriFormC_ev l t (by omega)) (Ev.bind (implTriangleFree_ev l (by omega)) (Ev.bind (specTriangleFree_ev l (by omega)) (Ev.bind (implTriShapeC_ev l hs) (Ev.bind (specTriShape_ev l hs) ?_))))))
  refine Ev.pos rfl (Ev.bind (likeCC_ev _ c1) (Ev.pos rfl (Ev.pos rfl (Ev.bind (likeCC_ev _ c2) (Ev.pos rfl (Ev.neg (by simp) ?_))))))
  refine Ev.step (fun k => laws_FnTriangleForms.j0.eq_2 _ _ _ _ _ _ _) (Ev.neg (by simp) ?_)
  have j1t : ∀ (x f : List Cell) (b : Bool), Ev (fun k => laws_FnTriangleForms.j1 k x f b true) true := fun x f b => Ev.step (fun k => laws_FnTriangleForms.j1.eq_2 _ _ _ _ _) (Ev.pos rfl (Ev.now _))
  by_cases hz : (triFR l t).2 = 0
  · refine Ev.pos hz ?_
    by_cases hz2 : (triGFree l).2 = 0
    · have hfacts : (allTri l && shapeB l) = true ∧ (0 ≤ t ∧ t ≤ 11) ∧ shapeB (normalT (latL l t)) = true := by
        unfold triFR formR at hz
        by_cases h1 : (allTri l && shapeB l) = true
        · rw [if_pos h1] at hz
          by_cases h2 : 0 ≤ t ∧ t ≤ 11
          · rw [if_pos h2] at hz
            by_cases h3 : shapeB (normalT (latL l t)) = true
            · exact ⟨h1, h2, h3⟩
            · rw [if_neg h3] at hz; simp at hz
          · rw [if_neg h2] at hz; simp at hz
        · rw [if_neg h1] at hz; simp at hz
      obtain ⟨h1, h2, h3⟩ := hfacts
      have h1' := h1
      rw [Bool.and_eq_true] at h1'
      have hok : triGOk l 12 0 = true := by
        unfold triGFree at hz2
        rw [if_pos h1] at hz2
        by_cases h4 : triGOk l 12 0 = true
        · exact h4
        · rw [if_neg h4] at hz2; simp at hz2
      obtain ⟨n, rfl⟩ : ∃ n : Nat, t = (n : Int) := ⟨t.toNat, by omega⟩
      obtain ⟨f1, f2, f3, f4, f5⟩ := tri_form h1'.2 h1'.1 (t := n) (by omega) h3 hok
      have hx : (triFR l (n : Int)).1 = triG l (n : Int) := by
        unfold triFR formR
        rw [if_pos h1, if_pos h2, if_pos h3]
        rfl
      have hxl := triG_len l (n : Int)
      have hxs : small (triG l (n : Int)) := by unfold small; omega
      have hb2 : (allTri (triG l (n : Int)) && shapeB (triG l (n : Int))) = true := by rw [Bool.and_eq_true]; exact ⟨f1, h3⟩
      have r1 : triB (triG l (n : Int)) = (true, oneB (partsR triC l)) := by unfold triB; rw [if_pos hb2, f2]
      have r2 : triB l = (true, oneB (partsR triC l)) := by unfold triB; rw [if_pos h1]
      have r3 : triGFree (triG l (n : Int)) = (triGMin l, 0) := by unfold triGFree; rw [if_pos hb2, if_pos f3, f4]
      have r4 : triGFree l = (triGMin l, 0) := by unfold triGFree; rw [if_pos h1, if_pos hok]
      have hml := triGMin_len l
      have hms : small (triGMin l) := by unfold small; omega
      rw [hx, hz2]
      refine Ev.step (fun k => laws_FnTriangleForms.j1.eq_2 _ _ _ _ _) (Ev.neg (by simp) ?_)
      refine Ev.bind (implTriShapeC_ev _ hxs) (Ev.bind (implTriangleFree_ev _ (by omega)) ?_)
      rw [r1, r2, r3, r4]
      refine Ev.pos rfl (Ev.pos (by simp) (Ev.pos rfl (Ev.bind (likeCC_ev _ hms) (Ev.pos rfl ?_))))
      have hcmp : Ev (fun k => impl_CompareShapes.f k (triGMin l) (triG l (n : Int))) (cmpS (triGMin l) (triG l (n : Int))) := by
        unfold impl_CompareShapes.f
        exact Ev.bind (implCompareS_ev _ _ hms) (Ev.now _)
      exact Ev.bind hcmp (Ev.of_eq (Ev.now _) (by simpa using f5))
    · have e : ((triGFree l).2 != 0) = true := by simpa using hz2
      rw [e]
      exact j1t _ _ _
  · exact Ev.neg hz (j1t _ _ _)
end Go.Proofs.Ytlnliahadgmbcaa.Pure
end
