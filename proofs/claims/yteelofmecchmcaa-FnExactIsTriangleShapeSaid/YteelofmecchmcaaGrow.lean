/- The specification's search from the first cell, where it keeps the cells themselves. -/
import Derived.Test.YteelofmecchmcaaBfsOne
import Derived.Test.YteelofmecchmcaaFx0
import Derived.Test.YteelofmecchmcaaFx20
import Derived.Test.YteelofmecchmcaaFx5
namespace Go.Proofs.Yteelofmecchmcaa.L
open Go.RowKit Go.Proofs.YteelofmecchmcaaW.PrintWords Go.Proofs.YteelofmecchmcaaW.PrintLast Go.Proofs.YteelofmecchmcaaW.PrintMore Go.Proofs.Yteelofmecchmcaa.F
set_option linter.unusedVariables false
set_option linter.unusedSimpArgs false
set_option linter.unusedSectionVars false

def cells (l : List Cell) (h : List Int) : List Cell := h.map fun j => rd_T27 l j
/-- What is kept and what is marked are the same. -/
def Sim (l : List Cell) (o h : List Int) : Prop := ∀ j : Int, 0 ≤ j → j < (l.length : Int) → (j ∈ h ↔ 0 ≤ rd o j)
theorem idxC_rd {l : List Cell} {d : Cell} (h : idxC l d ≥ 0) : rd_T27 l (idxC l d) = d := by
  rcases idxC_spec l d with ⟨h1, _⟩ | ⟨j, h1, h2, h3, _⟩
  · omega
  · rw [h2]
    unfold rd_T27
    rw [List.getD_eq_getElem?_getD, Int.toNat_natCast, h3]
    rfl
theorem rd_inj {l : List Cell} (hn : l.Nodup) {i j : Int} (hi : 0 ≤ i ∧ i < (l.length : Int)) (hj : 0 ≤ j ∧ j < (l.length : Int)) (h : rd_T27 l i = rd_T27 l j) : i = j := by
  unfold rd_T27 at h
  rw [List.getD_eq_getElem?_getD, List.getD_eq_getElem?_getD, List.getElem?_eq_getElem (show i.toNat < l.length by omega), List.getElem?_eq_getElem (show j.toNat < l.length by omega)] at h
  have h' : l[i.toNat]'(by omega) = l[j.toNat]'(by omega) := h
  have key := List.pairwise_iff_getElem.1 hn
  rcases Nat.lt_trichotomy i.toNat j.toNat with e | e | e
  · exact absurd h' (key _ _ _ _ e)
  · omega
  · exact absurd h'.symm (key _ _ _ _ e)
/-- Whether a cell of the list is kept. -/
theorem kept_iff {l : List Cell} (hn : l.Nodup) {o h : List Int} (hs : Sim l o h) (hr : ∀ j ∈ h, 0 ≤ j ∧ j < (l.length : Int)) {d : Cell} (hd : idxC l d ≥ 0) : idxC (cells l h) d < 0 ↔ rd o (idxC l d) < 0 := by
  have hlt := idxC_lt l d
  have h1 : idxC (cells l h) d ≥ 0 ↔ 0 ≤ rd o (idxC l d) := by
    rw [idxC_mem, ← hs _ hd hlt]
    unfold cells
    rw [List.mem_map]
    constructor
    · rintro ⟨j, hj, e⟩
      have := rd_inj hn (hr j hj) ⟨hd, hlt⟩ (e.trans (idxC_rd hd).symm)
      exact this ▸ hj
    · intro hj
      exact ⟨_, hj, idxC_rd hd⟩
  omega
theorem visit1_sim {l : List Cell} {i : Int} (hi : 0 ≤ i) {s : List Int × List Int} (hf : Fine l s.1 s.2) (p : List Int) (hs : Sim l s.1 (p ++ s.2)) (d : Cell) : Sim l (visit1 l i s d).1 (p ++ (visit1 l i s d).2) := by
  unfold visit1
  by_cases hc : idxC l d ≥ 0 ∧ rd s.1 (idxC l d) < 0
  · rw [if_pos hc]
    have hlt := idxC_lt l d
    have hln := hf.len
    intro j hj hj'
    simp only
    rw [rd_set _ _ _ _ (by omega), ← List.append_assoc, List.mem_append, hs j hj hj']
    by_cases e : j.toNat = (idxC l d).toNat
    · rw [if_pos e]
      have : j = idxC l d := by omega
      simp [this, hi]
    · rw [if_neg e]
      have : ¬ j = idxC l d := fun h => e (by rw [h])
      simp [this]
  · rw [if_neg hc]
    exact hs
theorem visit_sim {l : List Cell} {i : Int} (hi : 0 ≤ i) (p : List Int) : ∀ (ds : List Cell) {s : List Int × List Int}, Fine l s.1 s.2 → Sim l s.1 (p ++ s.2) → Sim l (visit l i ds s).1 (p ++ (visit l i ds s).2)
  | [], s, hf, hs => hs
  | d :: r, s, hf, hs => visit_sim hi p r (visit1_fine hi hf d).1 (visit1_sim hi hf p hs d)
theorem cells_len (l : List Cell) (h : List Int) : (cells l h).length = h.length := by simp [cells]
section
variable (K : Int) (nb : Cell → List Cell) (l : List Cell) (hnb : ∀ c ∈ l, spec_l07Around.f K c.f0 c.f1 = some (nb c)) (hlen : ∀ c, (nb c).length ≤ 16)
include hnb hlen
theorem gr_l1 (hl : l.length ≤ 1048576) (hn : l.Nodup) (xs : List Cell) (hx4 : xs.length ≤ 16) (o p q : List Int) (hf : Fine l o q) (hp : ∀ j ∈ p, 0 ≤ j ∧ j < (l.length : Int)) (hs : Sim l o (p ++ q)) (hb : negs o + (p ++ q).length ≤ l.length) (at_ : Int) {r : Bool}
    (hc : Ev (fun k => spec_l07Connected.l0 k K l (cells l (p ++ (visit l 0 xs (o, q)).2)) (wrap64 (at_ + 1))) r) :
    Ev (fun k => spec_l07Connected.l1 k K l (cells l (p ++ q)) at_ xs 0) r := by
  have hsm : small xs := by unfold small; omega
  have hls : small l := by unfold small; omega
  refine loop_list xs (fun k j (s : List Int × List Int) => spec_l07Connected.l1 k K l (cells l (p ++ s.2)) at_ xs j) (fun _ _ _ => r) (fun pre s => s = visit l 0 pre (o, q)) ?_ ?_ (o, q) rfl
  · rintro s rfl
    simp only [spec_l07Connected.l1, len_lt, if_false]
    exact hc
  · rintro pre d suf s hx rfl ih
    obtain ⟨h1, h2, h3, _⟩ := visit_fine (i := 0) (by omega) pre (s := (o, q)) hf
    have h4 := visit_sim (i := 0) (by omega) p pre (s := (o, q)) hf hs
    simp only at h2 h3
    have hln := h1.len
    have hq : (p ++ (visit l 0 pre (o, q)).2).length ≤ l.length := by
      rw [List.length_append] at hb ⊢
      omega
    simp only [spec_l07Connected.l1, pre_lt hx, pre_0, if_true, at_pre hx, pre_w hx hsm]
    refine Ev.bind (specIndex_ev l d hls) ?_
    by_cases hg : idxC l d ≥ 0
    · refine Ev.pos hg (Ev.bind (specIndex_ev _ d (by unfold small; rw [cells_len]; omega)) ?_)
      have hk := kept_iff hn h4 (fun j hj => by
        rcases List.mem_append.1 hj with hj | hj
        · exact hp j hj
        · exact h1.rng j hj) hg
      by_cases hr : rd (visit l 0 pre (o, q)).1 (idxC l d) < 0
      · refine Ev.pos (hk.2 hr) (Ev.pos (by rw [cells_len]; omega) ?_)
        have e : visit1 l 0 (visit l 0 pre (o, q)) d = ((visit l 0 pre (o, q)).1.set (idxC l d).toNat 0, (visit l 0 pre (o, q)).2 ++ [idxC l d]) := by
          unfold visit1; rw [if_pos ⟨hg, hr⟩]
        have h := ih ((visit l 0 pre (o, q)).1.set (idxC l d).toNat 0, (visit l 0 pre (o, q)).2 ++ [idxC l d]) (by rw [visit_snoc, e])
        have e2 : cells l (p ++ ((visit l 0 pre (o, q)).2 ++ [idxC l d])) = cells l (p ++ (visit l 0 pre (o, q)).2) ++ [(⟨d.f0, d.f1⟩ : Cell)] := by
          unfold cells
          rw [← List.append_assoc, List.map_append (l₂ := [idxC l d])]
          simp [idxC_rd hg]
        rw [← e2]
        exact h
      · refine Ev.neg (fun h => hr (hk.1 h)) (ih _ ?_)
        rw [visit_snoc]
        unfold visit1
        rw [if_neg fun h => hr h.2]
    · refine Ev.neg hg (ih _ ?_)
      rw [visit_snoc]
      unfold visit1
      rw [if_neg fun h => hg h.1]
theorem gr_l0 (hl : l.length ≤ 1048576) (hn : l.Nodup) : ∀ (n : Nat) (o p q : List Int), Fine l o q → (∀ j ∈ p, 0 ≤ j ∧ j < (l.length : Int)) → Sim l o (p ++ q) → negs o + (p ++ q).length = l.length → negs o + q.length ≤ n →
    Ev (fun k => spec_l07Connected.l0 k K l (cells l (p ++ q)) (p.length : Int)) (decide (negs (bfs nb l 0 n o q) = 0)) := by
  intro n
  have done : ∀ (n : Nat) (o p : List Int), negs o + p.length = l.length → Ev (fun k => spec_l07Connected.l0 k K l (cells l (p ++ [])) (p.length : Int)) (decide (negs (bfs nb l 0 n o []) = 0)) := by
    intro n o p hb
    refine Ev.succ ?_
    simp only [spec_l07Connected.l0, List.append_nil, cells_len, bfs_nil]
    refine Ev.neg (by omega) (Ev.of_eq (Ev.now _) ?_)
    rw [Bool.eq_iff_iff, beq_iff_eq, decide_eq_true_eq]
    omega
  induction n with
  | zero =>
    intro o p q hf hp hs hb hm
    obtain rfl : q = [] := List.length_eq_zero_iff.1 (by omega)
    exact done 0 o p (by simpa using hb)
  | succ n ih =>
    intro o p q hf hp hs hb hm
    cases q with
    | nil => exact done (n + 1) o p (by simpa using hb)
    | cons c q =>
      refine Ev.succ ?_
      have hr := hf.rng c List.mem_cons_self
      have hlen' : (p ++ c :: q).length = p.length + (q.length + 1) := by simp
      have e1 : rd_T27 (cells l (p ++ c :: q)) (p.length : Int) = rd_T27 l c := by
        unfold cells
        rw [List.map_append, List.map_cons]
        have := getD_at (p.map fun j => rd_T27 l j) (q.map fun j => rd_T27 l j) (rd_T27 l c) z27
        rw [List.length_map] at this
        exact this
      simp only [spec_l07Connected.l0, e1, cells_len]
      refine Ev.pos (by rw [hlen']; omega) (Ev.pos (by omega) ?_)
      have hmem : rd_T27 l c ∈ l := by
        unfold rd_T27
        rw [List.getD_eq_getElem?_getD, List.getElem?_eq_getElem (show c.toNat < l.length by omega)]
        exact List.getElem_mem _
      simp only [hnb _ hmem, Option.bind_some]
      have hf' : Fine l o q := ⟨hf.len, fun j hj => hf.rng j (List.mem_cons_of_mem _ hj)⟩
      obtain ⟨h1, h2, h3, _⟩ := visit_fine (i := 0) (by omega) (nb (rd_T27 l c)) (s := (o, q)) hf'
      simp only at h2 h3
      have ea : p ++ c :: q = (p ++ [c]) ++ q := by simp
      have ew : wrap64 ((p.length : Int) + 1) = ((p ++ [c]).length : Int) := by
        rw [w64 (by omega) (by omega)]; simp
      rw [ea] at hb hs ⊢
      have hp' : ∀ j ∈ p ++ [c], 0 ≤ j ∧ j < (l.length : Int) := by
        intro j hj
        rcases List.mem_append.1 hj with hj | hj
        · exact hp j hj
        · simp at hj; exact hj ▸ hr
      refine gr_l1 K nb l hnb hlen hl hn _ (hlen _) o (p ++ [c]) q hf' hp' hs (by omega) _ ?_
      rw [ew]
      refine ih _ _ _ h1 hp' (visit_sim (i := 0) (by omega) (p ++ [c]) _ (s := (o, q)) hf' hs) ?_ ?_
      · simp only [List.length_append, List.length_singleton] at hb ⊢
        omega
      · simp only [List.length_cons] at hm
        omega
theorem gr_ev (hl : l.length ≤ 1048576) (h0 : l ≠ []) (hn : l.Nodup) : Ev (fun k => spec_l07Connected.f k K l) (oneB (partsR nb l)) := by
  rw [oneB_first nb l h0]
  unfold spec_l07Connected.f
  have hp := List.length_pos_iff.2 h0
  obtain ⟨hf, hb⟩ := first_fine l h0
  refine Ev.pos (by omega) ?_
  have hs : Sim l ((List.replicate l.length (-1 : Int)).set 0 0) ([] ++ [0]) := by
    intro j hj hj'
    rw [rd_set _ _ _ _ (by simpa using hp)]
    obtain ⟨m, rfl⟩ := Int.eq_ofNat_of_zero_le hj
    rw [rd_rep (by omega)]
    by_cases e : m = 0
    · subst e; simp
    · rw [if_neg (by simpa using e)]; simp [e]
  exact gr_l0 K nb l hnb hlen hl hn l.length _ [] [0] hf (fun j hj => by simp at hj) hs (by simpa using hb) (by simp; omega)
end
end Go.Proofs.Yteelofmecchmcaa.L
