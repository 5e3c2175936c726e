/- The row of FnExactHolesOf, with what it needs: text 8 of 9. -/
import Derived.Test.YtaecheolnpofeaaH6
set_option maxHeartbeats 8000000
set_option maxRecDepth 100000
section
namespace Go.Proofs.Ytaecheolnpofeaa.L
open Go.RowKit Go.Proofs.YtaecheolnpofeaaW.PrintWords Go.Proofs.YtaecheolnpofeaaW.PrintLast Go.Proofs.YtaecheolnpofeaaW.PrintMore Go.Proofs.Ytaecheolnpofeaa.F
set_option linter.unusedVariables false
set_option linter.unusedSimpArgs false
theorem pa_l3 (l : List Cell) (hl : l.length ≤ 1048576) (hn : l.Nodup) (i : Int) (hi : 0 ≤ i) (xs : List Cell) (hx4 : xs.length ≤ 16) (hwx : ∀ d ∈ xs, wfC d = true) (o p q : List Int) (hf : Fine l o q) (hb : negs o + (p ++ q).length ≤ l.length) (at_ len_ n_ : Int) {r : List Int}
    (hc : Ev (fun k => impl_parts__impl_around.l2 k l (visit l i xs (o, q)).1 i (p ++ (visit l i xs (o, q)).2) (wrap64 (at_ + 1)) len_ n_) r) :
    Ev (fun k => impl_parts__impl_around.l3 k l o i (p ++ q) at_ len_ n_ xs (xs.length : Int) 0) r := by
  have hsm : small xs := by unfold small; omega
  refine loop_list xs (fun k j (s : List Int × List Int) => impl_parts__impl_around.l3 k l s.1 i (p ++ s.2) at_ len_ n_ xs (xs.length : Int) j) (fun _ _ _ => r) (fun pre s => s = visit l i pre (o, q)) ?_ ?_ (o, q) rfl
  · rintro s rfl
    simp only [impl_parts__impl_around.l3, len_lt, if_false]
    exact hc
  · rintro pre d suf s hx rfl ih
    obtain ⟨h1, h2, h3, _⟩ := visit_fine hi pre (s := (o, q)) hf
    simp only at h2 h3
    have hln := h1.len
    have hd : wfC d = true := hwx d (by rw [hx]; simp)
    simp only [impl_parts__impl_around.l3, pre_lt hx, pre_0, if_true, at_pre hx, pre_w hx hsm, look_eq l d hn hd, Option.bind_some]
    have hlt := idxC_lt l d
    have hq : (p ++ (visit l i pre (o, q)).2).length ≤ l.length := by
      rw [List.length_append] at hb ⊢
      omega
    by_cases hg : idxC l d ≥ 0
    · simp only [hg, if_true]
      refine Ev.pos (by omega) ?_
      by_cases hr : rd (visit l i pre (o, q)).1 (idxC l d) < 0
      · refine Ev.pos hr (Ev.pos (by omega) ?_)
        have e : visit1 l i (visit l i pre (o, q)) d = ((visit l i pre (o, q)).1.set (idxC l d).toNat i, (visit l i pre (o, q)).2 ++ [idxC l d]) := by
          unfold visit1; rw [if_pos ⟨hg, hr⟩]
        have h := ih ((visit l i pre (o, q)).1.set (idxC l d).toNat i, (visit l i pre (o, q)).2 ++ [idxC l d]) (by rw [visit_snoc, e])
        rw [List.append_assoc]
        exact h
      · refine Ev.neg hr (ih _ ?_)
        rw [visit_snoc]
        unfold visit1
        rw [if_neg fun h => hr h.2]
    · simp only [hg, if_false, Bool.false_eq_true]
      refine ih _ ?_
      rw [visit_snoc]
      unfold visit1
      rw [if_neg fun h => hg h.1]
theorem pa_l2 (l : List Cell) (hl : l.length ≤ 1048576) (hn : l.Nodup) (hw : l.all wfC = true) (i : Int) (hi : 0 ≤ i) (len_ n_ : Int) {r : List Int} : ∀ (n : Nat) (o p q : List Int), Fine l o q → negs o + (p ++ q).length ≤ l.length → negs o + q.length ≤ n →
    Ev (fun k => impl_parts__impl_around.l1 k l (bfs aroundC l i n o q) len_ (wrap64 (n_ + 1))) r → Ev (fun k => impl_parts__impl_around.l2 k l o i (p ++ q) (p.length : Int) len_ n_) r := by
  intro n
  induction n with
  | zero =>
    intro o p q hf hb hm hc
    obtain rfl : q = [] := List.length_eq_zero_iff.1 (by omega)
    refine Ev.succ ?_
    simp only [impl_parts__impl_around.l2, List.append_nil, len_lt, if_false]
    exact hc
  | succ n ih =>
    intro o p q hf hb hm hc
    refine Ev.succ ?_
    cases q with
    | nil =>
      simp only [impl_parts__impl_around.l2, List.append_nil, len_lt, if_false]
      exact hc
    | cons c q =>
      have hr := hf.rng c List.mem_cons_self
      have hlen : (p ++ c :: q).length = p.length + (q.length + 1) := by simp
      have e1 : rd (p ++ c :: q) (p.length : Int) = c := by unfold rd; exact getD_at p q c _
      simp only [impl_parts__impl_around.l2, e1]
      refine Ev.pos (by rw [hlen]; omega) (Ev.pos (by omega) (Ev.pos hr.1 (Ev.pos hr.2 ?_)))
      simp only [implAround_eq, Option.bind_some]
      have hf' : Fine l o q := ⟨hf.len, fun j hj => hf.rng j (List.mem_cons_of_mem _ hj)⟩
      have hwc : wfC (rd_T44 l c) = true := by
        refine List.all_eq_true.1 hw _ ?_
        unfold rd_T44
        rw [List.getD_eq_getElem?_getD, List.getElem?_eq_getElem (show c.toNat < l.length by omega)]
        exact List.getElem_mem _
      obtain ⟨h1, h2, h3, _⟩ := visit_fine hi (aroundC (rd_T44 l c)) (s := (o, q)) hf'
      have ea : p ++ c :: q = (p ++ [c]) ++ q := by simp
      have ew : wrap64 ((p.length : Int) + 1) = ((p ++ [c]).length : Int) := by
        rw [w64 (by omega) (by omega)]; simp
      rw [ea] at hb ⊢
      refine pa_l3 l hl hn i hi (aroundC (rd_T44 l c)) (aroundC_len _) (aroundC_wf hwc) o (p ++ [c]) q hf' hb _ _ _ ?_
      rw [ew]
      refine ih _ _ _ h1 ?_ ?_ hc
      · simp only [List.length_append, List.length_singleton] at hb ⊢
        simp only at h2 h3
        omega
      · simp only [List.length_cons] at hm
        simp only at h2
        omega
theorem pa_ev (l : List Cell) (hl : l.length ≤ 1048576) (hn : l.Nodup) (hw : l.all wfC = true) : Ev (fun k => impl_parts__impl_around.f k l) (partsR aroundC l) := by
  have hs : small l := by unfold small; omega
  unfold impl_parts__impl_around.f
  refine Ev.pos hw (Ev.pos (by omega) (Ev.pos (by omega) ?_))
  have hz := loop_list l (fun k i (s : List Int) => impl_parts__impl_around.l0 k l s l (l.length : Int) i) (fun _ _ _ => partsR aroundC l) (fun pre s => s = List.replicate pre.length (-1) ++ List.replicate (l.length - pre.length) 0) ?_ ?_ (List.replicate (l.length : Int).toNat 0) (by simp)
  · exact hz
  · rintro s rfl
    simp only [impl_parts__impl_around.l0, len_lt, if_false, Nat.sub_self, List.replicate_zero, List.append_nil]
    have := loop_list l (fun k i (s : List Int) => impl_parts__impl_around.l1 k l s (l.length : Int) i) (fun pre suf s => partsF aroundC l (pre.length : Int) suf s) (fun pre s => s.length = l.length ∧ ∀ j : Nat, j < pre.length → 0 ≤ rd s (j : Int)) ?_ ?_ (List.replicate l.length (-1)) ⟨by simp, fun j hj => by simp at hj⟩
    · exact this
    · rintro s _
      simp only [impl_parts__impl_around.l1, len_lt, if_false]
      exact Ev.now _
    · rintro pre c suf s hx ⟨h1, h2⟩ ih
      have hp := pre_len hx
      obtain ⟨h3, h4⟩ := step_next (nb := aroundC) (l := l) (o := s) (i := pre.length) h1 hp h2
      have hlt : ((pre.length : Int) < (s.length : Int)) = True := by rw [h1]; exact pre_lt hx
      simp only [impl_parts__impl_around.l1, pre_lt hx, pre_0, if_true, hlt, pre_w hx hs, Int.toNat_natCast]
      have hih := ih _ ⟨h3, by simpa using h4⟩
      unfold partsF
      rw [Int.toNat_natCast]
      have ee : ((pre ++ [c]).length : Int) = (pre.length : Int) + 1 := by simp
      rw [ee] at hih
      by_cases hg : rd s (pre.length : Int) ≥ 0
      · rw [if_pos hg] at hih ⊢
        exact Ev.pos hg hih
      · rw [if_neg hg] at hih ⊢
        refine Ev.neg hg ?_
        obtain ⟨h5, h6⟩ := step_fine h1 hp hg
        have e0 : ([(pre.length : Int)] : List Int) = [] ++ [(pre.length : Int)] := rfl
        have := pa_l2 l hl hn hw (pre.length : Int) (by omega) (l.length : Int) (pre.length : Int) (r := partsF aroundC l ((pre.length : Int) + 1) suf (bfs aroundC l (pre.length : Int) l.length (s.set pre.length (pre.length : Int)) [(pre.length : Int)])) l.length (s.set pre.length (pre.length : Int)) [] [(pre.length : Int)] h5 (by simpa using h6) (by simpa using h6) (by
          rw [pre_w hx hs]; exact hih)
        exact this
  · rintro pre c suf s hx rfl ih
    have hp := pre_len hx
    have hlt : ((pre.length : Int) < ((List.replicate pre.length (-1 : Int) ++ List.replicate (l.length - pre.length) 0).length : Int)) = True := by simp; omega
    simp only [impl_parts__impl_around.l0, pre_lt hx, pre_0, if_true, hlt, pre_w hx hs, Int.toNat_natCast]
    refine ih _ ?_
    have e : l.length - pre.length = (l.length - (pre.length + 1)) + 1 := by omega
    simp only [List.length_append, List.length_singleton]
    rw [e, List.replicate_succ, List.set_append_right _ _ (by simp)]
    simp [List.replicate_succ', List.append_assoc]
theorem ps_l3 (l : List Cell) (hl : l.length ≤ 1048576) (i : Int) (hi : 0 ≤ i) (xs : List Cell) (hx4 : xs.length = 4) (o q : List Int) (hf : Fine l o q) (hb : negs o + q.length ≤ l.length) {r : List Int}
    (hc : Ev (fun k => spec_l02Parts.l2 k l (visit l i xs (o, q)).1 i (visit l i xs (o, q)).2) r) :
    Ev (fun k => spec_l02Parts.l3 k l o i q xs 0) r := by
  have hsm : small xs := by unfold small; omega
  have hs : small l := by unfold small; omega
  refine loop_list xs (fun k j (s : List Int × List Int) => spec_l02Parts.l3 k l s.1 i s.2 xs j) (fun _ _ _ => r) (fun pre s => s = visit l i pre (o, q)) ?_ ?_ (o, q) rfl
  · rintro s rfl
    have e0 : ¬ ((xs.length : Int) < 4) := by omega
    simp only [spec_l02Parts.l3, e0, if_false]
    exact hc
  · rintro pre d suf s hx rfl ih
    obtain ⟨h1, h2, h3, _⟩ := visit_fine hi pre (s := (o, q)) hf
    simp only at h2 h3
    have hln := h1.len
    have hp4 : ((pre.length : Int) < 4) = True := by have := pre_len hx; simp; omega
    simp only [spec_l02Parts.l3, hp4, pre_lt hx, pre_0, if_true, at_pre hx, pre_w hx hsm]
    refine Ev.bind (specIndex_ev l d hs) ?_
    have hlt := idxC_lt l d
    have hq : (visit l i pre (o, q)).2.length ≤ l.length := by omega
    by_cases hg : idxC l d ≥ 0
    · refine Ev.pos hg (Ev.pos hg (Ev.pos (by omega) ?_))
      by_cases hr : rd (visit l i pre (o, q)).1 (idxC l d) < 0
      · refine Ev.pos hr (Ev.pos (by omega) ?_)
        have e : visit1 l i (visit l i pre (o, q)) d = ((visit l i pre (o, q)).1.set (idxC l d).toNat i, (visit l i pre (o, q)).2 ++ [idxC l d]) := by
          unfold visit1; rw [if_pos ⟨hg, hr⟩]
        exact ih ((visit l i pre (o, q)).1.set (idxC l d).toNat i, (visit l i pre (o, q)).2 ++ [idxC l d]) (by rw [visit_snoc, e])
      · refine Ev.neg hr (ih _ ?_)
        rw [visit_snoc]
        unfold visit1
        rw [if_neg fun h => hr h.2]
    · refine Ev.neg hg (ih _ ?_)
      rw [visit_snoc]
      unfold visit1
      rw [if_neg fun h => hg h.1]
theorem ps_l2 (l : List Cell) (hl : l.length ≤ 1048576) (i : Int) (hi : 0 ≤ i) {r : List Int} : ∀ (n : Nat) (o q : List Int), Fine l o q → negs o + q.length ≤ l.length → negs o + q.length ≤ n →
    Ev (fun k => spec_l02Parts.l1 k l (bfs aroundC l i n o q) (wrap64 (i + 1))) r → Ev (fun k => spec_l02Parts.l2 k l o i q) r := by
  intro n
  induction n with
  | zero =>
    intro o q hf hb hm hc
    obtain rfl : q = [] := List.length_eq_zero_iff.1 (by omega)
    refine Ev.succ ?_
    simp only [spec_l02Parts.l2]
    exact Ev.neg (by simp) hc
  | succ n ih =>
    intro o q hf hb hm hc
    refine Ev.succ ?_
    cases q with
    | nil =>
      simp only [spec_l02Parts.l2]
      exact Ev.neg (by simp) hc
    | cons c q =>
      have hr := hf.rng c List.mem_cons_self
      have e1 : rd (c :: q) 0 = c := rfl
      have hlen : (c :: q).length = q.length + 1 := rfl
      simp only [spec_l02Parts.l2, e1]
      refine Ev.pos (by omega) (Ev.pos (by omega) (Ev.pos hr.1 (Ev.pos hr.2 ?_)))
      simp only [specAround_eq, Option.bind_some]
      refine Ev.pos (by omega) ?_
      have hf' : Fine l o q := ⟨hf.len, fun j hj => hf.rng j (List.mem_cons_of_mem _ hj)⟩
      obtain ⟨h1, h2, h3, _⟩ := visit_fine hi (aroundC (rd_T44 l c)) (s := (o, q)) hf'
      simp only at h2 h3
      have ed : (c :: q).drop (1 : Int).toNat = q := rfl
      rw [ed]
      refine ps_l3 l hl i hi _ rfl o q hf' (by omega) ?_
      exact ih _ _ h1 (by omega) (by omega) hc
theorem ps_ev (l : List Cell) (hl : l.length ≤ 1048576) : Ev (fun k => spec_l02Parts.f k l) (partsR aroundC l) := by
  have hs : small l := by unfold small; omega
  unfold spec_l02Parts.f
  have hz := loop_list l (fun k i (s : List Int) => spec_l02Parts.l0 k l s i) (fun _ _ _ => partsR aroundC l) (fun pre s => s = List.replicate pre.length (-1)) ?_ ?_ [] rfl
  · exact hz
  · rintro s rfl
    simp only [spec_l02Parts.l0, len_lt, if_false]
    have := loop_list l (fun k i (s : List Int) => spec_l02Parts.l1 k l s i) (fun pre suf s => partsF aroundC l (pre.length : Int) suf s) (fun pre s => s.length = l.length ∧ ∀ j : Nat, j < pre.length → 0 ≤ rd s (j : Int)) ?_ ?_ (List.replicate l.length (-1)) ⟨by simp, fun j hj => by simp at hj⟩
    · exact this
    · rintro s _
      simp only [spec_l02Parts.l1, len_lt, if_false]
      exact Ev.now _
    · rintro pre c suf s hx ⟨h1, h2⟩ ih
      have hp := pre_len hx
      obtain ⟨h3, h4⟩ := step_next (nb := aroundC) (l := l) (o := s) (i := pre.length) h1 hp h2
      have hlt : ((pre.length : Int) < (s.length : Int)) = True := by rw [h1]; exact pre_lt hx
      simp only [spec_l02Parts.l1, pre_lt hx, pre_0, if_true, hlt, pre_w hx hs, Int.toNat_natCast]
      have hih := ih _ ⟨h3, by simpa using h4⟩
      unfold partsF
      rw [Int.toNat_natCast]
      have ee : ((pre ++ [c]).length : Int) = (pre.length : Int) + 1 := by simp
      rw [ee] at hih
      by_cases hg : rd s (pre.length : Int) ≥ 0
      · rw [if_pos hg] at hih ⊢
        exact Ev.pos hg hih
      · rw [if_neg hg] at hih ⊢
        refine Ev.neg hg ?_
        obtain ⟨h5, h6⟩ := step_fine h1 hp hg
        exact ps_l2 l hl (pre.length : Int) (by omega) l.length _ _ h5 (by simpa using h6) (by simpa using h6) (by rw [pre_w hx hs]; exact hih)
  · rintro pre c suf s hx rfl ih
    have hp := pre_len hx
    simp only [spec_l02Parts.l0, pre_lt hx, if_true, pre_w hx hs]
    exact Ev.pos (by rw [List.length_replicate]; omega) (ih _ (by simp [List.replicate_succ']))
theorem grp_succ (l : List Cell) (p : List Int) (i : Nat) (k : Int) : grp l p (i + 1) k = grp l p i k ++ (if p.getD i 0 = k then [l.getD i z44] else []) := by
  unfold grp
  rw [List.range_succ, List.filter_append, List.map_append]
  by_cases e : p.getD i 0 = k
  · rw [if_pos e]
    have h9 : decide (p.getD i 0 = k) = true := decide_eq_true e
    rw [List.filter_cons, h9]
    simp only [if_true, List.filter_nil, List.map_cons, List.map_nil]
  · rw [if_neg e]
    have h9 : decide (p.getD i 0 = k) = false := decide_eq_false e
    rw [List.filter_cons, h9]
    simp
structure Marks (l : List Cell) (p : List Int) : Prop where
  len : p.length = l.length
  root : ∀ j : Nat, j < l.length → 0 ≤ rd p (j : Int) ∧ rd p (j : Int) ≤ (j : Int) ∧ rd p (rd p (j : Int)) = rd p (j : Int)
theorem marksR (l : List Cell) : Marks l (partsR aroundC l) := ⟨partsR_len _ _, fun j hj => partsR_root _ _ j hj⟩
theorem rd_nat (p : List Int) (j : Nat) : rd p (j : Int) = p.getD j 0 := by unfold rd; rw [Int.toNat_natCast]
theorem grp_none {l : List Cell} {p : List Int} (h : Marks l p) (i : Nat) (hi : i < l.length) (hr : p.getD i 0 = (i : Int)) : grp l p i (i : Int) = [] := by
  unfold grp
  rw [List.map_eq_nil_iff, List.filter_eq_nil_iff]
  intro j hj
  have hj' : j < i := List.mem_range.1 hj
  have := (h.root j (by omega)).2.1
  rw [rd_nat] at this
  simp only [decide_eq_true_eq]
  omega
theorem grp_zero {l : List Cell} {p : List Int} (h : Marks l p) (i : Nat) (hi : i < l.length) : (grp l p i (p.getD i 0)).length = 0 ↔ p.getD i 0 = (i : Int) := by
  constructor
  · intro h0
    obtain ⟨h1, h2, h3⟩ := h.root i hi
    rw [rd_nat] at h1 h2 h3
    obtain ⟨v, hv⟩ : ∃ v : Nat, p.getD i 0 = (v : Int) := ⟨(p.getD i 0).toNat, by omega⟩
    rw [hv] at h0 h2 h3 ⊢
    rw [rd_nat] at h3
    by_cases e : v = i
    · omega
    · exfalso
      have hl : grp l p i (v : Int) = [] := List.length_eq_zero_iff.1 h0
      unfold grp at hl
      rw [List.map_eq_nil_iff, List.filter_eq_nil_iff] at hl
      exact hl v (List.mem_range.2 (by omega)) (by simpa using h3)
  · intro h0
    rw [h0, grp_none h i hi h0]
    rfl
def rootsI (p : List Int) (m : Nat) : List Int := ((List.range m).filter fun j => decide (p.getD j 0 = (j : Int))).map fun j : Nat => (j : Int)
theorem rootsI_succ (p : List Int) (m : Nat) : rootsI p (m + 1) = rootsI p m ++ (if p.getD m 0 = (m : Int) then [(m : Int)] else []) := by
  unfold rootsI
  rw [List.range_succ, List.filter_append, List.map_append]
  by_cases e : p.getD m 0 = (m : Int)
  · rw [if_pos e]
    have h9 : decide (p.getD m 0 = (m : Int)) = true := decide_eq_true e
    rw [List.filter_cons, h9]
    simp only [if_true, List.filter_nil, List.map_cons, List.map_nil]
  · rw [if_neg e]
    have h9 : decide (p.getD m 0 = (m : Int)) = false := decide_eq_false e
    rw [List.filter_cons, h9]
    simp
theorem rootsI_len (p : List Int) (m : Nat) : (rootsI p m).length ≤ m := by
  unfold rootsI
  rw [List.length_map]
  have := List.length_filter_le (fun j : Nat => decide (p.getD j 0 = (j : Int))) (List.range m)
  rw [List.length_range] at this
  exact this
theorem rootsI_one {l : List Cell} {p : List Int} (h : Marks l p) (h0 : 0 < l.length) : rootsI p 1 = [0] := by
  have h1 := h.root 0 h0
  have h2 : p.getD 0 0 = ((0 : Nat) : Int) := by
    have := h1.1
    have := h1.2.1
    rw [rd_nat] at *
    omega
  rw [show (1 : Nat) = 0 + 1 from rfl, rootsI_succ, if_pos h2]
  rfl
theorem rootsI_first {l : List Cell} {p : List Int} (h : Marks l p) (m : Nat) (h0 : 0 < l.length) : ∃ r, rootsI p (m + 1) = 0 :: r := by
  induction m with
  | zero => exact ⟨[], rootsI_one h h0⟩
  | succ m ih =>
    obtain ⟨r, hr⟩ := ih
    rw [rootsI_succ, hr]
    exact ⟨_, rfl⟩
theorem rootsI_mem {p : List Int} {m : Nat} {x : Int} (hx : x ∈ rootsI p m) : 0 ≤ x ∧ x < (m : Int) := by
  unfold rootsI at hx
  obtain ⟨j, hj, rfl⟩ := List.mem_map.1 hx
  have := List.mem_range.1 (List.mem_filter.1 hj).1
  omega
def partsBut (l : List Cell) (p : List Int) (m : Nat) : List (List Cell) := ((rootsI p m).drop 1).map fun r => grp l p p.length r
def holesP (l : List Cell) : List (List Cell) := partsBut l (partsR aroundC l) l.length
theorem rd_pre {pre suf : List Int} {c : Int} {y : List Int} (hx : y = pre ++ c :: suf) : rd y (pre.length : Int) = c := by
  subst hx
  exact getD_at pre suf c 0
theorem impl_hl3 (l : List Cell) (p : List Int) (m : Nat) (hm : m ≤ 1048576) : Ev (fun k => impl_holes.l3 k l [] p ((rootsI p m).drop 1) (((rootsI p m).drop 1).length : Int) 0) (partsBut l p m) := by
  have hln : ((rootsI p m).drop 1).length ≤ 1048576 := by have := rootsI_len p m; rw [List.length_drop]; omega
  have hmem : ∀ x ∈ (rootsI p m).drop 1, 0 ≤ x ∧ x < (m : Int) := fun x hx => rootsI_mem (List.mem_of_mem_drop hx)
  unfold partsBut
  generalize (rootsI p m).drop 1 = y at *
  have hs : small y := by unfold small; omega
  have := loop_list y (fun k i (s : List (List Cell)) => impl_holes.l3 k l s p y (y.length : Int) i) (fun _ _ _ => y.map fun r => grp l p p.length r) (fun pre s => s = pre.map fun r => grp l p p.length r) ?_ ?_ [] rfl
  · exact this
  · rintro s rfl
    simp only [impl_holes.l3, len_lt, if_false]
    exact Ev.now _
  · rintro pre c suf s hx rfl ih
    have hc := hmem c (by rw [hx]; simp)
    have hp := pre_len hx
    have hrow : impl_holesRow.f l p c = some (grp l p p.length c) := by
      unfold impl_holesRow.f
      rw [if_pos (wf64 (by omega) (by omega))]
    simp only [impl_holes.l3, pre_lt hx, pre_0, if_true, pre_w hx hs, rd_pre hx]
    refine Ev.bind0 hrow (Ev.pos (by rw [List.length_map]; omega) (ih _ (by simp)))
theorem impl_hl2 {l : List Cell} {p : List Int} (h : Marks l p) (h0 : 0 < l.length) (hl : l.length ≤ 1048576) : Ev (fun k => impl_holes.l2 k l [] p (p.length : Int) 0) (partsBut l p l.length) := by
  have hpl := h.len
  have hs : small p := by unfold small; omega
  have := loop_list p (fun k i (s : List Int) => impl_holes.l2 k l s p (p.length : Int) i) (fun _ _ _ => partsBut l p l.length) (fun pre s => s = rootsI p pre.length) ?_ ?_ [] rfl
  · exact this
  · rintro s rfl
    rw [hpl]
    obtain ⟨m, hm⟩ : ∃ m, l.length = m + 1 := ⟨l.length - 1, by omega⟩
    obtain ⟨r, hr⟩ := rootsI_first h m h0
    have h1 : (1 : Int) ≤ ((rootsI p l.length).length : Int) := by rw [hm, hr, List.length_cons]; omega
    have hlt : ((l.length : Int) < (l.length : Int)) = False := by simp
    simp only [impl_holes.l2, hlt, if_false]
    exact Ev.pos h1 (Ev.bind0 rfl (impl_hl3 l p l.length hl))
  · rintro pre c suf s hx rfl ih
    have hp := pre_len hx
    have hi : pre.length < l.length := by omega
    obtain ⟨r1, r2, r3⟩ := h.root pre.length hi
    have hc : rd p (pre.length : Int) = c := rd_pre hx
    have hlenf : impl_holesLen.f l p (pre.length : Int) c = some ((grp l p pre.length c).length : Int) := by
      unfold impl_holesLen.f
      rw [if_pos ⟨wf64 (by omega) (by omega), by omega, by omega, by omega⟩, Int.toNat_natCast]
    have hz := grp_zero h pre.length hi
    rw [rd_nat] at hc
    rw [hc] at hz
    have hc' : rd p (pre.length : Int) = c := rd_pre hx
    simp only [impl_holes.l2, pre_lt hx, pre_0, if_true, pre_w hx hs, hc']
    refine Ev.bind0 hlenf ?_
    have hl9 := rootsI_len p pre.length
    by_cases e : (grp l p pre.length c).length = 0
    · refine Ev.pos (by omega) (Ev.pos (by omega) (ih _ ?_))
      rw [List.length_append, List.length_singleton, rootsI_succ, hc, if_pos (hz.1 e), hz.1 e]
    · refine Ev.neg (by omega) (ih _ ?_)
      rw [List.length_append, List.length_singleton, rootsI_succ, hc, if_neg (fun e2 => e (hz.2 e2)), List.append_nil]
theorem spec_hl3 {l : List Cell} {p : List Int} (h : Marks l p) (hl : l.length ≤ 1048576) (root : Int) (out : List (List Cell)) (ho : out.length ≤ 1048576) {r : List (List Cell)} (hk : Ev (fun k => spec_l06Holes.l2 k l p (out ++ [grp l p p.length root]) (wrap64 (root + 1))) r) :
    ∀ (suf pre : List Cell), l = pre ++ suf → Ev (fun k => spec_l06Holes.l3 k l p out root (grp l p pre.length root) (pre.length : Int)) r := by
  have hs : small l := by unfold small; omega
  intro suf
  induction suf with
  | nil =>
    intro pre hx
    rw [List.append_nil] at hx
    subst hx
    refine Ev.succ ?_
    simp only [spec_l06Holes.l3, len_lt, if_false]
    rw [← h.len]
    exact Ev.pos (by omega) hk
  | cons c suf ih =>
    intro pre hx
    refine Ev.succ ?_
    have hp := pre_len hx
    have hlt : ((pre.length : Int) < (p.length : Int)) = True := by rw [h.len]; exact pre_lt hx
    have ih' := ih (pre ++ [c]) (by rw [hx]; simp)
    have ee : ((pre ++ [c]).length : Int) = (pre.length : Int) + 1 := by simp
    have e1 : (pre ++ [c]).length = pre.length + 1 := by simp
    rw [ee, e1, grp_succ] at ih'
    have hg := grp_len l p pre.length root
    have hat : l.getD pre.length z44 = c := by rw [hx]; simp [List.getD]
    simp only [spec_l06Holes.l3, pre_lt hx, pre_0, if_true, pre_w hx hs, hlt, at_pre hx, rd_nat]
    rw [hat] at ih'
    by_cases e : p.getD pre.length 0 = root
    · rw [if_pos e] at ih'
      exact Ev.pos e (Ev.pos (by omega) ih')
    · rw [if_neg e, List.append_nil] at ih'
      exact Ev.neg e ih'
theorem spec_hl2 {c : Cell} {r : List Cell} {p : List Int} (h : Marks (c :: r) p) (hl : (c :: r).length ≤ 1048576) : Ev (fun k => spec_l06Holes.l2 k (c :: r) p [] 1) (partsBut (c :: r) p (c :: r).length) := by
  have hs : small (c :: r) := by unfold small; omega
  have h0 : 0 < (c :: r).length := by simp
  have := loop_tail c r (fun k i (s : List (List Cell)) => spec_l06Holes.l2 k (c :: r) p s i) (fun _ _ _ => partsBut (c :: r) p (c :: r).length) (fun pre s => s = partsBut (c :: r) p pre.length) ?_ ?_ [] ?_
  · exact this
  · rintro s rfl
    simp only [spec_l06Holes.l2, len_lt, if_false]
    exact Ev.now _
  · rintro pre d suf s hx hne rfl ih
    have hp := pre_len hx
    have hp0 : 0 < pre.length := List.length_pos_iff.2 hne
    have hlt : ((pre.length : Int) < (p.length : Int)) = True := by rw [h.len]; exact pre_lt hx
    obtain ⟨m, hm⟩ : ∃ m, pre.length = m + 1 := ⟨pre.length - 1, by omega⟩
    obtain ⟨t, ht⟩ := rootsI_first h m h0
    rw [← hm] at ht
    have hbut : partsBut (c :: r) p (pre.length + 1) = partsBut (c :: r) p pre.length ++ (if p.getD pre.length 0 = (pre.length : Int) then [grp (c :: r) p p.length (pre.length : Int)] else []) := by
      unfold partsBut
      rw [rootsI_succ, ht, List.cons_append, List.drop_one, List.drop_one, List.tail_cons, List.tail_cons, List.map_append]
      by_cases e : p.getD pre.length 0 = (pre.length : Int)
      · rw [if_pos e, if_pos e]; rfl
      · rw [if_neg e, if_neg e]; rfl
    have e1 : (pre ++ [d]).length = pre.length + 1 := by simp
    have hlb : (partsBut (c :: r) p pre.length).length ≤ 1048576 := by
      unfold partsBut
      have := rootsI_len p pre.length
      rw [List.length_map, List.length_drop]
      omega
    simp only [spec_l06Holes.l2, pre_lt hx, pre_0, if_true, hlt, rd_nat]
    by_cases e : p.getD pre.length 0 = (pre.length : Int)
    · refine Ev.pos e ?_
      have hz := spec_hl3 h hl (pre.length : Int) (partsBut (c :: r) p pre.length) hlb (r := partsBut (c :: r) p (c :: r).length) (by rw [pre_w hx hs]; exact ih _ (by rw [e1, hbut, if_pos e])) (d :: suf) pre hx
      rw [grp_none h pre.length hp e] at hz
      exact hz
    · refine Ev.neg e ?_
      rw [pre_w hx hs]
      exact ih _ (by rw [e1, hbut, if_neg e, List.append_nil])
  · show [] = partsBut (c :: r) p 1
    unfold partsBut
    rw [rootsI_one h h0]
    rfl
theorem implIndex_ev (l : List Cell) (c : Cell) (hs : small l) : Ev (fun k => impl_Cell_57.f k l c.f0 c.f1) (idxC l c) := by
  unfold impl_Cell_57.f
  refine loop_list l (fun k i (_ : Unit) => impl_Cell_57.l0 k l (l.length : Int) i c.f0 c.f1) (fun pre suf _ => idxF suf c (pre.length : Int)) (fun _ _ => True) ?_ ?_ () trivial
  · intro _ _
    simp only [impl_Cell_57.l0, len_lt, if_false]
    exact Ev.now _
  · intro pre d suf _ hx _ ih
    simp only [impl_Cell_57.l0, pre_lt hx, pre_0, if_true, at_pre hx, pre_w hx hs, idxF]
    have e : (c.f0 == d.f0 && c.f1 == d.f1) = sameC d c := by
      rw [Bool.eq_iff_iff]
      simp only [sameC, Bool.and_eq_true, beq_iff_eq, decide_eq_true_eq]
      constructor <;> (rintro ⟨h, h'⟩; exact ⟨h.symm, h'.symm⟩)
    rw [e]
    refine Ev.if_ (fun _ => Ev.now _) (fun _ => Ev.of_eq (ih () trivial) ?_)
    simp
theorem implContains_ev (l : List Cell) (c : Cell) (hs : small l) : Ev (fun k => impl_Cell_36.f k l c.f0 c.f1) (decide (idxC l c ≥ 0)) := by
  unfold impl_Cell_36.f
  exact Ev.bind (implIndex_ev l c hs) (Ev.now _)
def rowF (l : List Cell) (y : Int) : Nat → Int → List Cell
  | 0, _ => []
  | n + 1, x => (if idxC l ⟨x, y⟩ < 0 then [⟨x, y⟩] else []) ++ rowF l y n (x + 1)
def boxF (l : List Cell) (x0 : Int) (w : Nat) : Nat → Int → List Cell
  | 0, _ => []
  | n + 1, y => rowF l y w x0 ++ boxF l x0 w n (y + 1)
def freeL (l : List Cell) : List Cell := boxF l ((leastOf l).1 - 1) ((reachOf l).1 - (leastOf l).1 + 3).toNat ((reachOf l).2 - (leastOf l).2 + 3).toNat ((leastOf l).2 - 1)
def holesL (l : List Cell) : List (List Cell) := holesP (freeL l)
theorem rowF_in (l : List Cell) (y : Int) : ∀ (n : Nat) (x : Int), ∀ c ∈ rowF l y n x, c.f1 = y ∧ x ≤ c.f0 ∧ c.f0 < x + n
  | 0, x, c, h => by cases h
  | n + 1, x, c, h => by
    unfold rowF at h
    rcases List.mem_append.1 h with h | h
    · by_cases e : idxC l ⟨x, y⟩ < 0
      · rw [if_pos e] at h
        obtain rfl := List.mem_singleton.1 h
        exact ⟨rfl, by show x ≤ x; omega, by show x < x + _; omega⟩
      · rw [if_neg e] at h
        cases h
    · have := rowF_in l y n (x + 1) c h
      exact ⟨this.1, by omega, by omega⟩
theorem rowF_len (l : List Cell) (y : Int) : ∀ (n : Nat) (x : Int), (rowF l y n x).length ≤ n
  | 0, x => Nat.le_refl _
  | n + 1, x => by
    unfold rowF
    rw [List.length_append]
    have := rowF_len l y n (x + 1)
    split <;> simp <;> omega
theorem rowF_nodup (l : List Cell) (y : Int) : ∀ (n : Nat) (x : Int), (rowF l y n x).Nodup
  | 0, x => List.nodup_nil
  | n + 1, x => by
    unfold rowF
    have h := rowF_nodup l y n (x + 1)
    by_cases e : idxC l ⟨x, y⟩ < 0
    · rw [if_pos e]
      refine List.nodup_cons.2 ⟨fun hm => ?_, h⟩
      have := (rowF_in l y n (x + 1) _ hm).2.1
      have h2 : x + 1 ≤ x := this
      omega
    · rw [if_neg e]
      exact h
theorem boxF_in (l : List Cell) (x0 : Int) (w : Nat) : ∀ (n : Nat) (y : Int), ∀ c ∈ boxF l x0 w n y, y ≤ c.f1 ∧ c.f1 < y + n ∧ x0 ≤ c.f0 ∧ c.f0 < x0 + w
  | 0, y, c, h => by cases h
  | n + 1, y, c, h => by
    unfold boxF at h
    rcases List.mem_append.1 h with h | h
    · have := rowF_in l y w x0 c h
      exact ⟨by omega, by omega, by omega, by omega⟩
    · have := boxF_in l x0 w n (y + 1) c h
      exact ⟨by omega, by omega, by omega, by omega⟩
theorem boxF_len (l : List Cell) (x0 : Int) (w : Nat) : ∀ (n : Nat) (y : Int), (boxF l x0 w n y).length ≤ n * w
  | 0, y => by simp [boxF]
  | n + 1, y => by
    unfold boxF
    rw [List.length_append, Nat.succ_mul]
    have := rowF_len l y w x0
    have := boxF_len l x0 w n (y + 1)
    omega
theorem boxF_nodup (l : List Cell) (x0 : Int) (w : Nat) : ∀ (n : Nat) (y : Int), (boxF l x0 w n y).Nodup
  | 0, y => List.nodup_nil
  | n + 1, y => by
    unfold boxF
    refine List.nodup_append.2 ⟨rowF_nodup l y w x0, boxF_nodup l x0 w n (y + 1), fun a ha b hb e => ?_⟩
    have h1 := (rowF_in l y w x0 a ha).1
    have h2 := (boxF_in l x0 w n (y + 1) b hb).1
    rw [← e] at h2
    omega
theorem box_bd {l : List Cell} (h : shapeB l = true) : -100 ≤ (leastOf l).1 ∧ (leastOf l).1 ≤ (reachOf l).1 ∧ (reachOf l).1 ≤ 100 ∧ -100 ≤ (leastOf l).2 ∧ (leastOf l).2 ≤ (reachOf l).2 ∧ (reachOf l).2 ≤ 100 := by
  have h0 := shape_ne h
  obtain ⟨ho, _, _, _⟩ := shapeB_iff.1 h
  obtain ⟨⟨a, ha, ea⟩, ⟨b, hb, eb⟩⟩ := least_mem h0
  obtain ⟨⟨c, hc, ec⟩, ⟨d, hd, ed⟩⟩ := reach_mem h0
  have h1 := ho a ha
  have h2 := ho b hb
  have h3 := ho c hc
  have h4 := ho d hd
  have h5 := least_le hc
  have h6 := least_le hd
  unfold okC ok1 at h1 h2 h3 h4
  omega
theorem freeL_ok {l : List Cell} (h : shapeB l = true) : freeL l ≠ [] ∧ (freeL l).length ≤ 1000000 ∧ (freeL l).Nodup ∧ (freeL l).all wfC = true := by
  have hb := box_bd h
  refine ⟨?_, ?_, boxF_nodup _ _ _ _ _, ?_⟩
  · unfold freeL
    obtain ⟨w, hw⟩ : ∃ w, ((reachOf l).1 - (leastOf l).1 + 3).toNat = w + 1 := ⟨((reachOf l).1 - (leastOf l).1 + 2).toNat, by omega⟩
    obtain ⟨n, hn⟩ : ∃ n, ((reachOf l).2 - (leastOf l).2 + 3).toNat = n + 1 := ⟨((reachOf l).2 - (leastOf l).2 + 2).toNat, by omega⟩
    rw [hw, hn]
    unfold boxF rowF
    have hlt : idxC l ⟨(leastOf l).1 - 1, (leastOf l).2 - 1⟩ < 0 := by
      rcases idxC_spec l ⟨(leastOf l).1 - 1, (leastOf l).2 - 1⟩ with ⟨e, _⟩ | ⟨j, h1, h2, h3, _⟩
      · omega
      · have := least_le (List.mem_of_getElem? h3)
        have h4 : (leastOf l).1 ≤ (leastOf l).1 - 1 := this.1
        omega
    rw [if_pos hlt]
    simp
  · unfold freeL
    refine Nat.le_trans (boxF_len _ _ _ _ _) (Nat.le_trans (Nat.mul_le_mul (show _ ≤ 203 by omega) (show _ ≤ 203 by omega)) (by decide))
  · refine List.all_eq_true.2 fun c hc => ?_
    have := boxF_in l _ _ _ _ c hc
    unfold wfC
    rw [wf64 (by omega) (by omega), wf64 (by omega) (by omega)]
    rfl
theorem spec_hr (l : List Cell) (hs : small l) (x3 x4 x5 x6 y : Int) (hx : -1000 ≤ x3 + x5 ∧ x3 + x5 ≤ 1000) {r : List (List Cell)} : ∀ (n : Nat) (x : Int) (acc : List Cell), x + n = x3 + x5 + 1 → acc.length + n ≤ 2000000 → n ≤ 1000 →
    Ev (fun k => spec_l06Holes.l0 k l x3 x4 x5 x6 (acc ++ rowF l y n x) (wrap64 (y + 1))) r → Ev (fun k => spec_l06Holes.l1 k l x3 x4 x5 x6 acc y x) r
  | 0, x, acc, h, ha, hn, hk => by
    refine Ev.succ ?_
    have hw : wrap64 (x3 + x5) = x3 + x5 := w64 (by omega) (by omega)
    have hc : (x ≤ x3 + x5) = False := by simp; omega
    simp only [spec_l06Holes.l1, hw, hc, if_false]
    have : acc ++ rowF l y 0 x = acc := by simp [rowF]
    rw [this] at hk
    exact hk
  | n + 1, x, acc, h, ha, hn, hk => by
    refine Ev.succ ?_
    have hw : wrap64 (x3 + x5) = x3 + x5 := w64 (by omega) (by omega)
    have hc : (x ≤ x3 + x5) = True := by simp; omega
    have hw1 : wrap64 (x + 1) = x + 1 := w64 (by omega) (by omega)
    simp only [spec_l06Holes.l1, hw, hc, if_true, hw1]
    refine Ev.bind (specIndex_ev l ⟨x, y⟩ hs) ?_
    unfold rowF at hk
    by_cases e : idxC l ⟨x, y⟩ < 0
    · rw [if_pos e, ← List.append_assoc] at hk
      exact Ev.pos e (Ev.pos (by omega) (spec_hr l hs x3 x4 x5 x6 y hx n (x + 1) _ (by omega) (by rw [List.length_append, List.length_singleton]; omega) (by omega) hk))
    · rw [if_neg e, List.nil_append] at hk
      exact Ev.neg e (spec_hr l hs x3 x4 x5 x6 y hx n (x + 1) _ (by omega) (by omega) (by omega) hk)
theorem spec_hb (l : List Cell) (hs : small l) (x3 x4 x5 x6 : Int) (w : Nat) (hw0 : x3 - 1 + w = x3 + x5 + 1) (hw1 : w ≤ 1000) (hx : -1000 ≤ x3 + x5 ∧ x3 + x5 ≤ 1000 ∧ -1000 ≤ x3 ∧ x3 ≤ 1000) (hy : -1000 ≤ x4 + x6 ∧ x4 + x6 ≤ 1000) {r : List (List Cell)} : ∀ (n : Nat) (y : Int) (acc : List Cell), y + n = x4 + x6 + 1 → acc.length + n * w ≤ 1000000 → n ≤ 1000 →
    Ev (fun k => (spec_l02Parts.f k (acc ++ boxF l (x3 - 1) w n y)).bind fun t => spec_l06Holes.l2 k (acc ++ boxF l (x3 - 1) w n y) t [] 1) r → Ev (fun k => spec_l06Holes.l0 k l x3 x4 x5 x6 acc y) r
  | 0, y, acc, h, ha, hn, hk => by
    refine Ev.succ ?_
    have hw : wrap64 (x4 + x6) = x4 + x6 := w64 (by omega) (by omega)
    have hc : (y ≤ x4 + x6) = False := by simp; omega
    simp only [spec_l06Holes.l0, hw, hc, if_false]
    have : acc ++ boxF l (x3 - 1) w 0 y = acc := by simp [boxF]
    rw [this] at hk
    exact hk
  | n + 1, y, acc, h, ha, hn, hk => by
    refine Ev.succ ?_
    have hw : wrap64 (x4 + x6) = x4 + x6 := w64 (by omega) (by omega)
    have hc : (y ≤ x4 + x6) = True := by simp; omega
    have hw1 : wrap64 (x3 - 1) = x3 - 1 := w64 (by omega) (by omega)
    have hw2 : wrap64 (y + 1) = y + 1 := w64 (by omega) (by omega)
    rw [Nat.succ_mul] at ha
    simp only [spec_l06Holes.l0, hw, hc, if_true, hw1]
    unfold boxF at hk
    rw [← List.append_assoc] at hk
    have hl := rowF_len l y w (x3 - 1)
    refine spec_hr l hs x3 x4 x5 x6 y ⟨hx.1, hx.2.1⟩ w (x3 - 1) acc hw0 (by omega) (by omega) ?_
    rw [hw2]
    exact spec_hb l hs x3 x4 x5 x6 w hw0 (by omega) hx hy n (y + 1) _ (by omega) (by rw [List.length_append]; omega) (by omega) hk
theorem parts_spec {l : List Cell} (h0 : l ≠ []) (hl : l.length ≤ 1048576) : Ev (fun k => (spec_l02Parts.f k l).bind fun t => spec_l06Holes.l2 k l t [] 1) (holesP l) := by
  refine Ev.bind (ps_ev l hl) ?_
  cases l with
  | nil => exact absurd rfl h0
  | cons c r => exact spec_hl2 (marksR _) hl
theorem specHoles_ev {l : List Cell} (h : shapeB l = true) : Ev (fun k => spec_l06Holes.f k l) (holesL l) := by
  obtain ⟨ho, h1, h2, h3⟩ := shapeB_iff.1 h
  have hs : small l := by unfold small; omega
  have hb := box_bd h
  obtain ⟨f0, f1, f2, f3⟩ := freeL_ok h
  unfold spec_l06Holes.f
  refine Ev.bind (specLeast_ev l hs (by omega)) (Ev.bind (specSize_ev l hs (shape_ne h) ho) ?_)
  have hw : wrap64 ((leastOf l).2 - 1) = (leastOf l).2 - 1 := w64 (by omega) (by omega)
  rw [hw]
  have e1 : (sizeOf_ l).1 = (reachOf l).1 - (leastOf l).1 + 1 := rfl
  have e2 : (sizeOf_ l).2 = (reachOf l).2 - (leastOf l).2 + 1 := rfl
  have hmul := Nat.mul_le_mul (show ((reachOf l).2 - (leastOf l).2 + 3).toNat ≤ 203 by omega) (show ((reachOf l).1 - (leastOf l).1 + 3).toNat ≤ 203 by omega)
  refine spec_hb l hs _ _ _ _ ((reachOf l).1 - (leastOf l).1 + 3).toNat (by rw [e1]; omega) (by omega) (by rw [e1]; omega) (by rw [e2]; omega) ((reachOf l).2 - (leastOf l).2 + 3).toNat _ [] (by rw [e2]; omega) (by simp only [List.length_nil]; omega) (by omega) ?_
  exact parts_spec (l := freeL l) f0 (by omega)
theorem impl_hr (l : List Cell) (hs : small l) (a b c d y : Int) (hx : -1000 ≤ c ∧ c ≤ 1000) {r : List (List Cell)} : ∀ (n : Nat) (x : Int) (acc : List Cell), x + n = c + 2 → acc.length + n ≤ 2000000 → n ≤ 1000 →
    Ev (fun k => impl_holes.l0 k l (acc ++ rowF l y n x) (wrap64 (y + 1)) a b c d) r → Ev (fun k => impl_holes.l1 k l acc y x a b c d) r
  | 0, x, acc, h, ha, hn, hk => by
    refine Ev.succ ?_
    have hw : wrap64 (c + 1) = c + 1 := w64 (by omega) (by omega)
    have hc : (x ≤ c + 1) = False := by simp; omega
    simp only [impl_holes.l1, hw, hc, if_false]
    have : acc ++ rowF l y 0 x = acc := by simp [rowF]
    rw [this] at hk
    exact hk
  | n + 1, x, acc, h, ha, hn, hk => by
    refine Ev.succ ?_
    have hw : wrap64 (c + 1) = c + 1 := w64 (by omega) (by omega)
    have hc : (x ≤ c + 1) = True := by simp; omega
    have hw1 : wrap64 (x + 1) = x + 1 := w64 (by omega) (by omega)
    simp only [impl_holes.l1, hw, hc, if_true, hw1]
    refine Ev.bind (implContains_ev l ⟨x, y⟩ hs) ?_
    unfold rowF at hk
    by_cases e : idxC l ⟨x, y⟩ < 0
    · rw [if_pos e, ← List.append_assoc] at hk
      exact Ev.neg (by simp; omega) (Ev.pos (by omega) (impl_hr l hs a b c d y hx n (x + 1) _ (by omega) (by rw [List.length_append, List.length_singleton]; omega) (by omega) hk))
    · rw [if_neg e, List.nil_append] at hk
      exact Ev.pos (by simp; omega) (impl_hr l hs a b c d y hx n (x + 1) _ (by omega) (by omega) (by omega) hk)
theorem impl_hb (l : List Cell) (hs : small l) (a b c d : Int) (w : Nat) (hw0 : a - 1 + w = c + 2) (hw1 : w ≤ 1000) (hx : -1000 ≤ c ∧ c ≤ 1000 ∧ -1000 ≤ a ∧ a ≤ 1000) (hy : -1000 ≤ d ∧ d ≤ 1000) {r : List (List Cell)} : ∀ (n : Nat) (y : Int) (acc : List Cell), y + n = d + 2 → acc.length + n * w ≤ 1000000 → n ≤ 1000 →
    Ev (fun k => (impl_parts__impl_around.f k (acc ++ boxF l (a - 1) w n y)).bind fun t => impl_holes.l2 k (acc ++ boxF l (a - 1) w n y) [] t (t.length : Int) 0) r → Ev (fun k => impl_holes.l0 k l acc y a b c d) r
  | 0, y, acc, h, ha, hn, hk => by
    refine Ev.succ ?_
    have hw : wrap64 (d + 1) = d + 1 := w64 (by omega) (by omega)
    have hc : (y ≤ d + 1) = False := by simp; omega
    simp only [impl_holes.l0, hw, hc, if_false]
    have : acc ++ boxF l (a - 1) w 0 y = acc := by simp [boxF]
    rw [this] at hk
    exact hk
  | n + 1, y, acc, h, ha, hn, hk => by
    refine Ev.succ ?_
    have hw : wrap64 (d + 1) = d + 1 := w64 (by omega) (by omega)
    have hc : (y ≤ d + 1) = True := by simp; omega
    have hw1 : wrap64 (a - 1) = a - 1 := w64 (by omega) (by omega)
    have hw2 : wrap64 (y + 1) = y + 1 := w64 (by omega) (by omega)
    rw [Nat.succ_mul] at ha
    simp only [impl_holes.l0, hw, hc, if_true, hw1]
    unfold boxF at hk
    rw [← List.append_assoc] at hk
    have hl := rowF_len l y w (a - 1)
    refine impl_hr l hs a b c d y ⟨hx.1, hx.2.1⟩ w (a - 1) acc hw0 (by omega) (by omega) ?_
    rw [hw2]
    exact impl_hb l hs a b c d w hw0 (by omega) hx hy n (y + 1) _ (by omega) (by rw [List.length_append]; omega) (by omega) hk
theorem parts_impl {l : List Cell} (h0 : l ≠ []) (hl : l.length ≤ 1048576) (hn : l.Nodup) (hw : l.all wfC = true) : Ev (fun k => (impl_parts__impl_around.f k l).bind fun t => impl_holes.l2 k l [] t (t.length : Int) 0) (holesP l) :=
  Ev.bind (pa_ev l hl hn hw) (impl_hl2 (marksR l) (List.length_pos_iff.2 h0) hl)
theorem implHoles_ev {l : List Cell} (h : shapeB l = true) : Ev (fun k => impl_holes.f k l) (holesL l) := by
  obtain ⟨ho, h1, h2, h3⟩ := shapeB_iff.1 h
  have hs : small l := by unfold small; omega
  have hb := box_bd h
  obtain ⟨f0, f1, f2, f3⟩ := freeL_ok h
  unfold impl_holes.f
  refine Ev.bind (implCorner_ev l hs (by omega)) (Ev.bind (implReach_ev l hs (by omega)) ?_)
  have hw : wrap64 ((leastOf l).2 - 1) = (leastOf l).2 - 1 := w64 (by omega) (by omega)
  rw [hw]
  have hmul := Nat.mul_le_mul (show ((reachOf l).2 - (leastOf l).2 + 3).toNat ≤ 203 by omega) (show ((reachOf l).1 - (leastOf l).1 + 3).toNat ≤ 203 by omega)
  refine impl_hb l hs _ _ _ _ ((reachOf l).1 - (leastOf l).1 + 3).toNat (by omega) (by omega) (by omega) (by omega) ((reachOf l).2 - (leastOf l).2 + 3).toNat _ [] (by omega) (by simp only [List.length_nil]; omega) (by omega) ?_
  exact parts_impl (l := freeL l) f0 (by omega) f2 f3
def moveL (l : List Cell) (x y : Int) : List Cell := l.map fun c => ⟨wrap64 (c.f0 + x), wrap64 (c.f1 + y)⟩
theorem moveL_len (l : List Cell) (x y : Int) : (moveL l x y).length = l.length := by simp [moveL]
theorem specMove_ev (l : List Cell) (x y : Int) (hl : l.length ≤ 1048576) : Ev (fun k => spec_l02Move.f k l x y) (moveL l x y) := by
  have hs : small l := by unfold small; omega
  unfold spec_l02Move.f
  have := loop_list l (fun k i (s : List Cell) => spec_l02Move.l0 k l x y s i) (fun pre suf s => s ++ moveL suf x y) (fun pre s => s.length = pre.length) ?_ ?_ [] rfl
  · simpa using this
  · intro s _
    simp only [spec_l02Move.l0, len_lt, if_false]
    exact Ev.of_eq (Ev.now _) (by simp [moveL])
  · intro pre c suf s hx hi ih
    have hp := pre_len hx
    simp only [spec_l02Move.l0, pre_lt hx, pre_0, if_true, at_pre hx, pre_w hx hs]
    refine Ev.pos (by omega) (Ev.of_eq (ih _ (by simp [hi])) ?_)
    simp [moveL]
theorem implMoved_ev (l : List Cell) (x y : Int) (hl : l.length ≤ 1048576) : Ev (fun k => impl_moved.f k l x y) (moveL l x y) := by
  have hs : small l := by unfold small; omega
  unfold impl_moved.f
  refine Ev.pos (by omega) (Ev.pos (by omega) ?_)
  have := loop_list l (fun k i (s : List Cell) => impl_moved.l0 k x y s l (l.length : Int) i) (fun pre suf s => s ++ moveL suf x y) (fun pre s => s.length = pre.length) ?_ ?_ [] rfl
  · simpa using this
  · intro s _
    simp only [impl_moved.l0, len_lt, if_false]
    exact Ev.of_eq (Ev.now _) (by simp [moveL])
  · intro pre c suf s hx hi ih
    have hp := pre_len hx
    simp only [impl_moved.l0, pre_lt hx, pre_0, if_true, at_pre hx, pre_w hx hs]
    refine Ev.pos (by omega) (Ev.of_eq (ih _ (by simp [hi])) ?_)
    simp [moveL]
def normalL (l : List Cell) : List Cell := moveL l (wrap64 (-(leastOf l).1)) (wrap64 (-(leastOf l).2))
theorem normalL_len (l : List Cell) : (normalL l).length = l.length := moveL_len _ _ _
theorem specNormal_ev (l : List Cell) (hl : l.length ≤ 1048576) (h0 : 0 < l.length) : Ev (fun k => spec_l02Normal.f k l) (normalL l) := by
  unfold spec_l02Normal.f
  refine Ev.bind (specLeast_ev l (by unfold small; omega) h0) (Ev.bind (specMove_ev l _ _ hl) (Ev.now _))
theorem implNormal_ev (l : List Cell) (hl : l.length ≤ 1048576) (h0 : 0 < l.length) : Ev (fun k => impl_normal.f k l) (normalL l) := by
  unfold impl_normal.f
  refine Ev.bind (implCorner_ev l (by unfold small; omega) h0) (Ev.bind (implMoved_ev l _ _ hl) (Ev.now _))
def codeF (l : List Cell) : Int := if shapeB l = true then (if shapeB (normalL l) = true then 0 else 3) else 1
theorem codeF_shape {l : List Cell} (h : codeF l = 0) : shapeB l = true ∧ shapeB (normalL l) = true := by
  unfold codeF at h
  by_cases h1 : shapeB l = true
  · rw [if_pos h1] at h
    by_cases h2 : shapeB (normalL l) = true
    · exact ⟨h1, h2⟩
    · rw [if_neg h2] at h
      omega
  · rw [if_neg h1] at h
    omega
theorem implCode_ev (l : List Cell) (hs : l.length ≤ 1048576) : Ev (fun k => impl_shapeCode.f k l) (codeF l) := by
  have h1 : small l := by unfold small; omega
  unfold impl_shapeCode.f codeF
  refine Ev.bind (implIsShape_ev l h1) (Ev.if_ (fun h => ?_) (fun _ => Ev.now _))
  have h0 : 0 < l.length := List.length_pos_iff.2 (shape_ne h)
  refine Ev.bind (implNormal_ev l hs h0) (Ev.bind (implIsShape_ev _ (by unfold small; rw [normalL_len]; omega)) (Ev.if_ (fun _ => Ev.now _) (fun _ => Ev.now _)))
theorem specCode_ev (l : List Cell) (hs : l.length ≤ 1048576) : Ev (fun k => spec_l06Code.f k l) (codeF l) := by
  have h1 : small l := by unfold small; omega
  unfold spec_l06Code.f spec_l03Code.f codeF
  refine Ev.of_eq (Ev.bind (Ev.bind (specIsShape_ev l h1) (Ev.if_ (fun h => ?_) (fun _ => Ev.now _))) (Ev.now _)) rfl
  have h0 : 0 < l.length := List.length_pos_iff.2 (shape_ne h)
  refine Ev.bind (specNormal_ev l hs h0) (Ev.bind (specIsShape_ev _ (by unfold small; rw [normalL_len]; omega)) (Ev.if_ (fun _ => Ev.now _) (fun _ => Ev.now _)))
def markedI (n : Int) (m : Nat) : List Int := (List.range m).map fun (i : Nat) => n + (i : Int)
theorem markedI_len (n : Int) (m : Nat) : (markedI n m).length = m := by simp [markedI]
theorem markedI_get (n : Int) (m i : Nat) (h : i < m) : (markedI n m)[i]? = some (n + (i : Int)) := by
  simp [markedI, h]
theorem markInt64S_ev (a : List Int) (n : Int) (h0 : 0 ≤ n) (h1 : n ≤ 4611686018427387904) (ha : fits a) : Ev (fun k => laws_markInt64S.f k a n) (n + (a.length : Int), markedI n a.length) := by
  unfold laws_markInt64S.f
  have hs := ha.small
  unfold fits at ha
  have := loop_list a (fun k i (s : List Int × Int) => laws_markInt64S.l0 k s.1 s.2 i) (fun pre _ s => (n + (a.length : Int), s.1.take pre.length ++ (markedI n a.length).drop pre.length))
    (fun pre s => s.1.length = a.length ∧ s.2 = n + (pre.length : Int)) ?_ ?_ (a, n) ⟨rfl, by simp⟩
  · simpa using this
  · rintro ⟨l, m⟩ ⟨hl, hm⟩
    simp only at hl hm
    simp only [laws_markInt64S.l0, hl, len_lt, if_false]
    refine Ev.of_eq (Ev.now _) ?_
    rw [List.take_of_length_le (by omega), List.drop_of_length_le (by rw [markedI_len]; exact Nat.le_refl _), List.append_nil, hm]
  · rintro pre c suf ⟨l, m⟩ hx ⟨hl, hm⟩ ih
    have hp := pre_len hx
    simp only at hl hm
    subst hm
    have hlt : ((pre.length : Int) < (l.length : Int)) = True := by rw [hl]; exact pre_lt hx
    have e1 : wrap64 (n + (pre.length : Int) + 1) = n + ((pre.length : Int) + 1) := by rw [w64 (by omega) (by omega)]; omega
    simp only [laws_markInt64S.l0, hlt, pre_0, if_true, Int.toNat_natCast, e1, pre_w hx hs]
    refine Ev.of_eq (ih (l.set pre.length (n + (pre.length : Int)), n + ((pre.length : Int) + 1)) ⟨by simpa using hl, by simp⟩) ?_
    refine Prod.ext rfl ?_
    simp only [List.length_append, List.length_singleton]
    rw [List.take_add_one, List.getElem?_set_self (by omega), List.take_set_of_le (Nat.le_refl _), List.drop_eq_getElem_cons (i := pre.length) (by rw [markedI_len]; omega)]
    have := markedI_get n a.length pre.length hp
    rw [List.getElem?_eq_getElem (by rw [markedI_len]; omega)] at this
    simp [Option.some.inj this]
theorem heldInt64S_ev (m : Nat) (hm : m ≤ 1048576) : Ev (fun k => laws_heldInt64S.f k (markedI 1 m) 1) (1 + (m : Int)) := by
  unfold laws_heldInt64S.f
  have hs : small (markedI 1 m) := by unfold small; rw [markedI_len]; omega
  refine loop_list (markedI 1 m) (fun k i (s : Int) => laws_heldInt64S.l0 k (markedI 1 m) s i) (fun _ _ _ => 1 + (m : Int)) (fun pre s => s = 1 + (pre.length : Int)) ?_ ?_ 1 (by simp)
  · rintro s rfl
    simp only [laws_heldInt64S.l0, len_lt, if_false]
    rw [markedI_len]
    exact Ev.now _
  · rintro pre c suf s hx rfl ih
    have hp := pre_len hx
    rw [markedI_len] at hp
    have hc := pre_get hx
    rw [markedI_get 1 m _ hp] at hc
    have hc := Option.some.inj hc
    have e1 : wrap64 (1 + (pre.length : Int) + 1) = 1 + ((pre.length : Int) + 1) := by rw [w64 (by omega) (by omega)]; omega
    simp only [laws_heldInt64S.l0, pre_lt hx, pre_0, if_true, at_preI hx, ← hc, e1, pre_w hx hs]
    exact ih _ (by simp)
end Go.Proofs.Ytaecheolnpofeaa.L
end
section
namespace Go.Proofs.Ytaecheolnpofeaa.L
open Go.RowKit Go.Proofs.YtaecheolnpofeaaW.PrintWords Go.Proofs.YtaecheolnpofeaaW.PrintLast Go.Proofs.YtaecheolnpofeaaW.PrintMore Go.Proofs.Ytaecheolnpofeaa.F
set_option linter.unusedVariables false
set_option linter.unusedSimpArgs false
def holesR (l : List Cell) : List Int × Int := if codeF l = 0 then ((holesL l).map (fun s => (s.length : Int)), 0) else ([], codeF l)
theorem holesL_len {l : List Cell} (h : shapeB l = true) : (holesL l).length ≤ 1000000 := by
  obtain ⟨f0, f1, f2, f3⟩ := freeL_ok h
  unfold holesL holesP partsBut
  have := rootsI_len (partsR aroundC (freeL l)) (freeL l).length
  rw [List.length_map, List.length_drop]
  omega
theorem holesR_len (l : List Cell) : (holesR l).1.length ≤ 1000000 := by
  unfold holesR
  by_cases h : codeF l = 0
  · rw [if_pos h]
    have := holesL_len (codeF_shape h).1
    simpa using this
  · rw [if_neg h]
    simp
theorem rdL_pre {pre suf y : List (List Cell)} {c : List Cell} (hx : y = pre ++ c :: suf) : rd_L2 y (pre.length : Int) = c := by
  subst hx
  exact getD_at pre suf c []
theorem specHoles_l (y : List (List Cell)) (hy : y.length ≤ 1000000) : Ev (fun k => spec_HolesOf.l0 k y [] 0) (y.map (fun s => (s.length : Int)), 0) := by
  have hs : small y := by unfold small; omega
  have := loop_list y (fun k i (s : List Int) => spec_HolesOf.l0 k y s i) (fun _ _ _ => (y.map (fun s => (s.length : Int)), 0)) (fun pre s => s = pre.map fun s => (s.length : Int)) ?_ ?_ [] rfl
  · exact this
  · rintro s rfl
    simp only [spec_HolesOf.l0, len_lt, if_false]
    exact Ev.now _
  · rintro pre c suf s hx rfl ih
    have hp := pre_len hx
    simp only [spec_HolesOf.l0, pre_lt hx, pre_0, if_true, pre_w hx hs, rdL_pre hx]
    exact Ev.pos (by rw [List.length_map]; omega) (ih _ (by simp))
theorem implHoles_l (y : List (List Cell)) (hy : y.length ≤ 1000000) : Ev (fun k => impl_HolesOf.l0 k [] y (y.length : Int) 0) (y.map (fun s => (s.length : Int)), 0) := by
  have hs : small y := by unfold small; omega
  have := loop_list y (fun k i (s : List Int) => impl_HolesOf.l0 k s y (y.length : Int) i) (fun _ _ _ => (y.map (fun s => (s.length : Int)), 0)) (fun pre s => s = pre.map fun s => (s.length : Int)) ?_ ?_ [] rfl
  · exact this
  · rintro s rfl
    simp only [impl_HolesOf.l0, len_lt, if_false]
    exact Ev.now _
  · rintro pre c suf s hx rfl ih
    have hp := pre_len hx
    simp only [impl_HolesOf.l0, pre_lt hx, pre_0, if_true, pre_w hx hs, rdL_pre hx]
    exact Ev.pos (by rw [List.length_map]; omega) (ih _ (by simp))
theorem specHolesOf_ev (l : List Cell) (hl : l.length ≤ 1048576) : Ev (fun k => spec_HolesOf.f k l) (holesR l) := by
  unfold spec_HolesOf.f holesR
  refine Ev.bind (specCode_ev l hl) (Ev.if_ (fun h => ?_) (fun _ => Ev.now _))
  have hh := (codeF_shape h).1
  exact Ev.bind (specHoles_ev hh) (specHoles_l _ (holesL_len hh))
theorem implHolesOf_ev (l : List Cell) (hl : l.length ≤ 1048576) : Ev (fun k => impl_HolesOf.f k l) (holesR l) := by
  unfold impl_HolesOf.f holesR
  refine Ev.bind (implCode_ev l hl) (Ev.if_ (fun h => ?_) (fun _ => Ev.now _))
  have hh := (codeF_shape h).1
  exact Ev.bind (implHoles_ev hh) (implHoles_l _ (holesL_len hh))
end Go.Proofs.Ytaecheolnpofeaa.L
namespace Go.Proofs.Ytaecheolnpofeaa.Pure
open Go.RowKit Go.Proofs.YtaecheolnpofeaaW.PrintWords Go.Proofs.Ytaecheolnpofeaa.F Go.Proofs.Ytaecheolnpofeaa.L
set_option linter.unusedVariables false
theorem FnExactHolesOf (l : List LCell) {V : LCell → Prop} (hv : l.length ≤ 9223372036854775807 ∧ ∀ a ∈ l, V a) : ∃ k, laws_FnExactHolesOf.f k l = some true := by
  refine Ev.rounds ?_
  unfold laws_FnExactHolesOf.f
  rw [szCellS_eq l 1048576 (by decide) (by decide) hv.1]
  simp only [Option.bind_some]
  by_cases h : (1048576 : Int) - (l.length : Int) < 0
  · rw [if_pos h]; exact Ev.pos (by decide) (Ev.now _)
  · rw [if_neg h]
    refine Ev.neg h ?_
    have la : l.length ≤ 1048576 := by omega
    have lm : (l.map cellOf).length ≤ 1048576 := by simpa using la
    have hs : small (l.map cellOf) := by unfold small; omega
    have hf : fits (l.map cellOf) := lm
    have hb := holesR_len (l.map cellOf)
    have hbs : small (holesR (l.map cellOf)).1 := by unfold small; omega
    have hbf : fits (holesR (l.map cellOf)).1 := by unfold fits; omega
    refine Ev.bind (toCellS_ev l la) (Ev.bind (specHolesOf_ev _ lm) (Ev.bind (toCellS_ev l la) (Ev.bind (implHolesOf_ev _ lm) (Ev.bind (eqInt64S_ev _ hbs) (Ev.pos rfl ?_)))))
    refine Ev.step (fun k => laws_FnExactHolesOf.j0.eq_2 _ _ _ _ _ _ _ _) (Ev.neg (by simp) ?_)
    refine Ev.bind (toCellS_ev l la) (Ev.bind (eqCellS_ev _ hs) (Ev.pos rfl (Ev.bind (markCellS_ev _ hf) (Ev.neg (by simp; omega) (Ev.bind (eqInt64S_ev _ hbs) (Ev.pos rfl ?_))))))
    refine Ev.step (fun k => laws_FnExactHolesOf.j1.eq_2 _ _ _ _ _ _) (Ev.neg (by simp) ?_)
    refine Ev.bind (markInt64S_ev _ 1 (by decide) (by decide) hbf) (Ev.bind (heldInt64S_ev _ (by omega)) (Ev.neg (by omega) (Ev.pos rfl ?_)))
    refine Ev.bind (toCellS_ev l la) (Ev.bind (implHolesOf_ev _ lm) (Ev.bind (eqInt64S_ev _ hbs) (Ev.pos rfl ?_)))
    refine Ev.step (fun k => laws_FnExactHolesOf.j2.eq_2 _ _ _ _) (Ev.neg (by simp) ?_)
    exact Ev.bind (heldInt64S_ev _ (by omega)) (Ev.neg (by omega) (Ev.pos rfl (Ev.now _)))
end Go.Proofs.Ytaecheolnpofeaa.Pure
end
