/- parts(.., trianglesAround): the implementation finds the parts as told in Bfs. -/
import Derived.Test.YteelofmecchmcaaBfs
import Derived.Test.YteelofmecchmcaaTriNb
import Derived.Test.YteelofmecchmcaaTriWf
import Derived.Test.YteelofmecchmcaaMax
import Derived.Test.YteelofmecchmcaaFx0
import Derived.Test.YteelofmecchmcaaFx20
import Derived.Test.YteelofmecchmcaaFx21
namespace Go.Proofs.Yteelofmecchmcaa.L
open Go.RowKit Go.Proofs.YteelofmecchmcaaW.PrintWords Go.Proofs.YteelofmecchmcaaW.PrintLast Go.Proofs.YteelofmecchmcaaW.PrintMore Go.Proofs.Yteelofmecchmcaa.F
set_option linter.unusedVariables false
set_option linter.unusedSimpArgs false

theorem pt_l3 (l : List Cell) (hl : l.length ≤ 1048576) (hn : l.Nodup) (i : Int) (hi : 0 ≤ i) (xs : List Cell) (hx4 : xs.length ≤ 16) (hwx : ∀ d ∈ xs, wfC d = true) (o p q : List Int) (hf : Fine l o q) (hb : negs o + (p ++ q).length ≤ l.length) (at_ len_ n_ : Int) {r : List Int}
    (hc : Ev (fun k => impl_parts__impl_trianglesAround.l2 k l (visit l i xs (o, q)).1 i (p ++ (visit l i xs (o, q)).2) (wrap64 (at_ + 1)) len_ n_) r) :
    Ev (fun k => impl_parts__impl_trianglesAround.l3 k l o i (p ++ q) at_ len_ n_ xs (xs.length : Int) 0) r := by
  have hsm : small xs := by unfold small; omega
  refine loop_list xs (fun k j (s : List Int × List Int) => impl_parts__impl_trianglesAround.l3 k l s.1 i (p ++ s.2) at_ len_ n_ xs (xs.length : Int) j) (fun _ _ _ => r) (fun pre s => s = visit l i pre (o, q)) ?_ ?_ (o, q) rfl
  · rintro s rfl
    simp only [impl_parts__impl_trianglesAround.l3, len_lt, if_false]
    exact hc
  · rintro pre d suf s hx rfl ih
    obtain ⟨h1, h2, h3, _⟩ := visit_fine hi pre (s := (o, q)) hf
    simp only at h2 h3
    have hln := h1.len
    have hd : wfC d = true := hwx d (by rw [hx]; simp)
    simp only [impl_parts__impl_trianglesAround.l3, pre_lt hx, pre_0, if_true, at_pre hx, pre_w hx hsm, look_eq l d hn hd, Option.bind_some]
    have hlt := idxC_lt l d
    have hq : (p ++ (visit l i pre (o, q)).2).length ≤ l.length := by
      rw [List.length_append] at hb ⊢
      omega
    by_cases hg : idxC l d ≥ 0
    · simp only [hg, if_true]
      refine Ev.pos (by omega) ?_
      by_cases hr : rd (visit l i pre (o, q)).1 (idxC l d) < 0
      · refine Ev.pos hr (Ev.pos (by omega) ?_)
        have e : visit1 l i (visit l i pre (o, q)) d = ((visit l i pre (o, q)).1.set (idxC l d).toNat i, (visit l i pre (o, q)).2 ++ [idxC l d]) := by
          unfold visit1; rw [if_pos ⟨hg, hr⟩]
        have h := ih ((visit l i pre (o, q)).1.set (idxC l d).toNat i, (visit l i pre (o, q)).2 ++ [idxC l d]) (by rw [visit_snoc, e])
        rw [List.append_assoc]
        exact h
      · refine Ev.neg hr (ih _ ?_)
        rw [visit_snoc]
        unfold visit1
        rw [if_neg fun h => hr h.2]
    · simp only [hg, if_false, Bool.false_eq_true]
      refine ih _ ?_
      rw [visit_snoc]
      unfold visit1
      rw [if_neg fun h => hg h.1]
theorem pt_l2 (l : List Cell) (hl : l.length ≤ 1048576) (hn : l.Nodup) (hw : l.all wfC = true) (i : Int) (hi : 0 ≤ i) (len_ n_ : Int) {r : List Int} : ∀ (n : Nat) (o p q : List Int), Fine l o q → negs o + (p ++ q).length ≤ l.length → negs o + q.length ≤ n →
    Ev (fun k => impl_parts__impl_trianglesAround.l1 k l (bfs triC l i n o q) len_ (wrap64 (n_ + 1))) r → Ev (fun k => impl_parts__impl_trianglesAround.l2 k l o i (p ++ q) (p.length : Int) len_ n_) r := by
  intro n
  induction n with
  | zero =>
    intro o p q hf hb hm hc
    obtain rfl : q = [] := List.length_eq_zero_iff.1 (by omega)
    refine Ev.succ ?_
    simp only [impl_parts__impl_trianglesAround.l2, List.append_nil, len_lt, if_false]
    exact hc
  | succ n ih =>
    intro o p q hf hb hm hc
    refine Ev.succ ?_
    cases q with
    | nil =>
      simp only [impl_parts__impl_trianglesAround.l2, List.append_nil, len_lt, if_false]
      exact hc
    | cons c q =>
      have hr := hf.rng c List.mem_cons_self
      have hlen : (p ++ c :: q).length = p.length + (q.length + 1) := by simp
      have e1 : rd (p ++ c :: q) (p.length : Int) = c := by unfold rd; exact getD_at p q c _
      simp only [impl_parts__impl_trianglesAround.l2, e1]
      refine Ev.pos (by rw [hlen]; omega) (Ev.pos (by omega) (Ev.pos hr.1 (Ev.pos hr.2 ?_)))
      simp only [implTri_eq, Option.bind_some]
      have hf' : Fine l o q := ⟨hf.len, fun j hj => hf.rng j (List.mem_cons_of_mem _ hj)⟩
      have hwc : wfC (rd_T27 l c) = true := by
        refine List.all_eq_true.1 hw _ ?_
        unfold rd_T27
        rw [List.getD_eq_getElem?_getD, List.getElem?_eq_getElem (show c.toNat < l.length by omega)]
        exact List.getElem_mem _
      obtain ⟨h1, h2, h3, _⟩ := visit_fine hi (triC (rd_T27 l c)) (s := (o, q)) hf'
      have ea : p ++ c :: q = (p ++ [c]) ++ q := by simp
      have ew : wrap64 ((p.length : Int) + 1) = ((p ++ [c]).length : Int) := by
        rw [w64 (by omega) (by omega)]; simp
      rw [ea] at hb ⊢
      refine pt_l3 l hl hn i hi (triC (rd_T27 l c)) (triC_len _) (triC_wf hwc) o (p ++ [c]) q hf' hb _ _ _ ?_
      rw [ew]
      refine ih _ _ _ h1 ?_ ?_ hc
      · simp only [List.length_append, List.length_singleton] at hb ⊢
        simp only at h2 h3
        omega
      · simp only [List.length_cons] at hm
        simp only at h2
        omega
theorem pt_ev (l : List Cell) (hl : l.length ≤ 1048576) (hn : l.Nodup) (hw : l.all wfC = true) : Ev (fun k => impl_parts__impl_trianglesAround.f k l) (partsR triC l) := by
  have hs : small l := by unfold small; omega
  unfold impl_parts__impl_trianglesAround.f
  refine Ev.pos hw (Ev.pos (by omega) (Ev.pos (by omega) ?_))
  have hz := loop_list l (fun k i (s : List Int) => impl_parts__impl_trianglesAround.l0 k l s l (l.length : Int) i) (fun _ _ _ => partsR triC l) (fun pre s => s = List.replicate pre.length (-1) ++ List.replicate (l.length - pre.length) 0) ?_ ?_ (List.replicate (l.length : Int).toNat 0) (by simp)
  · exact hz
  · rintro s rfl
    simp only [impl_parts__impl_trianglesAround.l0, len_lt, if_false, Nat.sub_self, List.replicate_zero, List.append_nil]
    have := loop_list l (fun k i (s : List Int) => impl_parts__impl_trianglesAround.l1 k l s (l.length : Int) i) (fun pre suf s => partsF triC l (pre.length : Int) suf s) (fun pre s => s.length = l.length ∧ ∀ j : Nat, j < pre.length → 0 ≤ rd s (j : Int)) ?_ ?_ (List.replicate l.length (-1)) ⟨by simp, fun j hj => by simp at hj⟩
    · exact this
    · rintro s _
      simp only [impl_parts__impl_trianglesAround.l1, len_lt, if_false]
      exact Ev.now _
    · rintro pre c suf s hx ⟨h1, h2⟩ ih
      have hp := pre_len hx
      obtain ⟨h3, h4⟩ := step_next (nb := triC) (l := l) (o := s) (i := pre.length) h1 hp h2
      have hlt : ((pre.length : Int) < (s.length : Int)) = True := by rw [h1]; exact pre_lt hx
      simp only [impl_parts__impl_trianglesAround.l1, pre_lt hx, pre_0, if_true, hlt, pre_w hx hs, Int.toNat_natCast]
      have hih := ih _ ⟨h3, by simpa using h4⟩
      unfold partsF
      rw [Int.toNat_natCast]
      have ee : ((pre ++ [c]).length : Int) = (pre.length : Int) + 1 := by simp
      rw [ee] at hih
      by_cases hg : rd s (pre.length : Int) ≥ 0
      · rw [if_pos hg] at hih ⊢
        exact Ev.pos hg hih
      · rw [if_neg hg] at hih ⊢
        refine Ev.neg hg ?_
        obtain ⟨h5, h6⟩ := step_fine h1 hp hg
        have e0 : ([(pre.length : Int)] : List Int) = [] ++ [(pre.length : Int)] := rfl
        have := pt_l2 l hl hn hw (pre.length : Int) (by omega) (l.length : Int) (pre.length : Int) (r := partsF triC l ((pre.length : Int) + 1) suf (bfs triC l (pre.length : Int) l.length (s.set pre.length (pre.length : Int)) [(pre.length : Int)])) l.length (s.set pre.length (pre.length : Int)) [] [(pre.length : Int)] h5 (by simpa using h6) (by simpa using h6) (by
          rw [pre_w hx hs]; exact hih)
        exact this
  · rintro pre c suf s hx rfl ih
    have hp := pre_len hx
    have hlt : ((pre.length : Int) < ((List.replicate pre.length (-1 : Int) ++ List.replicate (l.length - pre.length) 0).length : Int)) = True := by simp; omega
    simp only [impl_parts__impl_trianglesAround.l0, pre_lt hx, pre_0, if_true, hlt, pre_w hx hs, Int.toNat_natCast]
    refine ih _ ?_
    have e : l.length - pre.length = (l.length - (pre.length + 1)) + 1 := by omega
    simp only [List.length_append, List.length_singleton]
    rw [e, List.replicate_succ, List.set_append_right _ _ (by simp)]
    simp [List.replicate_succ', List.append_assoc]

theorem pt_conn (l : List Cell) (hl : l.length ≤ 1048576) (h0 : l ≠ []) (hn : l.Nodup) (hw : l.all wfC = true) : Ev (fun k => impl_connected__impl_trianglesAround.f k l) (oneB (partsR triC l)) := by
  unfold impl_connected__impl_trianglesAround.f
  have hln := partsR_len triC l
  have hp := partsR_pos triC l
  have hpos : 0 < (partsR triC l).length := by rw [hln]; exact List.length_pos_iff.2 h0
  refine Ev.bind (pt_ev l hl hn hw) (Ev.bind (max_ev _ (by unfold small; omega) hpos hp) (Ev.of_eq (Ev.now _) ?_))
  have h := (foldl_mx (partsR triC l) 0 (Int.le_refl _) hp).2
  rw [Bool.eq_iff_iff, beq_iff_eq, h]
  simp
end Go.Proofs.Yteelofmecchmcaa.L
