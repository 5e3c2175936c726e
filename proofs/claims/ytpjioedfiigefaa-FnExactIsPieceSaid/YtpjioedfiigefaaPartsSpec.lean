/- The specification finds the parts as told in Bfs. -/
import Derived.Test.YtpjioedfiigefaaPartsNb
import Derived.Test.YtpjioedfiigefaaFx0
import Derived.Test.YtpjioedfiigefaaFx27
namespace Go.Proofs.Ytpjioedfiigefaa.L
open Go.RowKit Go.Proofs.YtpjioedfiigefaaW.PrintWords Go.Proofs.YtpjioedfiigefaaW.PrintLast Go.Proofs.YtpjioedfiigefaaW.PrintMore Go.Proofs.Ytpjioedfiigefaa.F
set_option linter.unusedVariables false
set_option linter.unusedSimpArgs false

theorem ps_l3 (l : List Cell) (hl : l.length ≤ 1048576) (i : Int) (hi : 0 ≤ i) (xs : List Cell) (hx4 : xs.length = 4) (o q : List Int) (hf : Fine l o q) (hb : negs o + q.length ≤ l.length) {r : List Int}
    (hc : Ev (fun k => spec_l02Parts.l2 k l (visit l i xs (o, q)).1 i (visit l i xs (o, q)).2) r) :
    Ev (fun k => spec_l02Parts.l3 k l o i q xs 0) r := by
  have hsm : small xs := by unfold small; omega
  have hs : small l := by unfold small; omega
  refine loop_list xs (fun k j (s : List Int × List Int) => spec_l02Parts.l3 k l s.1 i s.2 xs j) (fun _ _ _ => r) (fun pre s => s = visit l i pre (o, q)) ?_ ?_ (o, q) rfl
  · rintro s rfl
    have e0 : ¬ ((xs.length : Int) < 4) := by omega
    simp only [spec_l02Parts.l3, e0, if_false]
    exact hc
  · rintro pre d suf s hx rfl ih
    obtain ⟨h1, h2, h3, _⟩ := visit_fine hi pre (s := (o, q)) hf
    simp only at h2 h3
    have hln := h1.len
    have hp4 : ((pre.length : Int) < 4) = True := by have := pre_len hx; simp; omega
    simp only [spec_l02Parts.l3, hp4, pre_lt hx, pre_0, if_true, at_pre hx, pre_w hx hsm]
    refine Ev.bind (specIndex_ev l d hs) ?_
    have hlt := idxC_lt l d
    have hq : (visit l i pre (o, q)).2.length ≤ l.length := by omega
    by_cases hg : idxC l d ≥ 0
    · refine Ev.pos hg (Ev.pos hg (Ev.pos (by omega) ?_))
      by_cases hr : rd (visit l i pre (o, q)).1 (idxC l d) < 0
      · refine Ev.pos hr (Ev.pos (by omega) ?_)
        have e : visit1 l i (visit l i pre (o, q)) d = ((visit l i pre (o, q)).1.set (idxC l d).toNat i, (visit l i pre (o, q)).2 ++ [idxC l d]) := by
          unfold visit1; rw [if_pos ⟨hg, hr⟩]
        exact ih ((visit l i pre (o, q)).1.set (idxC l d).toNat i, (visit l i pre (o, q)).2 ++ [idxC l d]) (by rw [visit_snoc, e])
      · refine Ev.neg hr (ih _ ?_)
        rw [visit_snoc]
        unfold visit1
        rw [if_neg fun h => hr h.2]
    · refine Ev.neg hg (ih _ ?_)
      rw [visit_snoc]
      unfold visit1
      rw [if_neg fun h => hg h.1]
theorem ps_l2 (l : List Cell) (hl : l.length ≤ 1048576) (i : Int) (hi : 0 ≤ i) {r : List Int} : ∀ (n : Nat) (o q : List Int), Fine l o q → negs o + q.length ≤ l.length → negs o + q.length ≤ n →
    Ev (fun k => spec_l02Parts.l1 k l (bfs aroundC l i n o q) (wrap64 (i + 1))) r → Ev (fun k => spec_l02Parts.l2 k l o i q) r := by
  intro n
  induction n with
  | zero =>
    intro o q hf hb hm hc
    obtain rfl : q = [] := List.length_eq_zero_iff.1 (by omega)
    refine Ev.succ ?_
    simp only [spec_l02Parts.l2]
    exact Ev.neg (by simp) hc
  | succ n ih =>
    intro o q hf hb hm hc
    refine Ev.succ ?_
    cases q with
    | nil =>
      simp only [spec_l02Parts.l2]
      exact Ev.neg (by simp) hc
    | cons c q =>
      have hr := hf.rng c List.mem_cons_self
      have e1 : rd (c :: q) 0 = c := rfl
      have hlen : (c :: q).length = q.length + 1 := rfl
      simp only [spec_l02Parts.l2, e1]
      refine Ev.pos (by omega) (Ev.pos (by omega) (Ev.pos hr.1 (Ev.pos hr.2 ?_)))
      simp only [specAround_eq, Option.bind_some]
      refine Ev.pos (by omega) ?_
      have hf' : Fine l o q := ⟨hf.len, fun j hj => hf.rng j (List.mem_cons_of_mem _ hj)⟩
      obtain ⟨h1, h2, h3, _⟩ := visit_fine hi (aroundC (rd_T67 l c)) (s := (o, q)) hf'
      simp only at h2 h3
      have ed : (c :: q).drop (1 : Int).toNat = q := rfl
      rw [ed]
      refine ps_l3 l hl i hi _ rfl o q hf' (by omega) ?_
      exact ih _ _ h1 (by omega) (by omega) hc
theorem ps_ev (l : List Cell) (hl : l.length ≤ 1048576) : Ev (fun k => spec_l02Parts.f k l) (partsR aroundC l) := by
  have hs : small l := by unfold small; omega
  unfold spec_l02Parts.f
  have hz := loop_list l (fun k i (s : List Int) => spec_l02Parts.l0 k l s i) (fun _ _ _ => partsR aroundC l) (fun pre s => s = List.replicate pre.length (-1)) ?_ ?_ [] rfl
  · exact hz
  · rintro s rfl
    simp only [spec_l02Parts.l0, len_lt, if_false]
    have := loop_list l (fun k i (s : List Int) => spec_l02Parts.l1 k l s i) (fun pre suf s => partsF aroundC l (pre.length : Int) suf s) (fun pre s => s.length = l.length ∧ ∀ j : Nat, j < pre.length → 0 ≤ rd s (j : Int)) ?_ ?_ (List.replicate l.length (-1)) ⟨by simp, fun j hj => by simp at hj⟩
    · exact this
    · rintro s _
      simp only [spec_l02Parts.l1, len_lt, if_false]
      exact Ev.now _
    · rintro pre c suf s hx ⟨h1, h2⟩ ih
      have hp := pre_len hx
      obtain ⟨h3, h4⟩ := step_next (nb := aroundC) (l := l) (o := s) (i := pre.length) h1 hp h2
      have hlt : ((pre.length : Int) < (s.length : Int)) = True := by rw [h1]; exact pre_lt hx
      simp only [spec_l02Parts.l1, pre_lt hx, pre_0, if_true, hlt, pre_w hx hs, Int.toNat_natCast]
      have hih := ih _ ⟨h3, by simpa using h4⟩
      unfold partsF
      rw [Int.toNat_natCast]
      have ee : ((pre ++ [c]).length : Int) = (pre.length : Int) + 1 := by simp
      rw [ee] at hih
      by_cases hg : rd s (pre.length : Int) ≥ 0
      · rw [if_pos hg] at hih ⊢
        exact Ev.pos hg hih
      · rw [if_neg hg] at hih ⊢
        refine Ev.neg hg ?_
        obtain ⟨h5, h6⟩ := step_fine h1 hp hg
        exact ps_l2 l hl (pre.length : Int) (by omega) l.length _ _ h5 (by simpa using h6) (by simpa using h6) (by rw [pre_w hx hs]; exact hih)
  · rintro pre c suf s hx rfl ih
    have hp := pre_len hx
    simp only [spec_l02Parts.l0, pre_lt hx, if_true, pre_w hx hs]
    exact Ev.pos (by rw [List.length_replicate]; omega) (ih _ (by simp [List.replicate_succ']))
end Go.Proofs.Ytpjioedfiigefaa.L
