/- The row of FnExactIsPuzzle, with what it needs: text 11 of 12. -/
import Derived.Test.YtfdfdifjkaaeoaaGreatKIP9
set_option maxHeartbeats 8000000
set_option maxRecDepth 100000
section
namespace Go.Proofs.YtfdfdifjkaaeoaaGreat.L
open Go.RowKit Go.Proofs.YtfdfdifjkaaeoaaGreatW.PrintWords Go.Proofs.YtfdfdifjkaaeoaaGreatW.PrintLast Go.Proofs.YtfdfdifjkaaeoaaGreatW.PrintMore Go.Proofs.YtfdfdifjkaaeoaaGreat.F
set_option linter.unusedVariables false
set_option linter.unusedSimpArgs false
theorem bfs_fine {nb : Cell → List Cell} {l : List Cell} {i : Int} (hi : 0 ≤ i) : ∀ (n : Nat) (o q : List Int), Fine l o q → (bfs nb l i n o q).length = l.length ∧ ∀ j : Int, 0 ≤ rd o j → 0 ≤ rd (bfs nb l i n o q) j
  | 0, o, q, h => ⟨h.len, fun _ h => h⟩
  | n + 1, o, [], h => ⟨h.len, fun _ h => h⟩
  | n + 1, o, c :: q, h => by
    have h' : Fine l o q := ⟨h.len, fun j hj => h.rng j (List.mem_cons_of_mem _ hj)⟩
    obtain ⟨h1, _, _, h4⟩ := visit_fine hi (nb (rd_T58 l c)) (s := (o, q)) h'
    obtain ⟨h5, h6⟩ := bfs_fine hi n _ _ h1
    exact ⟨h5, fun j hj => h6 j (h4 j hj)⟩
def partsF (nb : Cell → List Cell) (l : List Cell) : Int → List Cell → List Int → List Int
  | _, [], o => o
  | i, _ :: r, o => partsF nb l (i + 1) r (if rd o i ≥ 0 then o else bfs nb l i l.length (o.set i.toNat i) [i])
def partsR (nb : Cell → List Cell) (l : List Cell) : List Int := partsF nb l 0 l (List.replicate l.length (-1))
theorem step_fine {l : List Cell} {o : List Int} {i : Nat} (hl : o.length = l.length) (hi : i < l.length) (h : ¬ rd o (i : Int) ≥ 0) : Fine l (o.set i (i : Int)) [(i : Int)] ∧ negs (o.set i (i : Int)) + 1 ≤ l.length := by
  refine ⟨⟨by simpa using hl, fun j hj => by simp at hj; omega⟩, ?_⟩
  have h1 := negs_set o (i : Int) (i : Int) (by omega) (by omega) (by omega) (by omega)
  rw [Int.toNat_natCast] at h1
  have h2 : negs o ≤ o.length := List.countP_le_length
  omega
theorem step_next {nb : Cell → List Cell} {l : List Cell} {o : List Int} {i : Nat} (hl : o.length = l.length) (hi : i < l.length) (hd : ∀ j : Nat, j < i → 0 ≤ rd o (j : Int)) :
    (if rd o (i : Int) ≥ 0 then o else bfs nb l (i : Int) l.length (o.set i (i : Int)) [(i : Int)]).length = l.length ∧ ∀ j : Nat, j < i + 1 → 0 ≤ rd (if rd o (i : Int) ≥ 0 then o else bfs nb l (i : Int) l.length (o.set i (i : Int)) [(i : Int)]) (j : Int) := by
  by_cases h : rd o (i : Int) ≥ 0
  · rw [if_pos h]
    refine ⟨hl, fun j hj => ?_⟩
    by_cases e : j = i
    · exact e ▸ h
    · exact hd j (by omega)
  · rw [if_neg h]
    obtain ⟨h1, h2⟩ := step_fine hl hi h
    obtain ⟨h3, h4⟩ := bfs_fine (nb := nb) (i := (i : Int)) (by omega) l.length _ _ h1
    refine ⟨h3, fun j hj => h4 _ ?_⟩
    rw [rd_set _ _ _ _ (by omega), Int.toNat_natCast]
    split
    · omega
    · exact hd j (by omega)
theorem partsF_fine {nb : Cell → List Cell} {l : List Cell} : ∀ (r pre : List Cell) (o : List Int), l = pre ++ r → o.length = l.length → (∀ j : Nat, j < pre.length → 0 ≤ rd o (j : Int)) → (partsF nb l (pre.length : Int) r o).length = l.length ∧ ∀ j : Nat, j < l.length → 0 ≤ rd (partsF nb l (pre.length : Int) r o) (j : Int)
  | [], pre, o, h, hl, hd => by
    rw [List.append_nil] at h
    subst h
    exact ⟨hl, hd⟩
  | c :: r, pre, o, h, hl, hd => by
    obtain ⟨h1, h2⟩ := step_next (nb := nb) (l := l) (o := o) (i := pre.length) hl (by rw [h]; simp) hd
    have := partsF_fine (nb := nb) r (pre ++ [c]) _ (by rw [h]; simp) h1 (by simpa using h2)
    rw [List.length_append] at this
    exact this
theorem partsR_len (nb : Cell → List Cell) (l : List Cell) : (partsR nb l).length = l.length := (partsF_fine l [] _ rfl (by simp) (fun j hj => by simp at hj)).1
theorem partsR_pos (nb : Cell → List Cell) (l : List Cell) : ∀ x ∈ partsR nb l, 0 ≤ x := by
  intro x hx
  obtain ⟨j, hj, e⟩ := List.getElem_of_mem hx
  have h := (partsF_fine (nb := nb) (l := l) l [] (List.replicate l.length (-1)) rfl (by simp) (fun j hj => by simp at hj)).2 j (by have := partsR_len nb l; omega)
  have h' : 0 ≤ rd (partsR nb l) (j : Int) := h
  unfold rd at h'
  rw [List.getD_eq_getElem?_getD, Int.toNat_natCast, List.getElem?_eq_getElem hj] at h'
  exact e ▸ h'
theorem wf64 {n : Int} (h : -9223372036854775808 ≤ n) (h' : n ≤ 9223372036854775807) : (Lit.int .i64 n).wf = true := by
  simp only [Lit.wf, IntKind.min, IntKind.max, IntKind.signed, IntKind.bits, Bool.and_eq_true, decide_eq_true_eq, if_true]; omega
theorem wf_wrap (n : Int) : (Lit.int .i64 (wrap64 n)).wf = true := wf64 (by unfold wrap64; omega) (by unfold wrap64; omega)
theorem wfC_ok {c : Cell} (h : okC c) : wfC c = true := by
  unfold wfC
  unfold okC ok1 at h
  rw [wf64 (by omega) (by omega), wf64 (by omega) (by omega)]
  rfl
theorem lastIdx_eq (c : Cell) : ∀ (l : List Cell) (i : Nat), l.Nodup → lastIdx l c i = if idxF l c (i : Int) ≥ 0 then some (idxF l c (i : Int)).toNat else none
  | [], i, _ => by simp [lastIdx, idxF]
  | a :: r, i, h => by
    obtain ⟨h1, h2⟩ := List.nodup_cons.1 h
    have ih := lastIdx_eq c r (i + 1) h2
    have e : ((i + 1 : Nat) : Int) = (i : Int) + 1 := by omega
    rw [e] at ih
    unfold lastIdx idxF
    rw [ih]
    by_cases hs : sameC a c = true
    · have hac := sameC_iff.1 hs
      rw [if_pos hs]
      have hn : ¬ idxF r c ((i : Int) + 1) ≥ 0 := by
        rcases idxF_spec r c ((i : Int) + 1) (by omega) with ⟨h3, _⟩ | ⟨j, _, _, h3, _⟩
        · omega
        · exact absurd (List.mem_of_getElem? h3) (hac ▸ h1)
      rw [if_neg hn]
      have : a.f0 = c.f0 ∧ a.f1 = c.f1 := by rw [hac]; exact ⟨rfl, rfl⟩
      simp only [this, and_self, if_true]
      simp
    · rw [if_neg hs]
      have hne : ¬ (a.f0 = c.f0 ∧ a.f1 = c.f1) := by
        intro h3
        apply hs
        simp [sameC, h3.1, h3.2]
      by_cases hg : idxF r c ((i : Int) + 1) ≥ 0
      · rw [if_pos hg]
      · rw [if_neg hg]
        simp only [hne, if_false]
theorem look_eq (l : List Cell) (d : Cell) (hn : l.Nodup) (hw : wfC d = true) : impl_partsLook.f l d.f0 d.f1 = some (if idxC l d ≥ 0 then (idxC l d, true) else (0, false)) := by
  unfold impl_partsLook.f
  have hw' : wfC ⟨d.f0, d.f1⟩ = true := hw
  rw [if_pos hw']
  have := lastIdx_eq d l 0 hn
  have e : lastIdx l ⟨d.f0, d.f1⟩ 0 = if idxC l d ≥ 0 then some (idxC l d).toNat else none := this
  rw [e]
  by_cases h : idxC l d ≥ 0
  · rw [if_pos h, if_pos h]
    simp only [Int.toNat_of_nonneg h]
  · rw [if_neg h, if_neg h]
end Go.Proofs.YtfdfdifjkaaeoaaGreat.L
end
section
namespace Go.Proofs.YtfdfdifjkaaeoaaGreat.L
open Go.RowKit Go.Proofs.YtfdfdifjkaaeoaaGreatW.PrintWords Go.Proofs.YtfdfdifjkaaeoaaGreat.F
set_option linter.unusedVariables false
theorem aroundC_len (c : Cell) : (aroundC c).length ≤ 16 := by simp [aroundC]
theorem aroundC_wf {c : Cell} (h : wfC c = true) : ∀ d ∈ aroundC c, wfC d = true := by
  unfold wfC at h
  rw [Bool.and_eq_true] at h
  intro d hd
  simp only [aroundC, List.mem_cons, List.not_mem_nil, or_false] at hd
  rcases hd with rfl | rfl | rfl | rfl <;> simp [wfC, h.1, h.2, wf_wrap]
end Go.Proofs.YtfdfdifjkaaeoaaGreat.L
end
section
namespace Go.Proofs.YtfdfdifjkaaeoaaGreat.L
open Go.RowKit Go.Proofs.YtfdfdifjkaaeoaaGreatW.PrintWords Go.Proofs.YtfdfdifjkaaeoaaGreatW.PrintLast Go.Proofs.YtfdfdifjkaaeoaaGreatW.PrintMore Go.Proofs.YtfdfdifjkaaeoaaGreat.F
set_option linter.unusedVariables false
set_option linter.unusedSimpArgs false
theorem ps_l3 (l : List Cell) (hl : l.length ≤ 1048576) (i : Int) (hi : 0 ≤ i) (xs : List Cell) (hx4 : xs.length = 4) (o q : List Int) (hf : Fine l o q) (hb : negs o + q.length ≤ l.length) {r : List Int}
    (hc : Ev (fun k => spec_l02Parts.l2 k l (visit l i xs (o, q)).1 i (visit l i xs (o, q)).2) r) :
    Ev (fun k => spec_l02Parts.l3 k l o i q xs 0) r := by
  have hsm : small xs := by unfold small; omega
  have hs : small l := by unfold small; omega
  refine loop_list xs (fun k j (s : List Int × List Int) => spec_l02Parts.l3 k l s.1 i s.2 xs j) (fun _ _ _ => r) (fun pre s => s = visit l i pre (o, q)) ?_ ?_ (o, q) rfl
  · rintro s rfl
    have e0 : ¬ ((xs.length : Int) < 4) := by omega
    simp only [spec_l02Parts.l3, e0, if_false]
    exact hc
  · rintro pre d suf s hx rfl ih
    obtain ⟨h1, h2, h3, _⟩ := visit_fine hi pre (s := (o, q)) hf
    simp only at h2 h3
    have hln := h1.len
    have hp4 : ((pre.length : Int) < 4) = True := by have := pre_len hx; simp; omega
    simp only [spec_l02Parts.l3, hp4, pre_lt hx, pre_0, if_true, at_pre hx, pre_w hx hsm]
    refine Ev.bind (specIndex_ev l d hs) ?_
    have hlt := idxC_lt l d
    have hq : (visit l i pre (o, q)).2.length ≤ l.length := by omega
    by_cases hg : idxC l d ≥ 0
    · refine Ev.pos hg (Ev.pos hg (Ev.pos (by omega) ?_))
      by_cases hr : rd (visit l i pre (o, q)).1 (idxC l d) < 0
      · refine Ev.pos hr (Ev.pos (by omega) ?_)
        have e : visit1 l i (visit l i pre (o, q)) d = ((visit l i pre (o, q)).1.set (idxC l d).toNat i, (visit l i pre (o, q)).2 ++ [idxC l d]) := by
          unfold visit1; rw [if_pos ⟨hg, hr⟩]
        exact ih ((visit l i pre (o, q)).1.set (idxC l d).toNat i, (visit l i pre (o, q)).2 ++ [idxC l d]) (by rw [visit_snoc, e])
      · refine Ev.neg hr (ih _ ?_)
        rw [visit_snoc]
        unfold visit1
        rw [if_neg fun h => hr h.2]
    · refine Ev.neg hg (ih _ ?_)
      rw [visit_snoc]
      unfold visit1
      rw [if_neg fun h => hg h.1]
theorem ps_l2 (l : List Cell) (hl : l.length ≤ 1048576) (i : Int) (hi : 0 ≤ i) {r : List Int} : ∀ (n : Nat) (o q : List Int), Fine l o q → negs o + q.length ≤ l.length → negs o + q.length ≤ n →
    Ev (fun k => spec_l02Parts.l1 k l (bfs aroundC l i n o q) (wrap64 (i + 1))) r → Ev (fun k => spec_l02Parts.l2 k l o i q) r := by
  intro n
  induction n with
  | zero =>
    intro o q hf hb hm hc
    obtain rfl : q = [] := List.length_eq_zero_iff.1 (by omega)
    refine Ev.succ ?_
    simp only [spec_l02Parts.l2]
    exact Ev.neg (by simp) hc
  | succ n ih =>
    intro o q hf hb hm hc
    refine Ev.succ ?_
    cases q with
    | nil =>
      simp only [spec_l02Parts.l2]
      exact Ev.neg (by simp) hc
    | cons c q =>
      have hr := hf.rng c List.mem_cons_self
      have e1 : rd (c :: q) 0 = c := rfl
      have hlen : (c :: q).length = q.length + 1 := rfl
      simp only [spec_l02Parts.l2, e1]
      refine Ev.pos (by omega) (Ev.pos (by omega) (Ev.pos hr.1 (Ev.pos hr.2 ?_)))
      simp only [specAround_eq, Option.bind_some]
      refine Ev.pos (by omega) ?_
      have hf' : Fine l o q := ⟨hf.len, fun j hj => hf.rng j (List.mem_cons_of_mem _ hj)⟩
      obtain ⟨h1, h2, h3, _⟩ := visit_fine hi (aroundC (rd_T58 l c)) (s := (o, q)) hf'
      simp only at h2 h3
      have ed : (c :: q).drop (1 : Int).toNat = q := rfl
      rw [ed]
      refine ps_l3 l hl i hi _ rfl o q hf' (by omega) ?_
      exact ih _ _ h1 (by omega) (by omega) hc
theorem ps_ev (l : List Cell) (hl : l.length ≤ 1048576) : Ev (fun k => spec_l02Parts.f k l) (partsR aroundC l) := by
  have hs : small l := by unfold small; omega
  unfold spec_l02Parts.f
  have hz := loop_list l (fun k i (s : List Int) => spec_l02Parts.l0 k l s i) (fun _ _ _ => partsR aroundC l) (fun pre s => s = List.replicate pre.length (-1)) ?_ ?_ [] rfl
  · exact hz
  · rintro s rfl
    simp only [spec_l02Parts.l0, len_lt, if_false]
    have := loop_list l (fun k i (s : List Int) => spec_l02Parts.l1 k l s i) (fun pre suf s => partsF aroundC l (pre.length : Int) suf s) (fun pre s => s.length = l.length ∧ ∀ j : Nat, j < pre.length → 0 ≤ rd s (j : Int)) ?_ ?_ (List.replicate l.length (-1)) ⟨by simp, fun j hj => by simp at hj⟩
    · exact this
    · rintro s _
      simp only [spec_l02Parts.l1, len_lt, if_false]
      exact Ev.now _
    · rintro pre c suf s hx ⟨h1, h2⟩ ih
      have hp := pre_len hx
      obtain ⟨h3, h4⟩ := step_next (nb := aroundC) (l := l) (o := s) (i := pre.length) h1 hp h2
      have hlt : ((pre.length : Int) < (s.length : Int)) = True := by rw [h1]; exact pre_lt hx
      simp only [spec_l02Parts.l1, pre_lt hx, pre_0, if_true, hlt, pre_w hx hs, Int.toNat_natCast]
      have hih := ih _ ⟨h3, by simpa using h4⟩
      unfold partsF
      rw [Int.toNat_natCast]
      have ee : ((pre ++ [c]).length : Int) = (pre.length : Int) + 1 := by simp
      rw [ee] at hih
      by_cases hg : rd s (pre.length : Int) ≥ 0
      · rw [if_pos hg] at hih ⊢
        exact Ev.pos hg hih
      · rw [if_neg hg] at hih ⊢
        refine Ev.neg hg ?_
        obtain ⟨h5, h6⟩ := step_fine h1 hp hg
        exact ps_l2 l hl (pre.length : Int) (by omega) l.length _ _ h5 (by simpa using h6) (by simpa using h6) (by rw [pre_w hx hs]; exact hih)
  · rintro pre c suf s hx rfl ih
    have hp := pre_len hx
    simp only [spec_l02Parts.l0, pre_lt hx, if_true, pre_w hx hs]
    exact Ev.pos (by rw [List.length_replicate]; omega) (ih _ (by simp [List.replicate_succ']))
def oneB (l : List Int) : Bool := l.all fun x => decide (x = 0)
def first (nb : Cell → List Cell) (l : List Cell) : List Int := bfs nb l 0 l.length ((List.replicate l.length (-1 : Int)).set 0 0) [0]
theorem max_ev (l : List Int) (hs : small l) (h0 : 0 < l.length) (hp : ∀ x ∈ l, 0 ≤ x) : Ev (fun k => slices_Max_int64_int64.f k l) (l.foldl mx 0) := by
  unfold slices_Max_int64_int64.f
  obtain ⟨c, r, rfl⟩ : ∃ c r, l = c :: r := by cases l with | nil => simp at h0 | cons c r => exact ⟨c, r, rfl⟩
  refine Ev.neg (by omega) (Ev.pos (by omega) ?_)
  have h1 : rd (c :: r) 0 = c := rfl
  rw [h1]
  have := loop_tail c r (fun k i (s : Int) => slices_Max_int64_int64.l0 k (c :: r) s i) (fun _ suf s => suf.foldl mx s) (fun _ _ => True) ?_ ?_ c trivial
  · refine Ev.of_eq this ?_
    have hc := hp c List.mem_cons_self
    have : mx 0 c = c := by unfold mx; split <;> omega
    simp [this]
  · rintro s _
    simp only [slices_Max_int64_int64.l0, len_lt, if_false]
    exact Ev.now _
  · rintro pre d suf s hx _ _ ih
    simp only [slices_Max_int64_int64.l0, pre_lt hx, pre_0, if_true, at_preI hx, pre_w hx hs]
    exact ih (mx s d) trivial
theorem foldl_mx : ∀ (l : List Int) (a : Int), 0 ≤ a → (∀ x ∈ l, 0 ≤ x) → 0 ≤ l.foldl mx a ∧ (l.foldl mx a = 0 ↔ a = 0 ∧ oneB l = true)
  | [], a, ha, _ => ⟨ha, by simp [oneB]⟩
  | c :: r, a, ha, h => by
    have hc := h c List.mem_cons_self
    have h1 : 0 ≤ mx a c := by unfold mx; split <;> omega
    obtain ⟨h2, h3⟩ := foldl_mx r (mx a c) h1 (fun x hx => h x (List.mem_cons_of_mem _ hx))
    refine ⟨h2, h3.trans ?_⟩
    have h4 : mx a c = 0 ↔ a = 0 ∧ c = 0 := by unfold mx; split <;> omega
    rw [h4]
    simp [oneB, and_assoc]
theorem pa_l3 (l : List Cell) (hl : l.length ≤ 1048576) (hn : l.Nodup) (i : Int) (hi : 0 ≤ i) (xs : List Cell) (hx4 : xs.length ≤ 16) (hwx : ∀ d ∈ xs, wfC d = true) (o p q : List Int) (hf : Fine l o q) (hb : negs o + (p ++ q).length ≤ l.length) (at_ len_ n_ : Int) {r : List Int}
    (hc : Ev (fun k => impl_parts__impl_around.l2 k l (visit l i xs (o, q)).1 i (p ++ (visit l i xs (o, q)).2) (wrap64 (at_ + 1)) len_ n_) r) :
    Ev (fun k => impl_parts__impl_around.l3 k l o i (p ++ q) at_ len_ n_ xs (xs.length : Int) 0) r := by
  have hsm : small xs := by unfold small; omega
  refine loop_list xs (fun k j (s : List Int × List Int) => impl_parts__impl_around.l3 k l s.1 i (p ++ s.2) at_ len_ n_ xs (xs.length : Int) j) (fun _ _ _ => r) (fun pre s => s = visit l i pre (o, q)) ?_ ?_ (o, q) rfl
  · rintro s rfl
    simp only [impl_parts__impl_around.l3, len_lt, if_false]
    exact hc
  · rintro pre d suf s hx rfl ih
    obtain ⟨h1, h2, h3, _⟩ := visit_fine hi pre (s := (o, q)) hf
    simp only at h2 h3
    have hln := h1.len
    have hd : wfC d = true := hwx d (by rw [hx]; simp)
    simp only [impl_parts__impl_around.l3, pre_lt hx, pre_0, if_true, at_pre hx, pre_w hx hsm, look_eq l d hn hd, Option.bind_some]
    have hlt := idxC_lt l d
    have hq : (p ++ (visit l i pre (o, q)).2).length ≤ l.length := by
      rw [List.length_append] at hb ⊢
      omega
    by_cases hg : idxC l d ≥ 0
    · simp only [hg, if_true]
      refine Ev.pos (by omega) ?_
      by_cases hr : rd (visit l i pre (o, q)).1 (idxC l d) < 0
      · refine Ev.pos hr (Ev.pos (by omega) ?_)
        have e : visit1 l i (visit l i pre (o, q)) d = ((visit l i pre (o, q)).1.set (idxC l d).toNat i, (visit l i pre (o, q)).2 ++ [idxC l d]) := by
          unfold visit1; rw [if_pos ⟨hg, hr⟩]
        have h := ih ((visit l i pre (o, q)).1.set (idxC l d).toNat i, (visit l i pre (o, q)).2 ++ [idxC l d]) (by rw [visit_snoc, e])
        rw [List.append_assoc]
        exact h
      · refine Ev.neg hr (ih _ ?_)
        rw [visit_snoc]
        unfold visit1
        rw [if_neg fun h => hr h.2]
    · simp only [hg, if_false, Bool.false_eq_true]
      refine ih _ ?_
      rw [visit_snoc]
      unfold visit1
      rw [if_neg fun h => hg h.1]
theorem pa_l2 (l : List Cell) (hl : l.length ≤ 1048576) (hn : l.Nodup) (hw : l.all wfC = true) (i : Int) (hi : 0 ≤ i) (len_ n_ : Int) {r : List Int} : ∀ (n : Nat) (o p q : List Int), Fine l o q → negs o + (p ++ q).length ≤ l.length → negs o + q.length ≤ n →
    Ev (fun k => impl_parts__impl_around.l1 k l (bfs aroundC l i n o q) len_ (wrap64 (n_ + 1))) r → Ev (fun k => impl_parts__impl_around.l2 k l o i (p ++ q) (p.length : Int) len_ n_) r := by
  intro n
  induction n with
  | zero =>
    intro o p q hf hb hm hc
    obtain rfl : q = [] := List.length_eq_zero_iff.1 (by omega)
    refine Ev.succ ?_
    simp only [impl_parts__impl_around.l2, List.append_nil, len_lt, if_false]
    exact hc
  | succ n ih =>
    intro o p q hf hb hm hc
    refine Ev.succ ?_
    cases q with
    | nil =>
      simp only [impl_parts__impl_around.l2, List.append_nil, len_lt, if_false]
      exact hc
    | cons c q =>
      have hr := hf.rng c List.mem_cons_self
      have hlen : (p ++ c :: q).length = p.length + (q.length + 1) := by simp
      have e1 : rd (p ++ c :: q) (p.length : Int) = c := by unfold rd; exact getD_at p q c _
      simp only [impl_parts__impl_around.l2, e1]
      refine Ev.pos (by rw [hlen]; omega) (Ev.pos (by omega) (Ev.pos hr.1 (Ev.pos hr.2 ?_)))
      simp only [implAround_eq, Option.bind_some]
      have hf' : Fine l o q := ⟨hf.len, fun j hj => hf.rng j (List.mem_cons_of_mem _ hj)⟩
      have hwc : wfC (rd_T58 l c) = true := by
        refine List.all_eq_true.1 hw _ ?_
        unfold rd_T58
        rw [List.getD_eq_getElem?_getD, List.getElem?_eq_getElem (show c.toNat < l.length by omega)]
        exact List.getElem_mem _
      obtain ⟨h1, h2, h3, _⟩ := visit_fine hi (aroundC (rd_T58 l c)) (s := (o, q)) hf'
      have ea : p ++ c :: q = (p ++ [c]) ++ q := by simp
      have ew : wrap64 ((p.length : Int) + 1) = ((p ++ [c]).length : Int) := by
        rw [w64 (by omega) (by omega)]; simp
      rw [ea] at hb ⊢
      refine pa_l3 l hl hn i hi (aroundC (rd_T58 l c)) (aroundC_len _) (aroundC_wf hwc) o (p ++ [c]) q hf' hb _ _ _ ?_
      rw [ew]
      refine ih _ _ _ h1 ?_ ?_ hc
      · simp only [List.length_append, List.length_singleton] at hb ⊢
        simp only at h2 h3
        omega
      · simp only [List.length_cons] at hm
        simp only at h2
        omega
theorem pa_ev (l : List Cell) (hl : l.length ≤ 1048576) (hn : l.Nodup) (hw : l.all wfC = true) : Ev (fun k => impl_parts__impl_around.f k l) (partsR aroundC l) := by
  have hs : small l := by unfold small; omega
  unfold impl_parts__impl_around.f
  refine Ev.pos hw (Ev.pos (by omega) (Ev.pos (by omega) ?_))
  have hz := loop_list l (fun k i (s : List Int) => impl_parts__impl_around.l0 k l s l (l.length : Int) i) (fun _ _ _ => partsR aroundC l) (fun pre s => s = List.replicate pre.length (-1) ++ List.replicate (l.length - pre.length) 0) ?_ ?_ (List.replicate (l.length : Int).toNat 0) (by simp)
  · exact hz
  · rintro s rfl
    simp only [impl_parts__impl_around.l0, len_lt, if_false, Nat.sub_self, List.replicate_zero, List.append_nil]
    have := loop_list l (fun k i (s : List Int) => impl_parts__impl_around.l1 k l s (l.length : Int) i) (fun pre suf s => partsF aroundC l (pre.length : Int) suf s) (fun pre s => s.length = l.length ∧ ∀ j : Nat, j < pre.length → 0 ≤ rd s (j : Int)) ?_ ?_ (List.replicate l.length (-1)) ⟨by simp, fun j hj => by simp at hj⟩
    · exact this
    · rintro s _
      simp only [impl_parts__impl_around.l1, len_lt, if_false]
      exact Ev.now _
    · rintro pre c suf s hx ⟨h1, h2⟩ ih
      have hp := pre_len hx
      obtain ⟨h3, h4⟩ := step_next (nb := aroundC) (l := l) (o := s) (i := pre.length) h1 hp h2
      have hlt : ((pre.length : Int) < (s.length : Int)) = True := by rw [h1]; exact pre_lt hx
      simp only [impl_parts__impl_around.l1, pre_lt hx, pre_0, if_true, hlt, pre_w hx hs, Int.toNat_natCast]
      have hih := ih _ ⟨h3, by simpa using h4⟩
      unfold partsF
      rw [Int.toNat_natCast]
      have ee : ((pre ++ [c]).length : Int) = (pre.length : Int) + 1 := by simp
      rw [ee] at hih
      by_cases hg : rd s (pre.length : Int) ≥ 0
      · rw [if_pos hg] at hih ⊢
        exact Ev.pos hg hih
      · rw [if_neg hg] at hih ⊢
        refine Ev.neg hg ?_
        obtain ⟨h5, h6⟩ := step_fine h1 hp hg
        have e0 : ([(pre.length : Int)] : List Int) = [] ++ [(pre.length : Int)] := rfl
        have := pa_l2 l hl hn hw (pre.length : Int) (by omega) (l.length : Int) (pre.length : Int) (r := partsF aroundC l ((pre.length : Int) + 1) suf (bfs aroundC l (pre.length : Int) l.length (s.set pre.length (pre.length : Int)) [(pre.length : Int)])) l.length (s.set pre.length (pre.length : Int)) [] [(pre.length : Int)] h5 (by simpa using h6) (by simpa using h6) (by
          rw [pre_w hx hs]; exact hih)
        exact this
  · rintro pre c suf s hx rfl ih
    have hp := pre_len hx
    have hlt : ((pre.length : Int) < ((List.replicate pre.length (-1 : Int) ++ List.replicate (l.length - pre.length) 0).length : Int)) = True := by simp; omega
    simp only [impl_parts__impl_around.l0, pre_lt hx, pre_0, if_true, hlt, pre_w hx hs, Int.toNat_natCast]
    refine ih _ ?_
    have e : l.length - pre.length = (l.length - (pre.length + 1)) + 1 := by omega
    simp only [List.length_append, List.length_singleton]
    rw [e, List.replicate_succ, List.set_append_right _ _ (by simp)]
    simp [List.replicate_succ', List.append_assoc]
theorem pa_conn (l : List Cell) (hl : l.length ≤ 1048576) (h0 : l ≠ []) (hn : l.Nodup) (hw : l.all wfC = true) : Ev (fun k => impl_connected__impl_around.f k l) (oneB (partsR aroundC l)) := by
  unfold impl_connected__impl_around.f
  have hln := partsR_len aroundC l
  have hp := partsR_pos aroundC l
  have hpos : 0 < (partsR aroundC l).length := by rw [hln]; exact List.length_pos_iff.2 h0
  refine Ev.bind (pa_ev l hl hn hw) (Ev.bind (max_ev _ (by unfold small; omega) hpos hp) (Ev.of_eq (Ev.now _) ?_))
  have h := (foldl_mx (partsR aroundC l) 0 (Int.le_refl _) hp).2
  rw [Bool.eq_iff_iff, beq_iff_eq, h]
  simp
def connB (l : List Cell) : Bool := oneB (partsR aroundC l)
theorem shape_fine {l : List Cell} (h : shapeB l = true) : l ≠ [] ∧ l.Nodup ∧ l.all wfC = true ∧ l.length ≤ 1048576 := by
  obtain ⟨h1, h2, h3, h4⟩ := shapeB_iff.1 h
  refine ⟨shape_ne h, h2.imp fun {a b} hab e => ?_, List.all_eq_true.2 fun c hc => wfC_ok (h1 c hc), by omega⟩
  subst e
  unfold ltC at hab
  omega
theorem region_shape {l : List Cell} (h : regionB l = true) : shapeB l = true := by
  unfold regionB at h
  rw [Bool.and_eq_true] at h
  exact h.1
end Go.Proofs.YtfdfdifjkaaeoaaGreat.L
end
section
namespace Go.Proofs.YtfdfdifjkaaeoaaGreat.L
open Go.RowKit Go.Proofs.YtfdfdifjkaaeoaaGreatW.PrintWords Go.Proofs.YtfdfdifjkaaeoaaGreatW.PrintLast Go.Proofs.YtfdfdifjkaaeoaaGreatW.PrintMore Go.Proofs.YtfdfdifjkaaeoaaGreat.F
set_option linter.unusedVariables false
set_option linter.unusedSimpArgs false
theorem one_ev (l : List Int) (hs : small l) : Ev (fun k => spec_l02One.f k l) (oneB l) := by
  unfold spec_l02One.f
  refine loop_list l (fun k i (_ : Unit) => spec_l02One.l0 k l i) (fun pre suf _ => oneB suf) (fun _ _ => True) ?_ ?_ () trivial
  · intro _ _
    simp only [spec_l02One.l0, len_lt, if_false]
    exact Ev.now _
  · intro pre c suf _ hx _ ih
    simp only [spec_l02One.l0, pre_lt hx, pre_0, if_true, at_preI hx, pre_w hx hs]
    by_cases hc : c = 0
    · exact Ev.pos hc (Ev.of_eq (ih () trivial) (by simp [oneB, hc]))
    · exact Ev.neg hc (Ev.of_eq (Ev.now _) (by simp [oneB, hc]))
theorem specConn_ev (l : List Cell) (hl : l.length ≤ 1048576) : Ev (fun k => spec_IsConnected.f k l) (shapeB l && connB l) := by
  have hs : small l := by unfold small; omega
  unfold spec_IsConnected.f
  refine Ev.bind (specIsShape_ev l hs) ?_
  by_cases h : shapeB l = true
  · refine Ev.pos h (Ev.bind (ps_ev l hl) (Ev.bind (one_ev _ (by unfold small; rw [partsR_len]; omega)) (Ev.of_eq (Ev.now _) ?_)))
    simp [h, connB]
  · exact Ev.neg h (Ev.of_eq (Ev.now _) (by simp [h]))
def pieceB (l : List Cell) (n : Int) : Bool := regionB l && (connB l && decide (1 ≤ n ∧ n ≤ 8))
theorem specIsPiece_ev (l : List Cell) (n : Int) (b : Bool) (hl : l.length ≤ 1048576) : Ev (fun k => spec_IsPiece.f k l n b) (pieceB l n) := by
  have hs : small l := by unfold small; omega
  unfold spec_IsPiece.f pieceB
  refine Ev.bind (specIsRegion_ev l hs) ?_
  by_cases h : regionB l = true
  · refine Ev.pos h (Ev.bind (specConn_ev l hl) ?_)
    rw [region_shape h, Bool.true_and, h, Bool.true_and]
    by_cases hc : connB l = true
    · refine Ev.pos hc ?_
      simp only [in_eq, Option.bind_some, hc, Bool.true_and]
      exact Ev.now _
    · exact Ev.neg hc (Ev.of_eq (Ev.now _) (by simp [hc]))
  · exact Ev.neg h (Ev.of_eq (Ev.now _) (by simp [h]))
theorem implIsPiece_ev (l : List Cell) (n : Int) (b : Bool) (hl : l.length ≤ 1048576) : Ev (fun k => impl_IsPiece.f k l n b) (pieceB l n) := by
  have hs : small l := by unfold small; omega
  unfold impl_IsPiece.f pieceB
  refine Ev.bind (implIsRegion_ev l hs) ?_
  by_cases h : regionB l = true
  · obtain ⟨h1, h2, h3, _⟩ := shape_fine (region_shape h)
    refine Ev.pos h (Ev.bind (pa_conn l hl h1 h2 h3) ?_)
    rw [h, Bool.true_and]
    by_cases hc : connB l = true
    · refine Ev.pos hc ?_
      simp only [within_eq, Option.bind_some, hc, Bool.true_and]
      exact Ev.now _
    · exact Ev.neg hc (Ev.of_eq (Ev.now _) (by simp [hc]))
  · exact Ev.neg h (Ev.of_eq (Ev.now _) (by simp [h]))
end Go.Proofs.YtfdfdifjkaaeoaaGreat.L
end
section
namespace Go.Proofs.YtfdfdifjkaaeoaaGreat.L
open Go.RowKit Go.Proofs.YtfdfdifjkaaeoaaGreatW.PrintWords Go.Proofs.YtfdfdifjkaaeoaaGreatW.PrintLast Go.Proofs.YtfdfdifjkaaeoaaGreatW.PrintMore Go.Proofs.YtfdfdifjkaaeoaaGreat.F
set_option linter.unusedVariables false
set_option linter.unusedSimpArgs false
abbrev Piece := S43
abbrev LPiece := S52
def pieceOf (c : LPiece) : Piece := ⟨c.f0.map cellOf, c.f1, c.f2⟩
theorem at_preP {xs pre suf : List Piece} {c : Piece} (h : xs = pre ++ c :: suf) : rd_T43 xs (pre.length : Int) = c := by
  subst h; exact getD_at pre suf c _
theorem at_preLP {xs pre suf : List LPiece} {c : LPiece} (h : xs = pre ++ c :: suf) : rd_T52 xs (pre.length : Int) = c := by
  subst h; exact getD_at pre suf c _
theorem pieceP_pos {l : List Cell} {n : Int} (h : pieceB l n = true) : 0 < l.length := by
  unfold pieceB at h
  rw [Bool.and_eq_true] at h
  have := (shapeB_iff.1 (region_shape h.1)).2.2.1
  omega
def szP : List LPiece → Int → Int
  | [], n => n
  | c :: r, n => if n - (c.f0.length : Int) < 0 then -1 else szP r (n - (c.f0.length : Int))
theorem szP_le : ∀ (l : List LPiece) (n : Int), n ≤ 1048576 → 0 ≤ szP l n → ∀ c ∈ l, c.f0.length ≤ 1048576
  | [], n, h1, h2, c, hc => by simp at hc
  | a :: r, n, h1, h2, c, hc => by
    unfold szP at h2
    by_cases h : n - (a.f0.length : Int) < 0
    · rw [if_pos h] at h2; omega
    · rw [if_neg h] at h2
      rcases List.mem_cons.1 hc with rfl | hc
      · omega
      · exact szP_le r _ (by omega) h2 c hc
theorem szPieceS_l (L : List LPiece) (hs : L.length ≤ 1048576) (hv : ∀ c ∈ L, c.f0.length ≤ 9223372036854775807) : ∀ (suf pre : List LPiece) (n : Int), L = pre ++ suf → 0 ≤ n → n ≤ 1048576 → Ev (fun k => laws_szPieceS.l0 k L n (pre.length : Int)) (szP suf n)
  | [], pre, n, hx, h0, h1 => by
    refine Ev.succ ?_
    have hp := congrArg List.length hx
    simp only [List.length_append, List.length_nil] at hp
    simp only [laws_szPieceS.l0]
    exact Ev.neg (by omega) (Ev.now _)
  | c :: suf, pre, n, hx, h0, h1 => by
    refine Ev.succ ?_
    have hsm : small L := by unfold small; omega
    have ih := szPieceS_l L hs hv suf (pre ++ [c]) (n - (c.f0.length : Int)) (by rw [hx]; simp)
    simp only [List.length_append, List.length_singleton, Int.natCast_add] at ih
    simp only [laws_szPieceS.l0, pre_lt hx, pre_0, if_true, at_preLP hx, pre_w hx hsm]
    have hsz : laws_szPiece.f c.f0 c.f1 c.f2 n = some (if n - (c.f0.length : Int) < 0 then -1 else n - (c.f0.length : Int)) := by
      unfold laws_szPiece.f
      rw [szCellS_eq c.f0 n h0 h1 (hv c (by rw [hx]; simp))]
      simp only [Option.bind_some]
      by_cases h : n - (c.f0.length : Int) < 0
      · rw [if_pos h, if_pos (by decide)]
      · rw [if_neg h, if_neg h]
    refine Ev.bind0 hsz ?_
    unfold szP
    by_cases h : n - (c.f0.length : Int) < 0
    · rw [if_pos h]; exact Ev.of_eq (Ev.pos (by decide) (Ev.now _)) (by rw [if_pos h])
    · rw [if_neg h, if_neg h]; exact Ev.neg h (ih (by omega) (by omega))
def szZ (a : List LCell) (b : List LPiece) : Int :=
  if 1048576 - (a.length : Int) < 0 then -1 else if 1048576 - (a.length : Int) - (b.length : Int) < 0 then -1 else szP b (1048576 - (a.length : Int) - (b.length : Int))
theorem szPuzzle_ev (a : List LCell) (b : List LPiece) (ha : a.length ≤ 9223372036854775807) (hb : b.length ≤ 9223372036854775807) (hv : ∀ c ∈ b, c.f0.length ≤ 9223372036854775807) : Ev (fun k => (laws_szPuzzle.f k a b 1048576)) (if szZ a b < 0 then -1 else szZ a b) := by
  unfold laws_szPuzzle.f szZ
  rw [szCellS_eq a 1048576 (by decide) (by decide) ha]
  simp only [Option.bind_some]
  by_cases h : (1048576 : Int) - (a.length : Int) < 0
  · simp only [if_pos h]
    exact Ev.pos (by decide) (Ev.of_eq (Ev.now _) (by rw [if_pos (by decide)]))
  · simp only [if_neg h]
    unfold laws_szPieceS.f
    rw [w64 (n := 1048576 - (a.length : Int) - (b.length : Int)) (by omega) (by omega)]
    by_cases h2 : (1048576 : Int) - (a.length : Int) - (b.length : Int) < 0
    · simp only [if_pos h2, Option.bind_some]
      exact Ev.pos (by decide) (Ev.of_eq (Ev.now _) (by rw [if_pos (by decide)]))
    · simp only [if_neg h2]
      refine Ev.bind (szPieceS_l b (by omega) hv b [] _ rfl (by omega) (by omega)) ?_
      by_cases h3 : szP b (1048576 - (a.length : Int) - (b.length : Int)) < 0
      · exact Ev.of_eq (Ev.pos h3 (Ev.now _)) (by rw [if_pos h3])
      · exact Ev.of_eq (Ev.neg h3 (Ev.now _)) (by rw [if_neg h3])
theorem szZ_le {a : List LCell} {b : List LPiece} (h : ¬ szZ a b < 0) : a.length ≤ 1048576 ∧ b.length ≤ 1048576 ∧ ∀ c ∈ b, c.f0.length ≤ 1048576 := by
  unfold szZ at h
  by_cases h1 : (1048576 : Int) - (a.length : Int) < 0
  · rw [if_pos h1] at h; omega
  · rw [if_neg h1] at h
    by_cases h2 : (1048576 : Int) - (a.length : Int) - (b.length : Int) < 0
    · rw [if_pos h2] at h; omega
    · rw [if_neg h2] at h
      exact ⟨by omega, by omega, szP_le b (1048576 - (a.length : Int) - (b.length : Int)) (by omega) (by omega)⟩
theorem toPieceP_ev (c : LPiece) (la : c.f0.length ≤ 1048576) : Ev (fun k => laws_toPiece.f k c.f0 c.f1 c.f2) (c.f0.map cellOf, c.f1, c.f2) := by
  unfold laws_toPiece.f
  exact Ev.bind (toCellS_ev c.f0 la) (Ev.now _)
theorem toPieceS_ev (b : List LPiece) (hb : b.length ≤ 1048576) (hv : ∀ c ∈ b, c.f0.length ≤ 1048576) : Ev (fun k => laws_toPieceS.f k b) (b.map pieceOf) := by
  have hs : small b := by unfold small; omega
  unfold laws_toPieceS.f
  refine Ev.pos (by omega) (Ev.pos (by omega) ?_)
  have := loop_list b (fun k i (s : List Piece) => laws_toPieceS.l0 k b s i) (fun _ suf s => s.take (b.length - suf.length) ++ suf.map pieceOf) (fun pre s => s.length = b.length) ?_ ?_ (List.replicate b.length z43) (by simp)
  · refine Ev.of_eq this ?_
    simp
  · intro s hl
    simp only [laws_toPieceS.l0, len_lt, if_false]
    refine Ev.of_eq (Ev.now _) ?_
    simp [List.take_of_length_le, hl]
  · intro pre c suf s hx hl ih
    have hlt : ((pre.length : Int) < (s.length : Int)) = True := by rw [hl]; exact pre_lt hx
    simp only [laws_toPieceS.l0, pre_lt hx, pre_0, if_true, at_preLP hx, hlt, pre_w hx hs]
    refine Ev.bind (toPieceP_ev c (hv c (by rw [hx]; simp))) ?_
    refine Ev.of_eq (ih (s.set (pre.length : Int).toNat (pieceOf c)) (by simpa using hl)) ?_
    have hn : b.length = pre.length + (suf.length + 1) := by rw [hx]; simp
    have e1 : b.length - suf.length = pre.length + 1 := by omega
    have e2 : b.length - (c :: suf).length = pre.length := by simp; omega
    rw [e1, e2, Int.toNat_natCast, List.take_add_one, List.getElem?_set_self (by omega), List.take_set_of_le (Nat.le_refl _)]
    simp
theorem toPuzzle_ev (a : List LCell) (b : List LPiece) (ha : a.length ≤ 1048576) (hb : b.length ≤ 1048576) (hv : ∀ c ∈ b, c.f0.length ≤ 1048576) : Ev (fun k => laws_toPuzzle.f k a b) (a.map cellOf, b.map pieceOf) := by
  unfold laws_toPuzzle.f
  exact Ev.bind (toCellS_ev a ha) (Ev.bind (toPieceS_ev b hb hv) (Ev.now _))
theorem eqPuzzle_ev (R : List Cell) (P : List Piece) (hR : small R) (hP : small P) (hv : ∀ c ∈ P, small c.f0) : Ev (fun k => laws_eqPuzzle.f k R P R P) true := by
  unfold laws_eqPuzzle.f
  refine Ev.bind (eqCellS_ev R hR) (Ev.pos rfl (Ev.bind (a := true) ?_ (Ev.pos rfl (Ev.now _))))
  unfold laws_eqPieceS.f
  refine Ev.pos rfl ?_
  refine loop_list P (fun k i (_ : Unit) => laws_eqPieceS.l0 k P P i) (fun _ _ _ => true) (fun _ _ => True) ?_ ?_ () trivial
  · intro _ _
    simp only [laws_eqPieceS.l0, len_lt, if_false]
    exact Ev.now _
  · intro pre c suf _ hx _ ih
    simp only [laws_eqPieceS.l0, pre_lt hx, pre_0, if_true, at_preP hx, pre_w hx hP]
    refine Ev.bind (a := true) ?_ (Ev.pos rfl (ih () trivial))
    unfold laws_eqPiece.f
    exact Ev.bind (eqCellS_ev c.f0 (hv c (by rw [hx]; simp))) (Ev.pos rfl (Ev.pos rfl (Ev.neg (by simp) (Ev.now _))))
def likeP (c y : Piece) : Bool := meetF (pieceF c.f0 c.f2) (pieceF y.f0 y.f2)
theorem likeP_len {c y : Piece} (h : c.f0.length ≠ y.f0.length) : likeP c y = false := by
  rw [Bool.eq_false_iff]
  intro hm
  unfold likeP meetF at hm
  obtain ⟨x, hx, e⟩ := List.any_eq_true.1 hm
  obtain ⟨z, hz, e⟩ := List.any_eq_true.1 e
  have hxz : x = z := (cmpS_zero x z).1 (by simpa using e)
  have h1 := pieceF_mem x hx
  have h2 := pieceF_mem z hz
  rw [hxz] at h1
  omega
def okPs : List Piece → List Piece → Bool
  | _, [] => true
  | pre, c :: r => pieceB c.f0 c.f1 && (!(pre.any fun y => likeP c y) && okPs (pre ++ [c]) r)
def puzzleB (R : List Cell) (P : List Piece) : Bool := regionB R && (decide (1 ≤ (P.length : Int) ∧ (P.length : Int) ≤ 12) && okPs [] P)
section
variable (R : List Cell) (P : List Piece) (hP : P.length ≤ 1048576) (hv : ∀ c ∈ P, c.f0.length ≤ 1048576)
include hP hv
theorem specPz_l1 {r : Bool} (pre : List Piece) (c : Piece) (suf : List Piece) (hx : P = pre ++ c :: suf) (hc : pieceB c.f0 c.f1 = true) (ho : ∀ y ∈ pre, pieceB y.f0 y.f1 = true) : ∀ (s2 p2 : List Piece), pre = p2 ++ s2 →
    Ev (fun k => if (s2.any fun y => likeP c y) = true then some false else spec_IsPuzzle.l0 k (wrap64 ((pre.length : Int) + 1)) R P) r → Ev (fun k => spec_IsPuzzle.l1 k (pre.length : Int) (p2.length : Int) R P) r
  | [], p2, h2, hr => by
    refine Ev.succ ?_
    have hp := congrArg List.length h2
    simp only [List.length_append, List.length_nil] at hp
    simp only [spec_IsPuzzle.l1]
    refine Ev.neg (by omega) ?_
    simpa using hr
  | y :: s2, p2, h2, hr => by
    refine Ev.succ ?_
    have hp := congrArg List.length h2
    simp only [List.length_append, List.length_cons] at hp
    have hx2 : P = p2 ++ y :: (s2 ++ c :: suf) := by rw [hx, h2]; simp
    have hs : small P := by unfold small; omega
    have hym : y ∈ pre := by rw [h2]; simp
    have hcm : c ∈ P := by rw [hx]; simp
    have hyp : y ∈ P := by rw [hx]; simp [hym]
    have hlt := pre_lt hx
    have hlt2 := pre_lt hx2
    simp only [spec_IsPuzzle.l1, pre_lt hx2, pre_lt hx, pre_0, if_true, at_preP hx, at_preP hx2, pre_w hx2 hs]
    refine Ev.pos (by omega) (Ev.bind (specAlike_ev c.f0 c.f1 c.f2 y.f0 y.f1 y.f2 (hv c hcm) (hv y hyp) (pieceP_pos hc) (pieceP_pos (ho y hym))) ?_)
    have hl : meetF (pieceF c.f0 c.f2) (pieceF y.f0 y.f2) = likeP c y := rfl
    rw [hl]
    cases hq : likeP c y with
    | true =>
      refine Ev.pos rfl ?_
      simpa [hq] using hr
    | false =>
      refine Ev.neg (by simp) ?_
      have := specPz_l1 pre c suf hx hc ho s2 (p2 ++ [y]) (by rw [h2]; simp) (by simpa [hq] using hr)
      simpa using this
theorem specPz_l0 : ∀ (suf pre : List Piece), P = pre ++ suf → (∀ y ∈ pre, pieceB y.f0 y.f1 = true) → Ev (fun k => spec_IsPuzzle.l0 k (pre.length : Int) R P) (okPs pre suf)
  | [], pre, hx, ho => by
    refine Ev.succ ?_
    have hp := congrArg List.length hx
    simp only [List.length_append, List.length_nil] at hp
    simp only [spec_IsPuzzle.l0]
    exact Ev.neg (by omega) (Ev.now _)
  | c :: suf, pre, hx, ho => by
    refine Ev.succ ?_
    have hs : small P := by unfold small; omega
    simp only [spec_IsPuzzle.l0, pre_lt hx, pre_0, if_true, at_preP hx]
    refine Ev.bind (specIsPiece_ev c.f0 c.f1 c.f2 (hv c (by rw [hx]; simp))) ?_
    unfold okPs
    by_cases hc : pieceB c.f0 c.f1 = true
    · refine Ev.pos hc (specPz_l1 R P hP hv pre c suf hx hc ho pre [] rfl ?_)
      rw [hc, Bool.true_and]
      by_cases hq : (pre.any fun y => likeP c y) = true
      · exact Ev.pos hq (Ev.of_eq (Ev.now _) (by simp [hq]))
      · refine Ev.neg hq ?_
        rw [pre_w hx hs]
        have ih := specPz_l0 suf (pre ++ [c]) (by rw [hx]; simp) (fun y hy => by
          rcases List.mem_append.1 hy with hy | hy
          · exact ho y hy
          · simp at hy; exact hy ▸ hc)
        simp only [List.length_append, List.length_singleton, Int.natCast_add] at ih
        refine Ev.of_eq ih ?_
        simp [hq]
    · exact Ev.neg hc (Ev.of_eq (Ev.now _) (by simp [hc]))
theorem implPz_l1 {r : Bool} (n i : Int) (pre : List Piece) (c : Piece) (suf : List Piece) (hx : P = pre ++ c :: suf) (hc : pieceB c.f0 c.f1 = true) (ho : ∀ y ∈ pre, pieceB y.f0 y.f1 = true) : ∀ (s2 p2 : List Piece), pre = p2 ++ s2 →
    Ev (fun k => if (s2.any fun y => likeP c y) = true then some false else impl_IsPuzzle.l0 k P n (wrap64 (i + 1)) R P) r → Ev (fun k => impl_IsPuzzle.l1 k P n i pre (pre.length : Int) (p2.length : Int) R P c.f0 c.f1 c.f2) r
  | [], p2, h2, hr => by
    refine Ev.succ ?_
    have hp := congrArg List.length h2
    simp only [List.length_append, List.length_nil] at hp
    simp only [impl_IsPuzzle.l1]
    refine Ev.neg (by omega) ?_
    simpa using hr
  | y :: s2, p2, h2, hr => by
    refine Ev.succ ?_
    have hpl : pre.length ≤ P.length := by rw [hx]; simp
    have hs : small pre := by unfold small; omega
    have hym : y ∈ pre := by rw [h2]; simp
    have hcm : c ∈ P := by rw [hx]; simp
    have hyp : y ∈ P := by rw [hx]; simp [hym]
    simp only [impl_IsPuzzle.l1, pre_lt h2, pre_0, if_true, at_preP h2, pre_w h2 hs]
    have ih (hq : likeP c y = false) := implPz_l1 n i pre c suf hx hc ho s2 (p2 ++ [y]) (by rw [h2]; simp) (by simpa [hq] using hr)
    simp only [List.length_append, List.length_singleton, Int.natCast_add] at ih
    by_cases hl : c.f0.length = y.f0.length
    · refine Ev.pos (by omega) (Ev.bind (implAlike_ev c.f0 c.f1 c.f2 y.f0 y.f1 y.f2 (hv c hcm) (hv y hyp) (pieceP_pos hc) (pieceP_pos (ho y hym))) ?_)
      have hl : meetF (pieceF c.f0 c.f2) (pieceF y.f0 y.f2) = likeP c y := rfl
      rw [hl]
      cases hq : likeP c y with
      | true =>
        refine Ev.pos rfl ?_
        simpa [hq] using hr
      | false => exact Ev.neg (by simp) (ih hq)
    · exact Ev.neg (by omega) (ih (likeP_len hl))
theorem implPz_l0 : ∀ (suf pre : List Piece), P = pre ++ suf → (∀ y ∈ pre, pieceB y.f0 y.f1 = true) → Ev (fun k => impl_IsPuzzle.l0 k P (P.length : Int) (pre.length : Int) R P) (okPs pre suf)
  | [], pre, hx, ho => by
    refine Ev.succ ?_
    have hp := congrArg List.length hx
    simp only [List.length_append, List.length_nil] at hp
    simp only [impl_IsPuzzle.l0]
    exact Ev.neg (by omega) (Ev.now _)
  | c :: suf, pre, hx, ho => by
    refine Ev.succ ?_
    have hs : small P := by unfold small; omega
    have htk : P.take (pre.length : Int).toNat = pre := by rw [hx]; simp
    have hpl := pre_lt hx
    simp only [impl_IsPuzzle.l0, pre_lt hx, pre_0, if_true, at_preP hx, htk]
    refine Ev.bind (implIsPiece_ev c.f0 c.f1 c.f2 (hv c (by rw [hx]; simp))) ?_
    unfold okPs
    by_cases hc : pieceB c.f0 c.f1 = true
    · refine Ev.pos hc (Ev.pos (by simp at hpl; omega) (Ev.bind0 rfl (implPz_l1 R P hP hv _ (pre.length : Int) pre c suf hx hc ho pre [] rfl ?_)))
      rw [hc, Bool.true_and]
      by_cases hq : (pre.any fun y => likeP c y) = true
      · exact Ev.pos hq (Ev.of_eq (Ev.now _) (by simp [hq]))
      · refine Ev.neg hq ?_
        rw [pre_w hx hs]
        have ih := implPz_l0 suf (pre ++ [c]) (by rw [hx]; simp) (fun y hy => by
          rcases List.mem_append.1 hy with hy | hy
          · exact ho y hy
          · simp at hy; exact hy ▸ hc)
        simp only [List.length_append, List.length_singleton, Int.natCast_add] at ih
        refine Ev.of_eq ih ?_
        simp [hq]
    · exact Ev.neg hc (Ev.of_eq (Ev.now _) (by simp [hc]))
theorem specPuzzle_ev (hR : small R) : Ev (fun k => spec_IsPuzzle.f k R P) (puzzleB R P) := by
  unfold spec_IsPuzzle.f puzzleB
  refine Ev.bind (specIsRegion_ev R hR) ?_
  have jt : Ev (fun k => spec_IsPuzzle.j0 k true R P) false := Ev.step (fun k => spec_IsPuzzle.j0.eq_2 _ _ _ _) (Ev.pos rfl (Ev.now _))
  by_cases h : regionB R = true
  · refine Ev.pos h ?_
    rw [in_eq]
    refine Ev.bind0 rfl ?_
    by_cases hn : 1 ≤ (P.length : Int) ∧ (P.length : Int) ≤ 12
    · rw [decide_eq_true hn, h]
      exact Ev.step (fun k => spec_IsPuzzle.j0.eq_2 _ _ _ _) (Ev.neg (by simp) (Ev.of_eq (specPz_l0 R P hP hv P [] rfl (by simp)) (by simp)))
    · rw [decide_eq_false hn]
      exact Ev.of_eq jt (by simp)
  · exact Ev.neg h (Ev.of_eq jt (by simp [h]))
theorem implPuzzle_ev (hR : small R) : Ev (fun k => impl_IsPuzzle.f k R P) (puzzleB R P) := by
  unfold impl_IsPuzzle.f puzzleB
  refine Ev.bind (implIsRegion_ev R hR) ?_
  have jt : Ev (fun k => impl_IsPuzzle.j0 k true R P) false := Ev.step (fun k => impl_IsPuzzle.j0.eq_2 _ _ _ _) (Ev.pos rfl (Ev.now _))
  by_cases h : regionB R = true
  · refine Ev.pos h ?_
    by_cases h1 : (P.length : Int) < 1
    · have hn : ¬ (1 ≤ (P.length : Int) ∧ (P.length : Int) ≤ 12) := by omega
      rw [decide_eq_false hn]
      exact Ev.pos h1 (Ev.of_eq jt (by simp))
    · refine Ev.neg h1 ?_
      by_cases h2 : (P.length : Int) > 12
      · have hn : ¬ (1 ≤ (P.length : Int) ∧ (P.length : Int) ≤ 12) := by omega
        rw [decide_eq_false hn, decide_eq_true h2]
        exact Ev.of_eq jt (by simp)
      · have hn : 1 ≤ (P.length : Int) ∧ (P.length : Int) ≤ 12 := by omega
        rw [decide_eq_true hn, decide_eq_false h2, h]
        exact Ev.step (fun k => impl_IsPuzzle.j0.eq_2 _ _ _ _) (Ev.neg (by simp) (Ev.of_eq (implPz_l0 R P hP hv P [] rfl (by simp)) (by simp)))
  · exact Ev.neg h (Ev.of_eq jt (by simp [h]))
end
theorem puzzle_args {a : List LCell} {b : List LPiece} (h : ¬ szZ a b < 0) : small (a.map cellOf) ∧ (b.map pieceOf).length ≤ 1048576 ∧ (∀ c ∈ b.map pieceOf, c.f0.length ≤ 1048576) ∧ small (b.map pieceOf) ∧ ∀ c ∈ b.map pieceOf, small c.f0 := by
  obtain ⟨h1, h2, h3⟩ := szZ_le h
  have h4 : ∀ c ∈ b.map pieceOf, c.f0.length ≤ 1048576 := fun c hc => by
    obtain ⟨d, hd, rfl⟩ := List.mem_map.1 hc
    have := h3 d hd
    show (d.f0.map cellOf).length ≤ _
    simpa using this
  refine ⟨by unfold small; simp; omega, by simpa using h2, h4, by unfold small; simp; omega, fun c hc => by have := h4 c hc; unfold small; omega⟩
end Go.Proofs.YtfdfdifjkaaeoaaGreat.L
end
section
namespace Go.Proofs.YtfdfdifjkaaeoaaGreat.Pure
open Go.RowKit Go.Proofs.YtfdfdifjkaaeoaaGreatW.PrintWords Go.Proofs.YtfdfdifjkaaeoaaGreat.F Go.Proofs.YtfdfdifjkaaeoaaGreat.L
set_option linter.unusedVariables false
theorem FnExactIsPuzzle (a : List LCell) (b : List LPiece) (hv : V25 ⟨a, b⟩) : ∃ k, laws_FnExactIsPuzzle.f k a b = some true := by
  refine Ev.rounds ?_
  have va : a.length ≤ 9223372036854775807 := hv.1.1
  have vb : b.length ≤ 9223372036854775807 := hv.2.1
  have vc : ∀ c ∈ b, c.f0.length ≤ 9223372036854775807 := fun c hc => (hv.2.2 c hc).1.1
  unfold laws_FnExactIsPuzzle.f
  refine Ev.bind (szPuzzle_ev a b va vb vc) ?_
  by_cases h : szZ a b < 0
  · rw [if_pos h]; exact Ev.pos (by decide) (Ev.now _)
  · rw [if_neg h]
    obtain ⟨h1, h2, h3⟩ := szZ_le h
    obtain ⟨g1, g2, g3, g4, g5⟩ := puzzle_args h
    have tz := toPuzzle_ev a b h1 h2 h3
    refine Ev.neg h (Ev.bind tz (Ev.bind (specPuzzle_ev _ _ g2 g3 g1) (Ev.bind tz (Ev.bind (implPuzzle_ev _ _ g2 g3 g1) (Ev.neg (by simp) ?_)))))
    exact Ev.bind tz (Ev.bind (eqPuzzle_ev _ _ g1 g4 g5) (Ev.pos rfl (Ev.now _)))
end Go.Proofs.YtfdfdifjkaaeoaaGreat.Pure
end
