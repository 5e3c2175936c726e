/- The row of FnExactCountTriangles, with what it needs: text 13 of 14. -/
import Derived.Test.YtnohbmnoioikbaaKCT11
set_option maxHeartbeats 8000000
set_option maxRecDepth 100000
section
namespace Go.Proofs.Ytnohbmnoioikbaa.L
open Go.RowKit Go.Proofs.YtnohbmnoioikbaaW.PrintWords Go.Proofs.YtnohbmnoioikbaaW.PrintLast Go.Proofs.YtnohbmnoioikbaaW.PrintMore Go.Proofs.Ytnohbmnoioikbaa.F
set_option linter.unusedVariables false
set_option linter.unusedSimpArgs false
theorem implAll_lT {m : Int} {n : Nat} (now : List (List Cell)) (h : ∀ s ∈ now, Good triX m n s) (hm : 0 ≤ m ∧ m ≤ 80) (hn : n ≤ 6) (h0 : 0 < now.length) (hl : now.length ≤ 1000000000) (len_ i_ : Int) {r : List (List Cell)} : ∀ (suf pre acc : List (List Cell)), now = pre ++ suf → acc = pre.flatMap (grownL triC normalT) → Ev (fun k => impl_allGrown__impl_trianglesAround_impl_normalTriangles.l0 k (nextI triC normalT now) len_ (wrap64 (i_ + 1))) r →
    Ev (fun k => impl_allGrown__impl_trianglesAround_impl_normalTriangles.l1 k acc len_ i_ now (now.length : Int) (pre.length : Int)) r
  | [], pre, acc, hx, ha, hc => by
    refine Ev.succ ?_
    rw [List.append_nil] at hx
    subst hx ha
    simp only [impl_allGrown__impl_trianglesAround_impl_normalTriangles.l1]
    refine Ev.neg (by omega) ?_
    have h1 : (now.flatMap (grownL triC normalT)).length ≤ now.length * 36 := flat_len _ 36 now fun s hs => by
      have := grownL_len triLatt s
      have := (h s hs).len
      omega
    obtain ⟨s, hs⟩ := List.exists_mem_of_length_pos h0
    have h2 := (implGrown_evT s (h s hs) hm (by omega)).2
    obtain ⟨x, hx⟩ := List.exists_mem_of_length_pos h2
    have h3 : 0 < (now.flatMap (grownL triC normalT)).length := List.length_pos_of_mem (List.mem_flatMap.2 ⟨s, hs, hx⟩)
    exact Ev.bind0 (implTidy_eq _ h3 (by omega)) hc
  | s :: suf, pre, acc, hx, ha, hc => by
    refine Ev.succ ?_
    have hsm : small now := by unfold small; omega
    have hs : s ∈ now := by rw [hx]; simp
    have hi := implAll_lT now h hm hn h0 hl len_ i_ suf (pre ++ [s]) (acc ++ grownL triC normalT s) (by rw [hx]; simp) (by rw [ha]; simp) hc
    simp only [List.length_append, List.length_singleton, Int.natCast_add] at hi
    have h1 : acc.length ≤ pre.length * 36 := by
      rw [ha]
      exact flat_len _ 36 pre fun s hs => by
        have := grownL_len triLatt s
        have := (h s (by rw [hx]; simp [hs])).len
        omega
    have h2 := grownL_len triLatt s
    have h3 := (h s hs).len
    have h4 := pre_len hx
    simp only [impl_allGrown__impl_trianglesAround_impl_normalTriangles.l1, pre_lt hx, pre_0, if_true, at_preL2 hx, pre_w hx hsm]
    exact Ev.bind (implGrown_evT s (h s hs) hm (by omega)).1 (Ev.pos (by omega) hi)
theorem implAll_qT (N : Nat) (hN : N ≤ 6) : ∀ (q i : Nat) (m : Int) (n : Nat) (now : List (List Cell)), i + q = N → (∀ s ∈ now, Good triX m n s) → 0 ≤ m → m + q * 2 ≤ 80 → n + q ≤ 6 → 0 < now.length → now.length * 36 ^ q ≤ 1000000000 →
    Ev (fun k => impl_allGrown__impl_trianglesAround_impl_normalTriangles.l0 k now (N : Int) (i : Int)) (growI triC normalT q now)
  | 0, i, m, n, now, hi, h, h0, h1, h2, h3, h4 => by
    refine Ev.succ ?_
    simp only [impl_allGrown__impl_trianglesAround_impl_normalTriangles.l0]
    exact Ev.neg (by omega) (Ev.now _)
  | q + 1, i, m, n, now, hi, h, h0, h1, h2, h3, h4 => by
    have e36 : 36 ^ (q + 1) = 36 ^ q * 36 := Nat.pow_succ ..
    have e1 : 0 < 36 ^ q := Nat.pow_pos (by omega)
    have hnl : now.length ≤ 1000000000 := Nat.le_trans (Nat.le_mul_of_pos_right _ (by rw [e36]; omega)) h4
    have ew : wrap64 ((i : Int) + 1) = ((i + 1 : Nat) : Int) := by rw [w64 (by omega) (by omega)]; omega
    have hg : ∀ x ∈ nextI triC normalT now, Good triX (m + 2) (n + 1) x := by
      rw [next_eq fun s hs => (h s hs).lt]
      exact good_next triLatt h (by omega)
    have hnx : (nextI triC normalT now).length ≤ now.length * 36 := by
      rw [next_eq fun s hs => (h s hs).lt]
      refine Nat.le_trans (nextS_len triLatt (n := n) fun s hs => (h s hs).len) (Nat.mul_le_mul_left _ (by omega))
    have hn0 : 0 < (nextI triC normalT now).length := by
      obtain ⟨s, hs⟩ := List.exists_mem_of_length_pos h3
      have h2 := (implGrown_evT s (h s hs) (by omega) (by omega)).2
      obtain ⟨x, hx⟩ := List.exists_mem_of_length_pos h2
      exact List.length_pos_of_mem (tidyL_mem.2 (List.mem_flatMap.2 ⟨s, hs, hx⟩))
    have hb : (nextI triC normalT now).length * 36 ^ q ≤ 1000000000 := by
      refine Nat.le_trans (Nat.mul_le_mul_right _ hnx) ?_
      rw [Nat.mul_assoc, Nat.mul_comm 36, ← e36]
      exact h4
    refine Ev.succ ?_
    simp only [impl_allGrown__impl_trianglesAround_impl_normalTriangles.l0]
    refine Ev.pos (by omega) (implAll_lT now h (by omega) (by omega) h3 hnl _ _ now [] [] rfl rfl ?_)
    rw [ew]
    exact implAll_qT N hN q (i + 1) (m + 2) (n + 1) _ (by omega) hg (by omega) (by omega) (by omega) hn0 hb
theorem specAll_3T (N x6 i j : Int) (now : List (List Cell)) (s : List Cell) (hs : s.length ≤ 64) (hi0 : 0 ≤ i) (hi1 : i < (now.length : Int)) (hrd : rd_L2 now i = s) (arr : List Cell) (ha : arr.length ≤ 64) {r : List (List Cell)} : ∀ (suf pre : List Cell) (next : List (List Cell)), arr = pre ++ suf → next.length + suf.length ≤ 900000000 →
    Ev (fun k => spec_l07All.l2 k 0 N now x6 (((freeOf s suf).map fun d => normalT (insC d s)).foldl addL next) i (wrap64 (j + 1))) r → Ev (fun k => spec_l07All.l3 k 0 N now x6 next i j arr (pre.length : Int)) r
  | [], pre, next, hx, hl, hc => by
    refine Ev.succ ?_
    rw [List.append_nil] at hx
    subst hx
    simp only [spec_l07All.l3]
    exact Ev.neg (by omega) (by simpa [freeOf] using hc)
  | d :: suf, pre, next, hx, hl, hc => by
    refine Ev.succ ?_
    have hsm : small arr := by unfold small; omega
    simp only [List.length_cons] at hl
    have hi (next' : List (List Cell)) (ho : next'.length + suf.length ≤ 900000000) (hc' : Ev (fun k => spec_l07All.l2 k 0 N now x6 (((freeOf s suf).map fun d => normalT (insC d s)).foldl addL next') i (wrap64 (j + 1))) r) := specAll_3T N x6 i j now s hs hi0 hi1 hrd arr ha suf (pre ++ [d]) next' (by rw [hx]; simp) ho hc'
    simp only [List.length_append, List.length_singleton, Int.natCast_add] at hi
    simp only [spec_l07All.l3, pre_lt hx, pre_0, if_true, at_pre hx, pre_w hx hsm, hrd]
    refine Ev.pos hi0 (Ev.pos hi1 (Ev.bind (specIndex_ev s d (by unfold small; omega)) ?_))
    by_cases hm : d ∈ s
    · have := (idxC_mem s d).2 hm
      refine Ev.neg (by omega) (hi next (by omega) ?_)
      simpa [freeOf, hm] using hc
    · have : ¬ idxC s d ≥ 0 := fun h => hm ((idxC_mem s d).1 h)
      have hil : (insC d s).length = s.length + 1 := by rw [(insC_perm d s).length_eq, List.length_cons]
      have hnl : (normalT (insC d s)).length = s.length + 1 := by rw [normalT_len, hil]
      have hal := addL_len next (normalT (insC d s))
      refine Ev.pos (by omega) (Ev.bind (specInsert_ev s d (by omega)) (Ev.bind (specNormal0_ev _ (by omega) (by omega)) (Ev.bind (specAdd_ev next _ (by omega) (by unfold small; omega)) (hi _ (by omega) ?_))))
      have : freeOf s (d :: suf) = d :: freeOf s suf := by simp [freeOf, hm]
      rw [this] at hc
      simpa using hc
theorem specAll_2T {m : Int} {n : Nat} (N x6 i : Int) (now : List (List Cell)) (s : List Cell) (h : Good triX m n s) (hm : 0 ≤ m ∧ m ≤ 80) (hs : s.length ≤ 64) (hi0 : 0 ≤ i) (hi1 : i < (now.length : Int)) (hrd : rd_L2 now i = s) {r : List (List Cell)} : ∀ (suf pre : List Cell) (next : List (List Cell)), s = pre ++ suf → next.length + suf.length * 6 ≤ 800000000 →
    Ev (fun k => spec_l07All.l1 k 0 N now x6 ((suf.flatMap fun c => (freeOf s (triC c)).map fun d => normalT (insC d s)).foldl addL next) (wrap64 (i + 1))) r → Ev (fun k => spec_l07All.l2 k 0 N now x6 next i (pre.length : Int)) r
  | [], pre, next, hx, hl, hc => by
    refine Ev.succ ?_
    rw [List.append_nil] at hx
    subst hx
    simp only [spec_l07All.l2, hrd]
    exact Ev.pos hi0 (Ev.pos hi1 (Ev.neg (by omega) (by simpa using hc)))
  | c :: suf, pre, next, hx, hl, hc => by
    refine Ev.succ ?_
    have hsm : small s := by unfold small; omega
    simp only [List.length_cons] at hl
    have hcs : c ∈ s := by rw [hx]; simp
    have hc6 := triLatt.cnt c
    have hb := h.box c hcs
    simp only [spec_l07All.l2, hrd]
    refine Ev.pos hi0 (Ev.pos hi1 ?_)
    simp only [pre_lt hx, pre_0, if_true, at_pre hx]
    refine Ev.bind0 (aroundT (c := c) (by omega) (h.p c hcs)) ?_
    refine specAll_3T N x6 i (pre.length : Int) now s hs hi0 hi1 hrd (triC c) (by omega) (triC c) [] next rfl (by omega) ?_
    rw [pre_w hx hsm]
    have hfl := foldAdd_len ((freeOf s (triC c)).map fun d => normalT (insC d s)) next
    rw [List.length_map] at hfl
    have hfr := freeOf_len s (triC c)
    have hi := specAll_2T N x6 i now s h hm hs hi0 hi1 hrd suf (pre ++ [c]) (((freeOf s (triC c)).map fun d => normalT (insC d s)).foldl addL next) (by rw [hx]; simp) (by omega) (by simpa using hc)
    simp only [List.length_append, List.length_singleton, Int.natCast_add] at hi
    exact hi
theorem specAll_1T {m : Int} {n : Nat} (N x6 : Int) (now : List (List Cell)) (h : ∀ s ∈ now, Good triX m n s) (hm : 0 ≤ m ∧ m ≤ 80) (hn : n ≤ 6) (hnl : now.length ≤ 20000000) {r : List (List Cell)} : ∀ (suf pre : List (List Cell)) (next : List (List Cell)), now = pre ++ suf → next.length + suf.length * 36 ≤ 720000000 →
    Ev (fun k => spec_l07All.l0 k 0 N ((suf.flatMap (moreOf triC normalT)).foldl addL next) (wrap64 (x6 + 1))) r → Ev (fun k => spec_l07All.l1 k 0 N now x6 next (pre.length : Int)) r
  | [], pre, next, hx, hl, hc => by
    refine Ev.succ ?_
    rw [List.append_nil] at hx
    subst hx
    simp only [spec_l07All.l1]
    exact Ev.neg (by omega) (by simpa using hc)
  | s :: suf, pre, next, hx, hl, hc => by
    refine Ev.succ ?_
    have hsm : small now := by unfold small; omega
    simp only [List.length_cons] at hl
    have hs : s ∈ now := by rw [hx]; simp
    have hg := h s hs
    have hgl := hg.len
    have hp := pre_len hx
    simp only [spec_l07All.l1, pre_lt hx, if_true]
    refine specAll_2T N x6 (pre.length : Int) now s hg hm (by omega) (by omega) (by omega) (at_preL2 hx) s [] next rfl (by omega) ?_
    rw [pre_w hx hsm]
    have hml := moreOf_len triLatt s
    have hfl := foldAdd_len (moreOf triC normalT s) next
    have hi := specAll_1T N x6 now h hm hn hnl suf (pre ++ [s]) ((moreOf triC normalT s).foldl addL next) (by rw [hx]; simp) (by omega) (by simpa using hc)
    simp only [List.length_append, List.length_singleton, Int.natCast_add] at hi
    exact hi
theorem specAll_qT (N : Nat) (hN : N ≤ 6) : ∀ (q i : Nat) (m : Int) (n : Nat) (now : List (List Cell)), i + q = N → (∀ s ∈ now, Good triX m n s) → 0 ≤ m → m + q * 2 ≤ 80 → n + q ≤ 6 → now.length * 36 ^ q ≤ 200000000 →
    Ev (fun k => spec_l07All.l0 k 0 (N : Int) now (i : Int)) (growS triC normalT q now)
  | 0, i, m, n, now, hi, h, h0, h1, h2, h4 => by
    refine Ev.succ ?_
    simp only [spec_l07All.l0]
    exact Ev.neg (by omega) (Ev.now _)
  | q + 1, i, m, n, now, hi, h, h0, h1, h2, h4 => by
    have e36 : 36 ^ (q + 1) = 36 ^ q * 36 := Nat.pow_succ ..
    have e1 : 0 < 36 ^ q := Nat.pow_pos (by omega)
    have hnl : now.length * 36 ≤ 200000000 := Nat.le_trans (Nat.mul_le_mul_left _ (by rw [e36]; omega)) h4
    have ew : wrap64 ((i : Int) + 1) = ((i + 1 : Nat) : Int) := by rw [w64 (by omega) (by omega)]; omega
    have hg := good_next triLatt h (by omega : 0 ≤ m ∧ m ≤ 80)
    have hnx : (nextS triC normalT now).length ≤ now.length * 36 := Nat.le_trans (nextS_len triLatt (n := n) fun s hs => (h s hs).len) (Nat.mul_le_mul_left _ (by omega))
    have hb : (nextS triC normalT now).length * 36 ^ q ≤ 200000000 := by
      refine Nat.le_trans (Nat.mul_le_mul_right _ hnx) ?_
      rw [Nat.mul_assoc, Nat.mul_comm 36, ← e36]
      exact h4
    refine Ev.succ ?_
    simp only [spec_l07All.l0]
    refine Ev.pos (by omega) (specAll_1T (N : Int) (i : Int) now h (by omega) (by omega) (by omega) now [] [] rfl (by simp; omega) ?_)
    rw [ew]
    exact specAll_qT N hN q (i + 1) (m + 2) (n + 1) _ (by omega) hg (by omega) (by omega) (by omega) hb
theorem growS_lenT : ∀ (q : Nat) (m : Int) (n : Nat) (l : List (List Cell)), (∀ s ∈ l, Good triX m n s) → 0 ≤ m → m + q * 2 ≤ 80 → n + q ≤ 6 → (growS triC normalT q l).length ≤ l.length * 36 ^ q
  | 0, _, _, _, _, _, _, _ => by simp [growS]
  | q + 1, m, n, l, h, h0, h1, h2 => by
    have e36 : 36 ^ (q + 1) = 36 ^ q * 36 := Nat.pow_succ ..
    have hnx : (nextS triC normalT l).length ≤ l.length * 36 := Nat.le_trans (nextS_len triLatt (n := n) fun s hs => (h s hs).len) (Nat.mul_le_mul_left _ (by omega))
    have := growS_lenT q (m + 2) (n + 1) _ (good_next triLatt h (by omega)) (by omega) (by omega) (by omega)
    rw [growS]
    refine Nat.le_trans this (Nat.le_trans (Nat.mul_le_mul_right _ hnx) ?_)
    rw [Nat.mul_assoc, Nat.mul_comm 36, ← e36]
    exact Nat.le_refl _
theorem formOkT {m : Int} {n : Nat} {s : List Cell} (h : Good triX m n s) (hm : 0 ≤ m ∧ m ≤ 80) (hn : n ≤ 6) : ∀ (q : Nat) (t : Int), 0 ≤ t → triGOk s q t = true
  | 0, _, _ => rfl
  | q + 1, t, ht => by
    unfold triGOk
    have hp : Pre triX m n (latL s t) := lat_pre h hm t (fun c hc => triX_lat (by have := h.box c hc; omega))
    have hg : Good triX m n (triG s t) := triLatt.norm _ _ _ hm.1 (by omega) hp
    rw [good_shape hg hm (by omega), formOkT h hm hn q (t + 1) (by omega)]
    rfl
def keepT (l : List (List Cell)) : List (List Cell) := l.filter fun s => decide (triGMin s = s)
theorem rot_singT (s : List Cell) : (if triGMin s = s then [s] else []) = keepT [s] := by
  unfold keepT
  by_cases h : triGMin s = s <;> simp [h]
theorem specFree_evT {m : Int} {n : Nat} (l : List (List Cell)) (h : ∀ s ∈ l, Good triX m n s) (hm : 0 ≤ m ∧ m ≤ 80) (hn : n ≤ 6) (hl : l.length ≤ 1000000000) : Ev (fun k => spec_l07Free.f k 0 l) (keepT l) := by
  have hsm : small l := by unfold small; omega
  unfold spec_l07Free.f
  refine loop_list l (fun k i (acc : List (List Cell)) => spec_l07Free.l0 k 0 l acc i) (fun _ _ _ => keepT l) (fun pre acc => acc = keepT pre) ?_ ?_ [] rfl
  · rintro acc rfl
    simp only [spec_l07Free.l0, len_lt, if_false]
    exact Ev.now _
  · rintro pre s suf acc hx rfl ih
    have hp := pre_len hx
    have hg := h s (by rw [hx]; simp)
    have hgl := hg.len
    have hgp := hg.pos
    have hk : (keepT pre).length ≤ pre.length := List.length_filter_le _ _
    have hadd : ∀ x, keepT (pre ++ [x]) = keepT pre ++ (if triGMin x = x then [x] else []) := fun x => by
      rw [rot_singT]; unfold keepT; rw [List.filter_append]
    simp only [spec_l07Free.l0, pre_lt hx, pre_0, if_true, at_preL2 hx, pre_w hx hsm]
    have hF : Ev (fun k => spec_l07Forms.f k 0 s) (triGS s 12 0, triGOk s 12 0) := by
      unfold spec_l07Forms.f
      exact Ev.of_eq (specForms0_l s (by omega) (by omega) 12 0 [] true (by omega) (by omega) (by simp)) (by simp)
    refine Ev.bind hF ?_
    have e12 : triGS s 12 0 = triG s 0 :: triGS s 11 1 := rfl
    have hmem : ∀ x ∈ triG s 0 :: triGS s 11 1, small x := by
      intro x hx
      rw [← e12] at hx
      have := triGS_mem s 12 0 x hx
      unfold small; omega
    simp only [e12]
    refine Ev.bind (specLeastS_ev _ _ (by unfold small; rw [List.length_cons, triGS_len]; omega) hmem) ?_
    have hml := triGMin_len s
    refine Ev.bind (specCompare_ev (triGMin s) s (by unfold small; omega)) ?_
    by_cases e : triGMin s = s
    · refine Ev.pos ((cmpS_zero _ _).2 e) (Ev.pos (by omega) (ih _ ?_))
      rw [hadd, if_pos e]
    · refine Ev.neg (fun h => e ((cmpS_zero _ _).1 h)) (ih _ ?_)
      rw [hadd, if_neg e, List.append_nil]
theorem implOwn_evT {m : Int} {n : Nat} (l : List (List Cell)) (h : ∀ s ∈ l, Good triX m n s) (hm : 0 ≤ m ∧ m ≤ 80) (hn : n ≤ 6) (hl : l.length ≤ 1000000000) : Ev (fun k => impl_ownLeast__impl_triangleForm.f k l) (keepT l) := by
  have hsm : small l := by unfold small; omega
  unfold impl_ownLeast__impl_triangleForm.f
  refine loop_list l (fun k i (acc : List (List Cell)) => impl_ownLeast__impl_triangleForm.l0 k acc l (l.length : Int) i) (fun _ _ _ => keepT l) (fun pre acc => acc = keepT pre) ?_ ?_ [] rfl
  · rintro acc rfl
    simp only [impl_ownLeast__impl_triangleForm.l0, len_lt, if_false]
    exact Ev.now _
  · rintro pre s suf acc hx rfl ih
    have hp := pre_len hx
    have hg := h s (by rw [hx]; simp)
    have hgl := hg.len
    have hgp := hg.pos
    have hk : (keepT pre).length ≤ pre.length := List.length_filter_le _ _
    have hadd : ∀ x, keepT (pre ++ [x]) = keepT pre ++ (if triGMin x = x then [x] else []) := fun x => by
      rw [rot_singT]; unfold keepT; rw [List.filter_append]
    simp only [impl_ownLeast__impl_triangleForm.l0, pre_lt hx, pre_0, if_true, at_preL2 hx, pre_w hx hsm]
    have hL : Ev (fun k => impl_leastForm__impl_triangleForm.f k s) (triGMin s, true) := by
      unfold impl_leastForm__impl_triangleForm.f
      refine Ev.of_eq (implLeast0_l s (by omega) (by omega) 12 0 [] (by omega) (by omega) (by simp) (fun x hx => by simp at hx)) ?_
      rw [if_pos (formOkT hg hm hn 12 0 (by omega))]
      rfl
    have hml := triGMin_len s
    refine Ev.bind hL (Ev.pos rfl (Ev.bind (equalC_ev (triGMin s) s (by unfold small; omega)) ?_))
    by_cases e : triGMin s = s
    · refine Ev.pos (by simpa using e) (Ev.pos (by omega) (ih _ ?_))
      rw [hadd, if_pos e]
    · refine Ev.neg (by simpa using e) (ih _ ?_)
      rw [hadd, if_neg e, List.append_nil]
def startT : List (List Cell) := [[⟨1, 1⟩], [⟨2, 2⟩]]
theorem start_goodT : ∀ s ∈ startT, Good triX 0 1 s := by
  intro s hs
  simp only [startT, List.mem_cons, List.not_mem_nil, or_false] at hs
  rcases hs with rfl | rfl <;> exact ⟨rfl, by omega, by simp, by simp, by simp, by simp [triX]⟩
theorem specAll_evT (n : Nat) (h1 : 1 ≤ n) (h2 : n ≤ 6) : Ev (fun k => spec_l07All.f k 0 (n : Int)) (growS triC normalT (n - 1) startT) := by
  unfold spec_l07All.f
  refine Ev.pos rfl (Ev.succ ?_)
  simp only [spec_l07All.j0]
  have h36 : 36 ^ (n - 1) ≤ 36 ^ (6 - 1) := Nat.pow_le_pow_right (by omega) (by omega)
  exact specAll_qT n (by omega) (n - 1) 1 0 1 startT (by omega) start_goodT (by omega) (by omega) (by omega) (Nat.le_trans (Nat.mul_le_mul_left _ h36) (by decide))
theorem implAll_evT (n : Nat) (h1 : 1 ≤ n) (h2 : n ≤ 6) : Ev (fun k => impl_allTriangles.f k (n : Int)) (growS triC normalT (n - 1) startT) := by
  have h36 : 36 ^ (n - 1) ≤ 36 ^ (6 - 1) := Nat.pow_le_pow_right (by omega) (by omega)
  have e : wrap64 ((n : Int) - 1) = ((n - 1 : Nat) : Int) := by rw [w64 (by omega) (by omega)]; omega
  rw [← grow_eq triLatt (n - 1) 0 1 startT start_goodT (by omega) (by omega)]
  unfold impl_allTriangles.f
  refine Ev.bind (a := growI triC normalT (n - 1) startT) ?_ (Ev.now _)
  unfold impl_allGrown__impl_trianglesAround_impl_normalTriangles.f
  rw [e]
  exact implAll_qT (n - 1) (by omega) (n - 1) 0 0 1 startT (by omega) start_goodT (by omega) (by omega) (by omega) (by decide) (Nat.le_trans (Nat.mul_le_mul_left _ h36) (by decide))
theorem all_goodT (n : Nat) (h1 : 1 ≤ n) (h2 : n ≤ 6) : ∀ x ∈ growS triC normalT (n - 1) startT, Good triX (0 + ((n - 1 : Nat) : Int) * 2) (1 + (n - 1)) x :=
  grow_good triLatt (n - 1) 0 1 startT start_goodT (by omega) (by omega)
theorem all_lenT (n : Nat) (h1 : 1 ≤ n) (h2 : n ≤ 6) : (growS triC normalT (n - 1) startT).length ≤ 200000000 := by
  have h36 : 36 ^ (n - 1) ≤ 36 ^ (6 - 1) := Nat.pow_le_pow_right (by omega) (by omega)
  refine Nat.le_trans (growS_lenT (n - 1) 0 1 startT start_goodT (by omega) (by omega) (by omega)) (Nat.le_trans (Nat.mul_le_mul_left _ h36) (by decide))
theorem specFreeAll_evT (n : Nat) (h1 : 1 ≤ n) (h2 : n ≤ 6) : Ev (fun k => spec_l07Free.f k 0 (growS triC normalT (n - 1) startT)) (keepT (growS triC normalT (n - 1) startT)) :=
  specFree_evT _ (all_goodT n h1 h2) (by omega) (by omega) (by have := all_lenT n h1 h2; omega)
theorem implOwnAll_evT (n : Nat) (h1 : 1 ≤ n) (h2 : n ≤ 6) : Ev (fun k => impl_ownLeast__impl_triangleForm.f k (growS triC normalT (n - 1) startT)) (keepT (growS triC normalT (n - 1) startT)) :=
  implOwn_evT _ (all_goodT n h1 h2) (by omega) (by omega) (by have := all_lenT n h1 h2; omega)
end Go.Proofs.Ytnohbmnoioikbaa.L
end
section
namespace Go.Proofs.Ytnohbmnoioikbaa.L
open Go.RowKit Go.Proofs.YtnohbmnoioikbaaW.PrintWords Go.Proofs.YtnohbmnoioikbaaW.PrintLast Go.Proofs.YtnohbmnoioikbaaW.PrintMore Go.Proofs.Ytnohbmnoioikbaa.F
set_option linter.unusedVariables false
def cntT (a : Int) : Int × Int × Int := if 1 ≤ a ∧ a ≤ 6 then (((growS triC normalT (a.toNat - 1) startT).length : Int), ((keepT (growS triC normalT (a.toNat - 1) startT)).length : Int), 0) else (0, 0, 2)
theorem inRT (a b c : Int) : spec_l01In.f a b c = some (decide (b ≤ a ∧ a ≤ c)) := by
  unfold spec_l01In.f
  by_cases h : a ≥ b
  · rw [if_pos h]
    congr 1
    simp
    omega
  · rw [if_neg h]
    congr 1
    simp
    omega
theorem withinRT (a b c : Int) : impl_within.f a b c = some (decide (b ≤ a ∧ a ≤ c)) := inRT a b c
theorem specCount_evT (a : Int) : Ev (fun k => spec_CountTriangles.f k a) (cntT a) := by
  unfold spec_CountTriangles.f cntT
  refine Ev.bind0 (inRT a 1 6) ?_
  by_cases h : 1 ≤ a ∧ a ≤ 6
  · obtain ⟨n, rfl⟩ : ∃ n : Nat, a = (n : Int) := ⟨a.toNat, by omega⟩
    rw [if_pos h]
    refine Ev.pos (by simpa using h) (Ev.bind (specAll_evT n (by omega) (by omega)) (Ev.bind (specFreeAll_evT n (by omega) (by omega)) (Ev.now _)))
  · rw [if_neg h]
    exact Ev.neg (by simpa using h) (Ev.now _)
theorem implCount_evT (a : Int) : Ev (fun k => impl_CountTriangles.f k a) (cntT a) := by
  unfold impl_CountTriangles.f cntT
  refine Ev.bind0 (withinRT a 1 6) ?_
  by_cases h : 1 ≤ a ∧ a ≤ 6
  · obtain ⟨n, rfl⟩ : ∃ n : Nat, a = (n : Int) := ⟨a.toNat, by omega⟩
    rw [if_pos h]
    refine Ev.pos (by simpa using h) (Ev.bind (implAll_evT n (by omega) (by omega)) (Ev.bind (implOwnAll_evT n (by omega) (by omega)) (Ev.now _)))
  · rw [if_neg h]
    exact Ev.neg (by simpa using h) (Ev.now _)
end Go.Proofs.Ytnohbmnoioikbaa.L
namespace Go.Proofs.Ytnohbmnoioikbaa.Pure
open Go.RowKit Go.Proofs.YtnohbmnoioikbaaW.PrintWords Go.Proofs.Ytnohbmnoioikbaa.F Go.Proofs.Ytnohbmnoioikbaa.L
set_option linter.unusedVariables false
theorem FnExactCountTriangles (a0 : Int) (hv : (Lit.int .i64 a0).wf = true) : ∃ k, laws_FnExactCountTriangles.f k a0 = some true := by
  refine Ev.rounds ?_
  unfold laws_FnExactCountTriangles.f
  exact Ev.bind (specCount_evT a0) (Ev.bind (implCount_evT a0) (Ev.pos rfl (Ev.pos rfl (Ev.pos rfl (Ev.now _)))))
end Go.Proofs.Ytnohbmnoioikbaa.Pure
end
