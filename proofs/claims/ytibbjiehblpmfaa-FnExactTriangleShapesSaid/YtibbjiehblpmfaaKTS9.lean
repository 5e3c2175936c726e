/- The row of FnExactTriangleShapes, with what it needs: text 10 of 11. -/
import Derived.Test.YtibbjiehblpmfaaKTS8
set_option maxHeartbeats 8000000
set_option maxRecDepth 100000
section
namespace Go.Proofs.Ytibbjiehblpmfaa.L
open Go.RowKit Go.Proofs.YtibbjiehblpmfaaW.PrintWords Go.Proofs.YtibbjiehblpmfaaW.PrintLast Go.Proofs.YtibbjiehblpmfaaW.PrintMore Go.Proofs.Ytibbjiehblpmfaa.F
set_option linter.unusedVariables false
set_option linter.unusedSimpArgs false
theorem turnV_ok {t : Int} {c d : Cell} {m : Int} : (turnV t c = turnV t d → c = d) ∧ (near2 m (c.f0, c.f1) (d.f0, d.f1) → near2 m (turnV t c) (turnV t d)) := by
  unfold turnV
  have h := rotV_ok (k := (t % 6).toNat) (by omega) (p := if t ≥ 6 then (c.f1, c.f0) else (c.f0, c.f1)) (q := if t ≥ 6 then (d.f1, d.f0) else (d.f0, d.f1)) (m := m)
  refine ⟨fun e => ?_, fun hn => h.2 ?_⟩
  · have e := h.1 e
    obtain ⟨c0, c1⟩ := c
    obtain ⟨d0, d1⟩ := d
    simp only [S43.mk.injEq]
    split at e <;> simp only [Prod.mk.injEq] at e <;> omega
  · unfold near2 at *
    split <;> simp only at * <;> omega
theorem sortC_lt {l : List Cell} (h : l.Nodup) : (sortC l).Pairwise ltC := by
  have h1 := sortC_sorted l
  have h2 : (sortC l).Nodup := (sortC_perm l).nodup_iff.2 h
  have := h1.and h2
  refine this.imp fun {a b} hab => ?_
  obtain ⟨h3, h4⟩ := hab
  obtain ⟨a0, a1⟩ := a
  obtain ⟨b0, b1⟩ := b
  unfold ltC at *
  simp only [ne_eq, S43.mk.injEq] at *
  omega
theorem lat_pre {P Q : Cell → Prop} {m : Int} {n : Nat} {s : List Cell} (h : Good P m n s) (hm : 0 ≤ m ∧ m ≤ 80) (t : Int) (hp : ∀ c ∈ s, P c → Q (latD t c)) : Pre Q m n (latL s t) := by
  have hv : ∀ c ∈ s, tiny (c.f0, c.f1) := fun c hc => by
    have := h.box c hc
    unfold tiny
    simp only
    omega
  have hd : ∀ c ∈ s, latD t c = ⟨(turnV t c).1, (turnV t c).2⟩ := fun c hc => by
    unfold latD
    rw [latC_val (hv c hc)]
  unfold latL
  have hmap : s.map (latD t) = s.map fun c => ⟨(turnV t c).1, (turnV t c).2⟩ := List.map_congr_left hd
  refine ⟨by rw [sortC_len, List.length_map, h.len], h.pos, sortC_lt ?_, fun c hc => ?_, fun c hc d hd' => ?_, fun c hc => ?_⟩
  · rw [hmap]
    show List.Pairwise _ _
    rw [List.pairwise_map]
    refine h.lt.imp fun {a b} hab e => ?_
    have e2 : turnV t a = turnV t b := by
      simp only [S43.mk.injEq] at e
      exact Prod.ext e.1 e.2
    have := (turnV_ok (m := 0)).1 e2
    subst this
    unfold ltC at hab
    omega
  · rw [sortC_mem] at hc
    obtain ⟨e, he, rfl⟩ := List.mem_map.1 hc
    rw [hd e he]
    have hb := rotV_bd (k := (t % 6).toNat) (by omega) (p := if t ≥ 6 then (e.f1, e.f0) else (e.f0, e.f1)) (by
      have := hv e he
      unfold tiny at *
      split <;> simp only at * <;> omega)
    unfold turnV
    simp only
    omega
  · rw [sortC_mem] at hc hd'
    obtain ⟨e, he, rfl⟩ := List.mem_map.1 hc
    obtain ⟨f, hf, rfl⟩ := List.mem_map.1 hd'
    rw [hd e he, hd f hf]
    have h1 := h.sp e he f hf
    have h2 := h.sp f hf e he
    have := (turnV_ok (t := t) (c := e) (d := f) (m := m)).2 (by unfold near2; simp only; omega)
    unfold near2 at this
    simp only
    omega
  · rw [sortC_mem] at hc
    obtain ⟨e, he, rfl⟩ := List.mem_map.1 hc
    exact hp e he (h.p e he)
theorem good_shape {P : Cell → Prop} {m : Int} {n : Nat} {s : List Cell} (h : Good P m n s) (hm : 0 ≤ m ∧ m ≤ 80) (hn : n ≤ 40) : shapeB s = true := by
  have hp := h.pos
  have hl := h.len
  refine shapeB_iff.2 ⟨fun c hc => ?_, h.lt, by omega, by omega⟩
  have := h.box c hc
  unfold okC ok1
  omega
theorem triC_six (c : Cell) : (triC c).length ≤ 6 := by unfold triC; rw [sortC_len, triRaw_len]; omega
theorem triX_rot {k : Nat} (hk : k < 6) {p : Int × Int} (h : p.1 % 3 = p.2 % 3 ∧ p.1 % 3 ≠ 0) : (rotV k p).1 % 3 = (rotV k p).2 % 3 ∧ (rotV k p).1 % 3 ≠ 0 := by
  obtain ⟨x, y⟩ := p
  have e : k = 0 ∨ k = 1 ∨ k = 2 ∨ k = 3 ∨ k = 4 ∨ k = 5 := by omega
  rcases e with rfl | rfl | rfl | rfl | rfl | rfl <;> (simp only [rotV] at *; omega)
theorem triX_lat {t : Int} {c : Cell} (hb : -200 ≤ c.f0 ∧ c.f0 ≤ 200 ∧ -200 ≤ c.f1 ∧ c.f1 ≤ 200) (h : triX c) : triX (latD t c) := by
  unfold latD triX
  rw [latC_val (by unfold tiny; exact hb)]
  unfold turnV
  refine triX_rot (by omega) ?_
  unfold triX at h
  split <;> simp only <;> omega
theorem triLatt : Latt triC normalT triX 2 where
  d0 := by omega
  near := by
    intro c hb hp d hd
    have w (n : Int) (h0 : -1000 ≤ n) (h1 : n ≤ 1000) : wrap64 n = n := w64 (by omega) (by omega)
    unfold triX at hp
    unfold triC at hd
    rw [sortC_mem] at hd
    unfold triRaw at hd
    split at hd
    · rw [w (c.f0 + -1) (by omega) (by omega), w (c.f1 + -1) (by omega) (by omega), w (c.f0 - 2 * -1) (by omega) (by omega), w (c.f1 - 2 * -1) (by omega) (by omega)] at hd
      simp only [List.mem_cons, List.not_mem_nil, or_false] at hd
      rcases hd with rfl | rfl | rfl <;> (simp only [triX]; omega)
    · rw [w (c.f0 + 1) (by omega) (by omega), w (c.f1 + 1) (by omega) (by omega), w (c.f0 - 2 * 1) (by omega) (by omega), w (c.f1 - 2 * 1) (by omega) (by omega)] at hd
      simp only [List.mem_cons, List.not_mem_nil, or_false] at hd
      rcases hd with rfl | rfl | rfl <;> (simp only [triX]; omega)
  norm := by
    intro s n m h0 h1 h
    have hne : s ≠ [] := by
      intro e
      have := h.len
      have := h.pos
      rw [e] at *
      simp at *
      omega
    obtain ⟨⟨e, he, ex⟩, ⟨f, hf, ey⟩⟩ := least_mem hne
    have be := h.box e he
    have bf := h.box f hf
    unfold normalT
    rw [w64 (by omega) (by omega), w64 (by omega) (by omega)]
    refine good_shift h (by omega) (by omega) (fun c hc => ?_) (fun c _ hp => ?_)
    · have h2 := least_le hc
      have h3 := h.sp c hc e he
      have h4 := h.sp c hc f hf
      omega
    · unfold triX at *
      simp only
      omega
  cnt := triC_six
  low := by
    intro c hb
    have w (n : Int) (h0 : -1000 ≤ n) (h1 : n ≤ 1000) : wrap64 n = n := w64 (by omega) (by omega)
    by_cases h : c.f0 % 3 = 2
    · refine ⟨⟨c.f0 - 1, c.f1 - 1⟩, ?_, ?_⟩
      · unfold triC
        rw [sortC_mem]
        unfold triRaw
        rw [if_pos h, w (c.f0 + -1) (by omega) (by omega), w (c.f1 + -1) (by omega) (by omega)]
        exact List.mem_cons_self
      · unfold ltC; simp only; omega
    · refine ⟨⟨c.f0 + 1, c.f1 - 2⟩, ?_, ?_⟩
      · unfold triC
        rw [sortC_mem]
        unfold triRaw
        rw [if_neg h, w (c.f0 + 1) (by omega) (by omega), w (c.f1 - 2 * 1) (by omega) (by omega)]
        simp
      · unfold ltC; simp only; omega
theorem aroundT {c : Cell} (hb : -100 ≤ c.f0 ∧ c.f0 ≤ 100 ∧ -100 ≤ c.f1 ∧ c.f1 ≤ 100) (hp : triX c) : spec_l07Around.f 0 c.f0 c.f1 = some (triC c) := specTri_eq (by unfold okC ok1; omega) hp
theorem implFree_lT (s : List Cell) (hs : s.length ≤ 64) (nbl : List Cell) (hn : nbl.length ≤ 64) (len i : Int) {r : List Cell} : ∀ (suf pre out : List Cell), nbl = pre ++ suf → out.length + suf.length ≤ 1000000 → Ev (fun k => impl_beside__impl_trianglesAround.l0 k s (out ++ freeOf s suf) s len (wrap64 (i + 1))) r → Ev (fun k => impl_beside__impl_trianglesAround.l1 k s out s len i nbl (nbl.length : Int) (pre.length : Int)) r
  | [], pre, out, hx, hl, hc => by
    refine Ev.succ ?_
    rw [List.append_nil] at hx
    subst hx
    simp only [impl_beside__impl_trianglesAround.l1]
    refine Ev.neg (by omega) ?_
    simpa [freeOf] using hc
  | d :: suf, pre, out, hx, hl, hc => by
    refine Ev.succ ?_
    have hsm : small nbl := by unfold small; omega
    simp only [List.length_cons] at hl
    have hi (out' : List Cell) (ho : out'.length + suf.length ≤ 1000000) (hc' : Ev (fun k => impl_beside__impl_trianglesAround.l0 k s (out' ++ freeOf s suf) s len (wrap64 (i + 1))) r) := implFree_lT s hs nbl hn len i suf (pre ++ [d]) out' (by rw [hx]; simp) ho hc'
    simp only [List.length_append, List.length_singleton, Int.natCast_add] at hi
    simp only [impl_beside__impl_trianglesAround.l1, pre_lt hx, pre_0, if_true, at_pre hx, pre_w hx hsm]
    refine Ev.bind (implContains_ev s d (by unfold small; omega)) ?_
    by_cases hm : d ∈ s
    · refine Ev.pos (by simpa using (idxC_mem s d).2 hm) (hi out (by omega) ?_)
      simpa [freeOf, hm] using hc
    · refine Ev.neg (by simpa using fun h => hm ((idxC_mem s d).1 h)) (Ev.pos (by omega) (hi (out ++ [(⟨d.f0, d.f1⟩ : Cell)]) (by simp; omega) ?_))
      have : freeOf s (d :: suf) = d :: freeOf s suf := by simp [freeOf, hm]
      rw [this] at hc
      simpa using hc
theorem implBeside_evT (s : List Cell) (hs : s.length ≤ 64) (h0 : 0 < (besideR triC s).length) : Ev (fun k => impl_beside__impl_trianglesAround.f k s) (besideL triC s) := by
  have hsm : small s := by unfold small; omega
  unfold impl_beside__impl_trianglesAround.f
  refine loop_list s (fun k i (out : List Cell) => impl_beside__impl_trianglesAround.l0 k s out s (s.length : Int) i) (fun _ _ _ => besideL triC s) (fun pre out => out = pre.flatMap fun c => freeOf s (triC c)) ?_ ?_ [] rfl
  · rintro out rfl
    have hlen : (besideR triC s).length ≤ s.length * 6 := besideR_len triLatt s
    unfold besideR at hlen h0
    simp only [impl_beside__impl_trianglesAround.l0, len_lt, if_false]
    have e1 : impl_Cell_67__impl_compareCells.f (s.flatMap fun c => freeOf s (triC c)) = some (sortC (s.flatMap fun c => freeOf s (triC c))) := by
      unfold impl_Cell_67__impl_compareCells.f
      rw [if_pos ⟨h0, by omega⟩]
    have e2 : impl_Cell_71.f (sortC (s.flatMap fun c => freeOf s (triC c))) = some (compF (sortC (s.flatMap fun c => freeOf s (triC c)))) := by
      unfold impl_Cell_71.f
      rw [if_pos ⟨by rw [sortC_len]; exact h0, by rw [sortC_len]; omega⟩]
    exact Ev.bind0 e1 (Ev.bind0 e2 (Ev.now _))
  · rintro pre c suf out hx rfl ih
    simp only [impl_beside__impl_trianglesAround.l0, pre_lt hx, pre_0, if_true, at_pre hx]
    refine Ev.bind0 (implTri_eq c) ?_
    have hp := pre_len hx
    have ho : (pre.flatMap fun c => freeOf s (triC c)).length ≤ pre.length * 6 := flat_len _ 6 pre fun c _ => Nat.le_trans (freeOf_len _ _) (triLatt.cnt c)
    have hc6 := triLatt.cnt c
    refine implFree_lT s hs (triC c) (by omega) _ _ (triC c) [] _ rfl (by omega) ?_
    rw [pre_w hx hsm]
    exact ih _ (by rw [List.flatMap_append]; simp)
theorem implGrown_evT {m : Int} {n : Nat} (s : List Cell) (h : Good triX m n s) (hm : 0 ≤ m ∧ m ≤ 80) (hn : n ≤ 60) : Ev (fun k => impl_grown__impl_trianglesAround_impl_normalTriangles.f k s) (grownL triC normalT s) ∧ 0 < (grownL triC normalT s).length := by
  have hl := h.len
  have hp := h.pos
  have h0 := beside_ne triLatt h hm
  have hbl := besideL_len triLatt s
  have hb0 : 0 < (besideL triC s).length := by
    obtain ⟨d, hd⟩ := List.exists_mem_of_length_pos h0
    refine List.length_pos_of_mem (a := d) ?_
    unfold besideL
    rw [compF_mem, sortC_mem]
    exact hd
  have hbs : small (besideL triC s) := by unfold small; omega
  have hg0 : 0 < (grownR triC normalT s).length := by unfold grownR; rw [List.length_map]; exact hb0
  refine ⟨?_, ?_⟩
  · unfold impl_grown__impl_trianglesAround_impl_normalTriangles.f
    refine Ev.bind (implBeside_evT s (by omega) h0) ?_
    refine loop_list (besideL triC s) (fun k i (acc : List (List Cell)) => impl_grown__impl_trianglesAround_impl_normalTriangles.l0 k s acc (besideL triC s) ((besideL triC s).length : Int) i) (fun _ _ _ => grownL triC normalT s) (fun pre acc => acc = pre.map fun d => normalT (sortC (s ++ [d]))) ?_ ?_ [] rfl
    · rintro acc rfl
      simp only [impl_grown__impl_trianglesAround_impl_normalTriangles.l0, len_lt, if_false]
      have hgl : (grownR triC normalT s).length ≤ 1000 := by unfold grownR; rw [List.length_map]; omega
      exact Ev.bind0 (implTidy_eq _ hg0 (by unfold grownR at hgl; omega)) (Ev.now _)
    · rintro pre d suf acc hx rfl ih
      have hpl := pre_len hx
      simp only [impl_grown__impl_trianglesAround_impl_normalTriangles.l0, pre_lt hx, pre_0, if_true, at_pre hx, pre_w hx hbs]
      have e1 : impl_Cell_63.f s = some s := by
        unfold impl_Cell_63.f
        rw [if_pos (by omega)]
      have e2 : impl_sorted.f (s ++ [(⟨d.f0, d.f1⟩ : Cell)]) = some (sortC (s ++ [(⟨d.f0, d.f1⟩ : Cell)])) := implSorted_eq _ (by simp) (by simp; omega)
      refine Ev.bind0 e1 (Ev.bind0 rfl (Ev.pos (by simp; omega) (Ev.bind0 e2 (Ev.bind (implNormalT_ev _ (by rw [sortC_len]; simp; omega) (by rw [sortC_len]; simp)) (Ev.bind0 rfl (Ev.pos (by simp; omega) ?_))))))
      exact ih _ (by simp)
  · have h1 : 0 < (grownR triC normalT s).length := hg0
    obtain ⟨x, hx⟩ := List.exists_mem_of_length_pos h1
    exact List.length_pos_of_mem (tidyL_mem.2 hx)
theorem implAll_lT {m : Int} {n : Nat} (now : List (List Cell)) (h : ∀ s ∈ now, Good triX m n s) (hm : 0 ≤ m ∧ m ≤ 80) (hn : n ≤ 6) (h0 : 0 < now.length) (hl : now.length ≤ 1000000000) (len_ i_ : Int) {r : List (List Cell)} : ∀ (suf pre acc : List (List Cell)), now = pre ++ suf → acc = pre.flatMap (grownL triC normalT) → Ev (fun k => impl_allGrown__impl_trianglesAround_impl_normalTriangles.l0 k (nextI triC normalT now) len_ (wrap64 (i_ + 1))) r →
    Ev (fun k => impl_allGrown__impl_trianglesAround_impl_normalTriangles.l1 k acc len_ i_ now (now.length : Int) (pre.length : Int)) r
  | [], pre, acc, hx, ha, hc => by
    refine Ev.succ ?_
    rw [List.append_nil] at hx
    subst hx ha
    simp only [impl_allGrown__impl_trianglesAround_impl_normalTriangles.l1]
    refine Ev.neg (by omega) ?_
    have h1 : (now.flatMap (grownL triC normalT)).length ≤ now.length * 36 := flat_len _ 36 now fun s hs => by
      have := grownL_len triLatt s
      have := (h s hs).len
      omega
    obtain ⟨s, hs⟩ := List.exists_mem_of_length_pos h0
    have h2 := (implGrown_evT s (h s hs) hm (by omega)).2
    obtain ⟨x, hx⟩ := List.exists_mem_of_length_pos h2
    have h3 : 0 < (now.flatMap (grownL triC normalT)).length := List.length_pos_of_mem (List.mem_flatMap.2 ⟨s, hs, hx⟩)
    exact Ev.bind0 (implTidy_eq _ h3 (by omega)) hc
  | s :: suf, pre, acc, hx, ha, hc => by
    refine Ev.succ ?_
    have hsm : small now := by unfold small; omega
    have hs : s ∈ now := by rw [hx]; simp
    have hi := implAll_lT now h hm hn h0 hl len_ i_ suf (pre ++ [s]) (acc ++ grownL triC normalT s) (by rw [hx]; simp) (by rw [ha]; simp) hc
    simp only [List.length_append, List.length_singleton, Int.natCast_add] at hi
    have h1 : acc.length ≤ pre.length * 36 := by
      rw [ha]
      exact flat_len _ 36 pre fun s hs => by
        have := grownL_len triLatt s
        have := (h s (by rw [hx]; simp [hs])).len
        omega
    have h2 := grownL_len triLatt s
    have h3 := (h s hs).len
    have h4 := pre_len hx
    simp only [impl_allGrown__impl_trianglesAround_impl_normalTriangles.l1, pre_lt hx, pre_0, if_true, at_preL2 hx, pre_w hx hsm]
    exact Ev.bind (implGrown_evT s (h s hs) hm (by omega)).1 (Ev.pos (by omega) hi)
theorem implAll_qT (N : Nat) (hN : N ≤ 6) : ∀ (q i : Nat) (m : Int) (n : Nat) (now : List (List Cell)), i + q = N → (∀ s ∈ now, Good triX m n s) → 0 ≤ m → m + q * 2 ≤ 80 → n + q ≤ 6 → 0 < now.length → now.length * 36 ^ q ≤ 1000000000 →
    Ev (fun k => impl_allGrown__impl_trianglesAround_impl_normalTriangles.l0 k now (N : Int) (i : Int)) (growI triC normalT q now)
  | 0, i, m, n, now, hi, h, h0, h1, h2, h3, h4 => by
    refine Ev.succ ?_
    simp only [impl_allGrown__impl_trianglesAround_impl_normalTriangles.l0]
    exact Ev.neg (by omega) (Ev.now _)
  | q + 1, i, m, n, now, hi, h, h0, h1, h2, h3, h4 => by
    have e36 : 36 ^ (q + 1) = 36 ^ q * 36 := Nat.pow_succ ..
    have e1 : 0 < 36 ^ q := Nat.pow_pos (by omega)
    have hnl : now.length ≤ 1000000000 := Nat.le_trans (Nat.le_mul_of_pos_right _ (by rw [e36]; omega)) h4
    have ew : wrap64 ((i : Int) + 1) = ((i + 1 : Nat) : Int) := by rw [w64 (by omega) (by omega)]; omega
    have hg : ∀ x ∈ nextI triC normalT now, Good triX (m + 2) (n + 1) x := by
      rw [next_eq fun s hs => (h s hs).lt]
      exact good_next triLatt h (by omega)
    have hnx : (nextI triC normalT now).length ≤ now.length * 36 := by
      rw [next_eq fun s hs => (h s hs).lt]
      refine Nat.le_trans (nextS_len triLatt (n := n) fun s hs => (h s hs).len) (Nat.mul_le_mul_left _ (by omega))
    have hn0 : 0 < (nextI triC normalT now).length := by
      obtain ⟨s, hs⟩ := List.exists_mem_of_length_pos h3
      have h2 := (implGrown_evT s (h s hs) (by omega) (by omega)).2
      obtain ⟨x, hx⟩ := List.exists_mem_of_length_pos h2
      exact List.length_pos_of_mem (tidyL_mem.2 (List.mem_flatMap.2 ⟨s, hs, hx⟩))
    have hb : (nextI triC normalT now).length * 36 ^ q ≤ 1000000000 := by
      refine Nat.le_trans (Nat.mul_le_mul_right _ hnx) ?_
      rw [Nat.mul_assoc, Nat.mul_comm 36, ← e36]
      exact h4
    refine Ev.succ ?_
    simp only [impl_allGrown__impl_trianglesAround_impl_normalTriangles.l0]
    refine Ev.pos (by omega) (implAll_lT now h (by omega) (by omega) h3 hnl _ _ now [] [] rfl rfl ?_)
    rw [ew]
    exact implAll_qT N hN q (i + 1) (m + 2) (n + 1) _ (by omega) hg (by omega) (by omega) (by omega) hn0 hb
theorem specAll_3T (N x6 i j : Int) (now : List (List Cell)) (s : List Cell) (hs : s.length ≤ 64) (hi0 : 0 ≤ i) (hi1 : i < (now.length : Int)) (hrd : rd_L2 now i = s) (arr : List Cell) (ha : arr.length ≤ 64) {r : List (List Cell)} : ∀ (suf pre : List Cell) (next : List (List Cell)), arr = pre ++ suf → next.length + suf.length ≤ 900000000 →
    Ev (fun k => spec_l07All.l2 k 0 N now x6 (((freeOf s suf).map fun d => normalT (insC d s)).foldl addL next) i (wrap64 (j + 1))) r → Ev (fun k => spec_l07All.l3 k 0 N now x6 next i j arr (pre.length : Int)) r
  | [], pre, next, hx, hl, hc => by
    refine Ev.succ ?_
    rw [List.append_nil] at hx
    subst hx
    simp only [spec_l07All.l3]
    exact Ev.neg (by omega) (by simpa [freeOf] using hc)
  | d :: suf, pre, next, hx, hl, hc => by
    refine Ev.succ ?_
    have hsm : small arr := by unfold small; omega
    simp only [List.length_cons] at hl
    have hi (next' : List (List Cell)) (ho : next'.length + suf.length ≤ 900000000) (hc' : Ev (fun k => spec_l07All.l2 k 0 N now x6 (((freeOf s suf).map fun d => normalT (insC d s)).foldl addL next') i (wrap64 (j + 1))) r) := specAll_3T N x6 i j now s hs hi0 hi1 hrd arr ha suf (pre ++ [d]) next' (by rw [hx]; simp) ho hc'
    simp only [List.length_append, List.length_singleton, Int.natCast_add] at hi
    simp only [spec_l07All.l3, pre_lt hx, pre_0, if_true, at_pre hx, pre_w hx hsm, hrd]
    refine Ev.pos hi0 (Ev.pos hi1 (Ev.bind (specIndex_ev s d (by unfold small; omega)) ?_))
    by_cases hm : d ∈ s
    · have := (idxC_mem s d).2 hm
      refine Ev.neg (by omega) (hi next (by omega) ?_)
      simpa [freeOf, hm] using hc
    · have : ¬ idxC s d ≥ 0 := fun h => hm ((idxC_mem s d).1 h)
      have hil : (insC d s).length = s.length + 1 := by rw [(insC_perm d s).length_eq, List.length_cons]
      have hnl : (normalT (insC d s)).length = s.length + 1 := by rw [normalT_len, hil]
      have hal := addL_len next (normalT (insC d s))
      refine Ev.pos (by omega) (Ev.bind (specInsert_ev s d (by omega)) (Ev.bind (specNormal0_ev _ (by omega) (by omega)) (Ev.bind (specAdd_ev next _ (by omega) (by unfold small; omega)) (hi _ (by omega) ?_))))
      have : freeOf s (d :: suf) = d :: freeOf s suf := by simp [freeOf, hm]
      rw [this] at hc
      simpa using hc
theorem specAll_2T {m : Int} {n : Nat} (N x6 i : Int) (now : List (List Cell)) (s : List Cell) (h : Good triX m n s) (hm : 0 ≤ m ∧ m ≤ 80) (hs : s.length ≤ 64) (hi0 : 0 ≤ i) (hi1 : i < (now.length : Int)) (hrd : rd_L2 now i = s) {r : List (List Cell)} : ∀ (suf pre : List Cell) (next : List (List Cell)), s = pre ++ suf → next.length + suf.length * 6 ≤ 800000000 →
    Ev (fun k => spec_l07All.l1 k 0 N now x6 ((suf.flatMap fun c => (freeOf s (triC c)).map fun d => normalT (insC d s)).foldl addL next) (wrap64 (i + 1))) r → Ev (fun k => spec_l07All.l2 k 0 N now x6 next i (pre.length : Int)) r
  | [], pre, next, hx, hl, hc => by
    refine Ev.succ ?_
    rw [List.append_nil] at hx
    subst hx
    simp only [spec_l07All.l2, hrd]
    exact Ev.pos hi0 (Ev.pos hi1 (Ev.neg (by omega) (by simpa using hc)))
  | c :: suf, pre, next, hx, hl, hc => by
    refine Ev.succ ?_
    have hsm : small s := by unfold small; omega
    simp only [List.length_cons] at hl
    have hcs : c ∈ s := by rw [hx]; simp
    have hc6 := triLatt.cnt c
    have hb := h.box c hcs
    simp only [spec_l07All.l2, hrd]
    refine Ev.pos hi0 (Ev.pos hi1 ?_)
    simp only [pre_lt hx, pre_0, if_true, at_pre hx]
    refine Ev.bind0 (aroundT (c := c) (by omega) (h.p c hcs)) ?_
    refine specAll_3T N x6 i (pre.length : Int) now s hs hi0 hi1 hrd (triC c) (by omega) (triC c) [] next rfl (by omega) ?_
    rw [pre_w hx hsm]
    have hfl := foldAdd_len ((freeOf s (triC c)).map fun d => normalT (insC d s)) next
    rw [List.length_map] at hfl
    have hfr := freeOf_len s (triC c)
    have hi := specAll_2T N x6 i now s h hm hs hi0 hi1 hrd suf (pre ++ [c]) (((freeOf s (triC c)).map fun d => normalT (insC d s)).foldl addL next) (by rw [hx]; simp) (by omega) (by simpa using hc)
    simp only [List.length_append, List.length_singleton, Int.natCast_add] at hi
    exact hi
theorem specAll_1T {m : Int} {n : Nat} (N x6 : Int) (now : List (List Cell)) (h : ∀ s ∈ now, Good triX m n s) (hm : 0 ≤ m ∧ m ≤ 80) (hn : n ≤ 6) (hnl : now.length ≤ 20000000) {r : List (List Cell)} : ∀ (suf pre : List (List Cell)) (next : List (List Cell)), now = pre ++ suf → next.length + suf.length * 36 ≤ 720000000 →
    Ev (fun k => spec_l07All.l0 k 0 N ((suf.flatMap (moreOf triC normalT)).foldl addL next) (wrap64 (x6 + 1))) r → Ev (fun k => spec_l07All.l1 k 0 N now x6 next (pre.length : Int)) r
  | [], pre, next, hx, hl, hc => by
    refine Ev.succ ?_
    rw [List.append_nil] at hx
    subst hx
    simp only [spec_l07All.l1]
    exact Ev.neg (by omega) (by simpa using hc)
  | s :: suf, pre, next, hx, hl, hc => by
    refine Ev.succ ?_
    have hsm : small now := by unfold small; omega
    simp only [List.length_cons] at hl
    have hs : s ∈ now := by rw [hx]; simp
    have hg := h s hs
    have hgl := hg.len
    have hp := pre_len hx
    simp only [spec_l07All.l1, pre_lt hx, if_true]
    refine specAll_2T N x6 (pre.length : Int) now s hg hm (by omega) (by omega) (by omega) (at_preL2 hx) s [] next rfl (by omega) ?_
    rw [pre_w hx hsm]
    have hml := moreOf_len triLatt s
    have hfl := foldAdd_len (moreOf triC normalT s) next
    have hi := specAll_1T N x6 now h hm hn hnl suf (pre ++ [s]) ((moreOf triC normalT s).foldl addL next) (by rw [hx]; simp) (by omega) (by simpa using hc)
    simp only [List.length_append, List.length_singleton, Int.natCast_add] at hi
    exact hi
theorem specAll_qT (N : Nat) (hN : N ≤ 6) : ∀ (q i : Nat) (m : Int) (n : Nat) (now : List (List Cell)), i + q = N → (∀ s ∈ now, Good triX m n s) → 0 ≤ m → m + q * 2 ≤ 80 → n + q ≤ 6 → now.length * 36 ^ q ≤ 200000000 →
    Ev (fun k => spec_l07All.l0 k 0 (N : Int) now (i : Int)) (growS triC normalT q now)
  | 0, i, m, n, now, hi, h, h0, h1, h2, h4 => by
    refine Ev.succ ?_
    simp only [spec_l07All.l0]
    exact Ev.neg (by omega) (Ev.now _)
  | q + 1, i, m, n, now, hi, h, h0, h1, h2, h4 => by
    have e36 : 36 ^ (q + 1) = 36 ^ q * 36 := Nat.pow_succ ..
    have e1 : 0 < 36 ^ q := Nat.pow_pos (by omega)
    have hnl : now.length * 36 ≤ 200000000 := Nat.le_trans (Nat.mul_le_mul_left _ (by rw [e36]; omega)) h4
    have ew : wrap64 ((i : Int) + 1) = ((i + 1 : Nat) : Int) := by rw [w64 (by omega) (by omega)]; omega
    have hg := good_next triLatt h (by omega : 0 ≤ m ∧ m ≤ 80)
    have hnx : (nextS triC normalT now).length ≤ now.length * 36 := Nat.le_trans (nextS_len triLatt (n := n) fun s hs => (h s hs).len) (Nat.mul_le_mul_left _ (by omega))
    have hb : (nextS triC normalT now).length * 36 ^ q ≤ 200000000 := by
      refine Nat.le_trans (Nat.mul_le_mul_right _ hnx) ?_
      rw [Nat.mul_assoc, Nat.mul_comm 36, ← e36]
      exact h4
    refine Ev.succ ?_
    simp only [spec_l07All.l0]
    refine Ev.pos (by omega) (specAll_1T (N : Int) (i : Int) now h (by omega) (by omega) (by omega) now [] [] rfl (by simp; omega) ?_)
    rw [ew]
    exact specAll_qT N hN q (i + 1) (m + 2) (n + 1) _ (by omega) hg (by omega) (by omega) (by omega) hb
theorem growS_lenT : ∀ (q : Nat) (m : Int) (n : Nat) (l : List (List Cell)), (∀ s ∈ l, Good triX m n s) → 0 ≤ m → m + q * 2 ≤ 80 → n + q ≤ 6 → (growS triC normalT q l).length ≤ l.length * 36 ^ q
  | 0, _, _, _, _, _, _, _ => by simp [growS]
  | q + 1, m, n, l, h, h0, h1, h2 => by
    have e36 : 36 ^ (q + 1) = 36 ^ q * 36 := Nat.pow_succ ..
    have hnx : (nextS triC normalT l).length ≤ l.length * 36 := Nat.le_trans (nextS_len triLatt (n := n) fun s hs => (h s hs).len) (Nat.mul_le_mul_left _ (by omega))
    have := growS_lenT q (m + 2) (n + 1) _ (good_next triLatt h (by omega)) (by omega) (by omega) (by omega)
    rw [growS]
    refine Nat.le_trans this (Nat.le_trans (Nat.mul_le_mul_right _ hnx) ?_)
    rw [Nat.mul_assoc, Nat.mul_comm 36, ← e36]
    exact Nat.le_refl _
theorem formOkT {m : Int} {n : Nat} {s : List Cell} (h : Good triX m n s) (hm : 0 ≤ m ∧ m ≤ 80) (hn : n ≤ 6) : ∀ (q : Nat) (t : Int), 0 ≤ t → triGOk s q t = true
  | 0, _, _ => rfl
  | q + 1, t, ht => by
    unfold triGOk
    have hp : Pre triX m n (latL s t) := lat_pre h hm t (fun c hc => triX_lat (by have := h.box c hc; omega))
    have hg : Good triX m n (triG s t) := triLatt.norm _ _ _ hm.1 (by omega) hp
    rw [good_shape hg hm (by omega), formOkT h hm hn q (t + 1) (by omega)]
    rfl
def keepT (l : List (List Cell)) : List (List Cell) := l.filter fun s => decide (triGMin s = s)
theorem rot_singT (s : List Cell) : (if triGMin s = s then [s] else []) = keepT [s] := by
  unfold keepT
  by_cases h : triGMin s = s <;> simp [h]
theorem specFree_evT {m : Int} {n : Nat} (l : List (List Cell)) (h : ∀ s ∈ l, Good triX m n s) (hm : 0 ≤ m ∧ m ≤ 80) (hn : n ≤ 6) (hl : l.length ≤ 1000000000) : Ev (fun k => spec_l07Free.f k 0 l) (keepT l) := by
  have hsm : small l := by unfold small; omega
  unfold spec_l07Free.f
  refine loop_list l (fun k i (acc : List (List Cell)) => spec_l07Free.l0 k 0 l acc i) (fun _ _ _ => keepT l) (fun pre acc => acc = keepT pre) ?_ ?_ [] rfl
  · rintro acc rfl
    simp only [spec_l07Free.l0, len_lt, if_false]
    exact Ev.now _
  · rintro pre s suf acc hx rfl ih
    have hp := pre_len hx
    have hg := h s (by rw [hx]; simp)
    have hgl := hg.len
    have hgp := hg.pos
    have hk : (keepT pre).length ≤ pre.length := List.length_filter_le _ _
    have hadd : ∀ x, keepT (pre ++ [x]) = keepT pre ++ (if triGMin x = x then [x] else []) := fun x => by
      rw [rot_singT]; unfold keepT; rw [List.filter_append]
    simp only [spec_l07Free.l0, pre_lt hx, pre_0, if_true, at_preL2 hx, pre_w hx hsm]
    have hF : Ev (fun k => spec_l07Forms.f k 0 s) (triGS s 12 0, triGOk s 12 0) := by
      unfold spec_l07Forms.f
      exact Ev.of_eq (specForms0_l s (by omega) (by omega) 12 0 [] true (by omega) (by omega) (by simp)) (by simp)
    refine Ev.bind hF ?_
    have e12 : triGS s 12 0 = triG s 0 :: triGS s 11 1 := rfl
    have hmem : ∀ x ∈ triG s 0 :: triGS s 11 1, small x := by
      intro x hx
      rw [← e12] at hx
      have := triGS_mem s 12 0 x hx
      unfold small; omega
    simp only [e12]
    refine Ev.bind (specLeastS_ev _ _ (by unfold small; rw [List.length_cons, triGS_len]; omega) hmem) ?_
    have hml := triGMin_len s
    refine Ev.bind (specCompare_ev (triGMin s) s (by unfold small; omega)) ?_
    by_cases e : triGMin s = s
    · refine Ev.pos ((cmpS_zero _ _).2 e) (Ev.pos (by omega) (ih _ ?_))
      rw [hadd, if_pos e]
    · refine Ev.neg (fun h => e ((cmpS_zero _ _).1 h)) (ih _ ?_)
      rw [hadd, if_neg e, List.append_nil]
theorem implOwn_evT {m : Int} {n : Nat} (l : List (List Cell)) (h : ∀ s ∈ l, Good triX m n s) (hm : 0 ≤ m ∧ m ≤ 80) (hn : n ≤ 6) (hl : l.length ≤ 1000000000) (hA : apartB (keepT l) = true) : Ev (fun k => impl_ownLeast__impl_triangleForm.f k l) (keepT l) := by
  have hsm : small l := by unfold small; omega
  unfold impl_ownLeast__impl_triangleForm.f
  refine Ev.bind (a := keepT l) ?_ (Ev.pos hA (Ev.now _))
  refine loop_list l (fun k i (acc : List (List Cell)) => impl_ownLeast__impl_triangleForm.l0 k acc l (l.length : Int) i) (fun _ _ _ => keepT l) (fun pre acc => acc = keepT pre) ?_ ?_ [] rfl
  · rintro acc rfl
    simp only [impl_ownLeast__impl_triangleForm.l0, len_lt, if_false]
    exact Ev.now _
  · rintro pre s suf acc hx rfl ih
    have hp := pre_len hx
    have hg := h s (by rw [hx]; simp)
    have hgl := hg.len
    have hgp := hg.pos
    have hk : (keepT pre).length ≤ pre.length := List.length_filter_le _ _
    have hadd : ∀ x, keepT (pre ++ [x]) = keepT pre ++ (if triGMin x = x then [x] else []) := fun x => by
      rw [rot_singT]; unfold keepT; rw [List.filter_append]
    simp only [impl_ownLeast__impl_triangleForm.l0, pre_lt hx, pre_0, if_true, at_preL2 hx, pre_w hx hsm]
    have hL : Ev (fun k => impl_leastForm__impl_triangleForm.f k s) (triGMin s, true) := by
      unfold impl_leastForm__impl_triangleForm.f
      refine Ev.of_eq (implLeast0_l s (by omega) (by omega) 12 0 [] (by omega) (by omega) (by simp) (fun x hx => by simp at hx)) ?_
      rw [if_pos (formOkT hg hm hn 12 0 (by omega))]
      rfl
    have hml := triGMin_len s
    refine Ev.bind hL (Ev.pos rfl (Ev.bind (equalC_ev (triGMin s) s (by unfold small; omega)) ?_))
    by_cases e : triGMin s = s
    · refine Ev.pos (by simpa using e) (Ev.pos (by omega) (ih _ ?_))
      rw [hadd, if_pos e]
    · refine Ev.neg (by simpa using e) (ih _ ?_)
      rw [hadd, if_neg e, List.append_nil]
def startT : List (List Cell) := [[⟨1, 1⟩], [⟨2, 2⟩]]
theorem start_goodT : ∀ s ∈ startT, Good triX 0 1 s := by
  intro s hs
  simp only [startT, List.mem_cons, List.not_mem_nil, or_false] at hs
  rcases hs with rfl | rfl <;> exact ⟨rfl, by omega, by simp, by simp, by simp, by simp [triX]⟩
theorem specAll_evT (n : Nat) (h1 : 1 ≤ n) (h2 : n ≤ 6) : Ev (fun k => spec_l07All.f k 0 (n : Int)) (growS triC normalT (n - 1) startT) := by
  unfold spec_l07All.f
  refine Ev.pos rfl (Ev.succ ?_)
  simp only [spec_l07All.j0]
  have h36 : 36 ^ (n - 1) ≤ 36 ^ (6 - 1) := Nat.pow_le_pow_right (by omega) (by omega)
  exact specAll_qT n (by omega) (n - 1) 1 0 1 startT (by omega) start_goodT (by omega) (by omega) (by omega) (Nat.le_trans (Nat.mul_le_mul_left _ h36) (by decide))
theorem implAll_evT (n : Nat) (h1 : 1 ≤ n) (h2 : n ≤ 6) : Ev (fun k => impl_allTriangles.f k (n : Int)) (growS triC normalT (n - 1) startT) := by
  have h36 : 36 ^ (n - 1) ≤ 36 ^ (6 - 1) := Nat.pow_le_pow_right (by omega) (by omega)
  have e : wrap64 ((n : Int) - 1) = ((n - 1 : Nat) : Int) := by rw [w64 (by omega) (by omega)]; omega
  rw [← grow_eq triLatt (n - 1) 0 1 startT start_goodT (by omega) (by omega)]
  unfold impl_allTriangles.f
  refine Ev.bind (a := growI triC normalT (n - 1) startT) ?_ (Ev.now _)
  unfold impl_allGrown__impl_trianglesAround_impl_normalTriangles.f
  rw [e]
  exact implAll_qT (n - 1) (by omega) (n - 1) 0 0 1 startT (by omega) start_goodT (by omega) (by omega) (by omega) (by decide) (Nat.le_trans (Nat.mul_le_mul_left _ h36) (by decide))
theorem all_goodT (n : Nat) (h1 : 1 ≤ n) (h2 : n ≤ 6) : ∀ x ∈ growS triC normalT (n - 1) startT, Good triX (0 + ((n - 1 : Nat) : Int) * 2) (1 + (n - 1)) x :=
  grow_good triLatt (n - 1) 0 1 startT start_goodT (by omega) (by omega)
theorem all_lenT (n : Nat) (h1 : 1 ≤ n) (h2 : n ≤ 6) : (growS triC normalT (n - 1) startT).length ≤ 200000000 := by
  have h36 : 36 ^ (n - 1) ≤ 36 ^ (6 - 1) := Nat.pow_le_pow_right (by omega) (by omega)
  refine Nat.le_trans (growS_lenT (n - 1) 0 1 startT start_goodT (by omega) (by omega) (by omega)) (Nat.le_trans (Nat.mul_le_mul_left _ h36) (by decide))
theorem grow_ascT : ∀ (q : Nat) (l : List (List Cell)), asc l → asc (growS triC normalT q l)
  | 0, _, h => h
  | q + 1, l, _ => grow_ascT q _ (foldAdd_asc _ _ List.Pairwise.nil)
theorem start_ascT : asc startT := by unfold asc startT; decide
theorem keep_apartT (n : Nat) (h1 : 1 ≤ n) (h2 : n ≤ 6) : apartB (keepT (growS triC normalT (n - 1) startT)) = true := by
  have ha : asc (keepT (growS triC normalT (n - 1) startT)) := List.Pairwise.filter _ (grow_ascT (n - 1) _ start_ascT)
  have hl : ∀ x ∈ keepT (growS triC normalT (n - 1) startT), x.length = 1 + (n - 1) := fun x hx => (all_goodT n h1 h2 x (List.mem_filter.1 hx).1).len
  unfold apartB
  rw [Bool.and_eq_true, List.all_eq_true]
  refine ⟨decide_eq_true (ha.imp fun h e => by rw [(cmpS_zero _ _).2 e] at h; omega), fun x hx => ?_⟩
  have hx' := hl x hx
  have hh : ((keepT (growS triC normalT (n - 1) startT)).headD []).length = 1 + (n - 1) := by
    cases e : keepT (growS triC normalT (n - 1) startT) with
    | nil => rw [e] at hx; simp at hx
    | cons a r => exact hl a (by rw [e]; simp)
  rw [hh, Bool.and_eq_true]
  exact ⟨decide_eq_true hx', decide_eq_true (by omega)⟩
theorem specFreeAll_evT (n : Nat) (h1 : 1 ≤ n) (h2 : n ≤ 6) : Ev (fun k => spec_l07Free.f k 0 (growS triC normalT (n - 1) startT)) (keepT (growS triC normalT (n - 1) startT)) :=
  specFree_evT _ (all_goodT n h1 h2) (by omega) (by omega) (by have := all_lenT n h1 h2; omega)
theorem implOwnAll_evT (n : Nat) (h1 : 1 ≤ n) (h2 : n ≤ 6) : Ev (fun k => impl_ownLeast__impl_triangleForm.f k (growS triC normalT (n - 1) startT)) (keepT (growS triC normalT (n - 1) startT)) :=
  implOwn_evT _ (all_goodT n h1 h2) (by omega) (by omega) (by have := all_lenT n h1 h2; omega) (keep_apartT n h1 h2)
def markedCF (m : Int) (n : Nat) : List Cell := (List.range n).map fun (i : Nat) => ⟨m + 2 * (i : Int), m + 1 + 2 * (i : Int)⟩
theorem markedCF_len (m : Int) (n : Nat) : (markedCF m n).length = n := by simp [markedCF]
theorem markedCF_get (m : Int) (n i : Nat) (h : i < n) : (markedCF m n)[i]? = some ⟨m + 2 * (i : Int), m + 1 + 2 * (i : Int)⟩ := by
  simp [markedCF, h]
theorem markCellS_from (a : List Cell) (m : Int) (h0 : 0 ≤ m) (h1 : m ≤ 4611686018427387904) (ha : fits a) : Ev (fun k => laws_markCellS.f k a m) (m + 2 * (a.length : Int), markedCF m a.length) := by
  unfold laws_markCellS.f
  have hs := ha.small
  unfold fits at ha
  have := loop_list a (fun k i (s : List Cell × Int) => laws_markCellS.l0 k s.1 s.2 i) (fun pre _ s => (m + 2 * (a.length : Int), s.1.take pre.length ++ (markedCF m a.length).drop pre.length))
    (fun pre s => s.1.length = a.length ∧ s.2 = m + 2 * (pre.length : Int)) ?_ ?_ (a, m) ⟨rfl, by simp⟩
  · simpa using this
  · rintro ⟨l, n⟩ ⟨hl, hn⟩
    simp only at hl hn
    simp only [laws_markCellS.l0, hl, len_lt, if_false]
    refine Ev.of_eq (Ev.now _) ?_
    rw [List.take_of_length_le (by omega), List.drop_of_length_le (by rw [markedCF_len]; exact Nat.le_refl _), List.append_nil, hn]
  · rintro pre c suf ⟨l, n⟩ hx ⟨hl, hn⟩ ih
    have hp := pre_len hx
    simp only at hl hn
    subst hn
    have hlt : ((pre.length : Int) < (l.length : Int)) = True := by rw [hl]; exact pre_lt hx
    have e1 : wrap64 (m + 2 * (pre.length : Int) + 1) = m + 1 + 2 * (pre.length : Int) := by rw [w64 (by omega) (by omega)]; omega
    have e2 : wrap64 (m + 1 + 2 * (pre.length : Int) + 1) = m + 2 * ((pre.length : Int) + 1) := by rw [w64 (by omega) (by omega)]; omega
    have e3 : rd_T43 (l.set pre.length (⟨m + 2 * (pre.length : Int), (rd_T43 l (pre.length : Int)).f1⟩ : Cell)) (pre.length : Int) = ⟨m + 2 * (pre.length : Int), (rd_T43 l (pre.length : Int)).f1⟩ := by
      simp [rd_T43, List.getD, hl, hp]
    simp only [laws_markCellS.l0, hlt, pre_0, if_true, Option.bind_some, Int.toNat_natCast, e3, List.set_set, e1, e2, pre_w hx hs]
    refine Ev.of_eq (ih (l.set pre.length ⟨m + 2 * (pre.length : Int), m + 1 + 2 * (pre.length : Int)⟩, m + 2 * ((pre.length : Int) + 1)) ⟨by simpa using hl, by simp⟩) ?_
    refine Prod.ext rfl ?_
    simp only [List.length_append, List.length_singleton]
    rw [List.take_add_one, List.getElem?_set_self (by omega), List.take_set_of_le (Nat.le_refl _), List.drop_eq_getElem_cons (i := pre.length) (by rw [markedCF_len]; omega)]
    have := markedCF_get m a.length pre.length hp
    rw [List.getElem?_eq_getElem (by rw [markedCF_len]; omega)] at this
    simp [Option.some.inj this]
theorem heldCellS_fromC (m : Int) (n : Nat) (h0 : 0 ≤ m) (h1 : m ≤ 4611686018427387904) (hn : n ≤ 1048576) : Ev (fun k => laws_heldCellS.f k (markedCF m n) m) (m + 2 * (n : Int)) := by
  unfold laws_heldCellS.f
  have hs : small (markedCF m n) := by unfold small; rw [markedCF_len]; omega
  refine loop_list (markedCF m n) (fun k i (s : Int) => laws_heldCellS.l0 k (markedCF m n) s i) (fun _ _ _ => m + 2 * (n : Int)) (fun pre s => s = m + 2 * (pre.length : Int)) ?_ ?_ m (by simp)
  · rintro s rfl
    simp only [laws_heldCellS.l0, len_lt, if_false]
    rw [markedCF_len]
    exact Ev.now _
  · rintro pre c suf s hx rfl ih
    have hp := pre_len hx
    rw [markedCF_len] at hp
    have hc := pre_get hx
    rw [markedCF_get m n _ hp] at hc
    have hc := Option.some.inj hc
    have e1 : wrap64 (m + 2 * (pre.length : Int) + 1) = m + 1 + 2 * (pre.length : Int) := by rw [w64 (by omega) (by omega)]; omega
    have e2 : wrap64 (m + 1 + 2 * (pre.length : Int) + 1) = m + 2 * ((pre.length : Int) + 1) := by rw [w64 (by omega) (by omega)]; omega
    simp only [laws_heldCellS.l0, pre_lt hx, pre_0, if_true, at_pre hx, ← hc, e1, e2, pre_w hx hs]
    exact ih _ (by simp)
def totSS : List (List Cell) → Nat
  | [] => 0
  | x :: r => x.length + totSS r
def mkSS : List (List Cell) → Int → List (List Cell)
  | [], _ => []
  | x :: r, m => markedCF m x.length :: mkSS r (m + 2 * (x.length : Int))
theorem mkSS_len : ∀ (L : List (List Cell)) (m : Int), (mkSS L m).length = L.length
  | [], _ => rfl
  | x :: r, m => by unfold mkSS; rw [List.length_cons, List.length_cons, mkSS_len r]
def fitsSS (L : List (List Cell)) : Prop := L.length ≤ 1000000000 ∧ (∀ x ∈ L, fits x) ∧ totSS L ≤ 1000000000000
theorem markSS_l : ∀ (suf pre : List (List Cell)) (m : Int), (pre ++ suf).length ≤ 1000000000 → (∀ x ∈ suf, fits x) → 0 ≤ m → m + 2 * (totSS suf : Int) ≤ 4611686018427387904 →
    Ev (fun k => laws_markCellSS.l0 k (pre ++ suf) m (pre.length : Int)) (m + 2 * (totSS suf : Int), pre ++ mkSS suf m)
  | [], pre, m, hl, hf, h0, h1 => by
    refine Ev.succ ?_
    simp only [laws_markCellSS.l0]
    refine Ev.neg (by simp) (Ev.of_eq (Ev.now _) ?_)
    simp [totSS, mkSS]
  | x :: suf, pre, m, hl, hf, h0, h1 => by
    refine Ev.succ ?_
    have hl' := hl
    simp only [List.length_append, List.length_cons] at hl'
    simp only [totSS] at h1 ⊢
    have hg : (pre ++ x :: suf).getD (pre.length : Int).toNat [] = x := getD_at pre suf x _
    have hset (y : List Cell) : (pre ++ x :: suf).set (pre.length : Int).toNat y = (pre ++ [y]) ++ suf := by simp
    simp only [laws_markCellSS.l0, hg, hset]
    refine Ev.pos (by simp; omega) (Ev.pos (by omega) (Ev.bind (markCellS_from x m h0 (by omega) (hf x List.mem_cons_self)) ?_))
    have ew : wrap64 ((pre.length : Int) + 1) = ((pre ++ [markedCF m x.length]).length : Int) := by rw [w64 (by omega) (by omega)]; simp
    simp only [ew]
    refine Ev.of_eq (markSS_l suf (pre ++ [markedCF m x.length]) (m + 2 * (x.length : Int)) (by simp; omega) (fun y hy => hf y (List.mem_cons_of_mem _ hy)) (by omega) (by omega)) ?_
    refine Prod.ext ?_ ?_
    · simp only; omega
    · simp [mkSS]
theorem markSS_ev (L : List (List Cell)) (m : Int) (hf : fitsSS L) (h0 : 0 ≤ m) (h1 : m ≤ 1000000000000) : Ev (fun k => laws_markCellSS.f k L m) (m + 2 * (totSS L : Int), mkSS L m) := by
  have := hf.2.2
  exact markSS_l L [] m hf.1 hf.2.1 h0 (by omega)
theorem heldSS_l (X : List (List Cell)) (hX : X.length ≤ 1000000000) : ∀ (L pre : List (List Cell)) (m : Int), X = pre ++ mkSS L m → (∀ x ∈ L, fits x) → 0 ≤ m → m + 2 * (totSS L : Int) ≤ 4611686018427387904 →
    Ev (fun k => laws_heldCellSS.l0 k X m (pre.length : Int)) (m + 2 * (totSS L : Int))
  | [], pre, m, hx, hf, h0, h1 => by
    refine Ev.succ ?_
    have hp := congrArg List.length hx
    simp only [mkSS, List.length_append, List.length_nil] at hp
    simp only [laws_heldCellSS.l0]
    refine Ev.neg (by omega) (Ev.of_eq (Ev.now _) (by simp [totSS]))
  | x :: L, pre, m, hx, hf, h0, h1 => by
    refine Ev.succ ?_
    have hs : small X := by unfold small; omega
    have hx2 : X = pre ++ markedCF m x.length :: mkSS L (m + 2 * (x.length : Int)) := hx
    simp only [totSS] at h1 ⊢
    have hr : rd_L2 X (pre.length : Int) = markedCF m x.length := by rw [hx2]; exact getD_at _ _ _ _
    simp only [laws_heldCellSS.l0, pre_lt hx2, pre_0, if_true, hr, pre_w hx2 hs]
    refine Ev.bind (heldCellS_fromC m x.length h0 (by omega) (hf x List.mem_cons_self)) (Ev.neg (by omega) ?_)
    have ih := heldSS_l X hX L (pre ++ [markedCF m x.length]) (m + 2 * (x.length : Int)) (by rw [hx2]; simp) (fun y hy => hf y (List.mem_cons_of_mem _ hy)) (by omega) (by omega)
    simp only [List.length_append, List.length_singleton, Int.natCast_add] at ih
    refine Ev.of_eq ih ?_
    omega
theorem heldSS_ev (L : List (List Cell)) (m : Int) (hf : fitsSS L) (h0 : 0 ≤ m) (h1 : m ≤ 1000000000000) : Ev (fun k => laws_heldCellSS.f k (mkSS L m) m) (m + 2 * (totSS L : Int)) := by
  have := hf.2.2
  exact heldSS_l (mkSS L m) (by rw [mkSS_len]; exact hf.1) L [] m rfl hf.2.1 h0 (by omega)
theorem eqSS_ev (a : List (List Cell)) (hs : small a) (h : ∀ x ∈ a, small x) : Ev (fun k => laws_eqCellSS.f k a a) true := by
  unfold laws_eqCellSS.f
  refine Ev.pos rfl ?_
  refine loop_list a (fun k i (_ : Unit) => laws_eqCellSS.l0 k a a i) (fun _ _ _ => true) (fun _ _ => True) ?_ ?_ () trivial
  · intro _ _
    simp only [laws_eqCellSS.l0, len_lt, if_false]
    exact Ev.now _
  · intro pre c suf _ hx _ ih
    have hr : rd_L2 a (pre.length : Int) = c := by rw [hx]; exact getD_at pre suf c _
    simp only [laws_eqCellSS.l0, pre_lt hx, pre_0, if_true, hr, pre_w hx hs]
    exact Ev.bind (eqCellS_ev c (h c (by rw [hx]; simp))) (Ev.pos rfl (ih () trivial))
theorem totSS_le (m : Nat) : ∀ L : List (List Cell), (∀ x ∈ L, x.length ≤ m) → totSS L ≤ m * L.length
  | [], _ => Nat.zero_le _
  | x :: r, h => by
    have h1 := h x List.mem_cons_self
    have h2 := totSS_le m r fun y hy => h y (List.mem_cons_of_mem _ hy)
    rw [totSS, List.length_cons, Nat.mul_succ]
    omega
end Go.Proofs.Ytibbjiehblpmfaa.L
end
section
namespace Go.Proofs.Ytibbjiehblpmfaa.L
open Go.RowKit Go.Proofs.YtibbjiehblpmfaaW.PrintWords Go.Proofs.YtibbjiehblpmfaaW.PrintLast Go.Proofs.YtibbjiehblpmfaaW.PrintMore Go.Proofs.Ytibbjiehblpmfaa.F
set_option linter.unusedVariables false
def leastT (a : Int) : List (List Cell) × Int := if 1 ≤ a ∧ a ≤ 6 then (keepT (growS triC normalT (a.toNat - 1) startT), 0) else ([], 2)
theorem inST (a b c : Int) : spec_l01In.f a b c = some (decide (b ≤ a ∧ a ≤ c)) := by
  unfold spec_l01In.f
  by_cases h : a ≥ b
  · rw [if_pos h]
    congr 1
    simp
    omega
  · rw [if_neg h]
    congr 1
    simp
    omega
theorem withinST (a b c : Int) : impl_within.f a b c = some (decide (b ≤ a ∧ a ≤ c)) := inST a b c
theorem specShapes_evT (a : Int) : Ev (fun k => spec_TriangleShapes.f k a) (leastT a) := by
  unfold spec_TriangleShapes.f leastT
  refine Ev.bind0 (inST a 1 6) ?_
  by_cases h : 1 ≤ a ∧ a ≤ 6
  · obtain ⟨n, rfl⟩ : ∃ n : Nat, a = (n : Int) := ⟨a.toNat, by omega⟩
    rw [if_pos h]
    refine Ev.pos (by simpa using h) (Ev.bind (specAll_evT n (by omega) (by omega)) (Ev.bind (specFreeAll_evT n (by omega) (by omega)) (Ev.now _)))
  · rw [if_neg h]
    exact Ev.neg (by simpa using h) (Ev.now _)
theorem implShapes_evT (a : Int) : Ev (fun k => impl_TriangleShapes.f k a) (leastT a) := by
  unfold impl_TriangleShapes.f leastT
  refine Ev.bind0 (withinST a 1 6) ?_
  by_cases h : 1 ≤ a ∧ a ≤ 6
  · obtain ⟨n, rfl⟩ : ∃ n : Nat, a = (n : Int) := ⟨a.toNat, by omega⟩
    rw [if_pos h]
    refine Ev.pos (by simpa using h) (Ev.bind (implAll_evT n (by omega) (by omega)) (Ev.bind (implOwnAll_evT n (by omega) (by omega)) (Ev.now _)))
  · rw [if_neg h]
    exact Ev.neg (by simpa using h) (Ev.now _)
theorem least_memT {a : Int} : ∀ x ∈ (leastT a).1, x.length ≤ 6 := by
  unfold leastT
  split
  · rename_i h
    obtain ⟨n, rfl⟩ : ∃ n : Nat, a = (n : Int) := ⟨a.toNat, by omega⟩
    intro x hx
    have := (all_goodT n (by omega) (by omega) x (List.mem_filter.1 hx).1).len
    omega
  · intro x hx; simp at hx
theorem least_lenT (a : Int) : (leastT a).1.length ≤ 200000000 := by
  unfold leastT
  split
  · rename_i h
    obtain ⟨n, rfl⟩ : ∃ n : Nat, a = (n : Int) := ⟨a.toNat, by omega⟩
    exact Nat.le_trans (List.length_filter_le _ _) (all_lenT n (by omega) (by omega))
  · simp
end Go.Proofs.Ytibbjiehblpmfaa.L
namespace Go.Proofs.Ytibbjiehblpmfaa.Pure
open Go.RowKit Go.Proofs.YtibbjiehblpmfaaW.PrintWords Go.Proofs.Ytibbjiehblpmfaa.F Go.Proofs.Ytibbjiehblpmfaa.L
set_option linter.unusedVariables false
theorem FnExactTriangleShapes (a0 : Int) (hv : (Lit.int .i64 a0).wf = true) : ∃ k, laws_FnExactTriangleShapes.f k a0 = some true := by
  refine Ev.rounds ?_
  unfold laws_FnExactTriangleShapes.f
  have hR := least_memT (a := a0)
  have hL := least_lenT a0
  generalize hG : leastT a0 = G at hR hL
  have hLs : small G.1 := by unfold small; omega
  have hRs : ∀ x ∈ G.1, small x := fun x hx => by have := hR x hx; unfold small; omega
  have hT := totSS_le 6 _ hR
  have hF : fitsSS G.1 := ⟨by omega, fun x hx => Nat.le_trans (hR x hx) (by decide), by
    have := Nat.mul_le_mul_left 6 hL
    omega⟩
  have hS := specShapes_evT a0
  have hI := implShapes_evT a0
  rw [hG] at hS hI
  refine Ev.bind hS (Ev.bind hI (Ev.bind (eqSS_ev _ hLs hRs) (Ev.pos rfl ?_)))
  refine Ev.step (fun k => laws_FnExactTriangleShapes.j0.eq_2 _ _ _ _ _ _) (Ev.neg (by simp) ?_)
  refine Ev.bind (markSS_ev _ 1 hF (by decide) (by decide)) (Ev.bind (heldSS_ev _ 1 hF (by decide) (by decide)) (Ev.neg (by omega) (Ev.pos rfl ?_)))
  refine Ev.bind hI (Ev.bind (eqSS_ev _ hLs hRs) (Ev.pos rfl ?_))
  refine Ev.step (fun k => laws_FnExactTriangleShapes.j1.eq_2 _ _ _ _) (Ev.neg (by simp) ?_)
  exact Ev.bind (heldSS_ev _ 1 hF (by decide) (by decide)) (Ev.neg (by omega) (Ev.pos rfl (Ev.now _)))
end Go.Proofs.Ytibbjiehblpmfaa.Pure
end
