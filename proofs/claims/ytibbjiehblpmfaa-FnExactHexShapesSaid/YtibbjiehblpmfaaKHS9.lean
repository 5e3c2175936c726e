/- The row of FnExactHexShapes, with what it needs: text 10 of 11. -/
import Derived.Test.YtibbjiehblpmfaaKHS8
set_option maxHeartbeats 8000000
set_option maxRecDepth 100000
section
namespace Go.Proofs.Ytibbjiehblpmfaa.L
open Go.RowKit Go.Proofs.YtibbjiehblpmfaaW.PrintWords Go.Proofs.YtibbjiehblpmfaaW.PrintLast Go.Proofs.YtibbjiehblpmfaaW.PrintMore Go.Proofs.Ytibbjiehblpmfaa.F
set_option linter.unusedVariables false
set_option linter.unusedSimpArgs false
theorem implAll_lH {m : Int} {n : Nat} (now : List (List Cell)) (h : ∀ s ∈ now, Good (fun _ => True) m n s) (hm : 0 ≤ m ∧ m ≤ 80) (hn : n ≤ 6) (h0 : 0 < now.length) (hl : now.length ≤ 1000000000) (len_ i_ : Int) {r : List (List Cell)} : ∀ (suf pre acc : List (List Cell)), now = pre ++ suf → acc = pre.flatMap (grownL hexC normalL) → Ev (fun k => impl_allGrown__impl_hexAround_impl_normal.l0 k (nextI hexC normalL now) len_ (wrap64 (i_ + 1))) r →
    Ev (fun k => impl_allGrown__impl_hexAround_impl_normal.l1 k acc len_ i_ now (now.length : Int) (pre.length : Int)) r
  | [], pre, acc, hx, ha, hc => by
    refine Ev.succ ?_
    rw [List.append_nil] at hx
    subst hx ha
    simp only [impl_allGrown__impl_hexAround_impl_normal.l1]
    refine Ev.neg (by omega) ?_
    have h1 : (now.flatMap (grownL hexC normalL)).length ≤ now.length * 36 := flat_len _ 36 now fun s hs => by
      have := grownL_len hexLatt s
      have := (h s hs).len
      omega
    obtain ⟨s, hs⟩ := List.exists_mem_of_length_pos h0
    have h2 := (implGrown_evH s (h s hs) hm (by omega)).2
    obtain ⟨x, hx⟩ := List.exists_mem_of_length_pos h2
    have h3 : 0 < (now.flatMap (grownL hexC normalL)).length := List.length_pos_of_mem (List.mem_flatMap.2 ⟨s, hs, hx⟩)
    exact Ev.bind0 (implTidy_eq _ h3 (by omega)) hc
  | s :: suf, pre, acc, hx, ha, hc => by
    refine Ev.succ ?_
    have hsm : small now := by unfold small; omega
    have hs : s ∈ now := by rw [hx]; simp
    have hi := implAll_lH now h hm hn h0 hl len_ i_ suf (pre ++ [s]) (acc ++ grownL hexC normalL s) (by rw [hx]; simp) (by rw [ha]; simp) hc
    simp only [List.length_append, List.length_singleton, Int.natCast_add] at hi
    have h1 : acc.length ≤ pre.length * 36 := by
      rw [ha]
      exact flat_len _ 36 pre fun s hs => by
        have := grownL_len hexLatt s
        have := (h s (by rw [hx]; simp [hs])).len
        omega
    have h2 := grownL_len hexLatt s
    have h3 := (h s hs).len
    have h4 := pre_len hx
    simp only [impl_allGrown__impl_hexAround_impl_normal.l1, pre_lt hx, pre_0, if_true, at_preL2 hx, pre_w hx hsm]
    exact Ev.bind (implGrown_evH s (h s hs) hm (by omega)).1 (Ev.pos (by omega) hi)
theorem implAll_qH (N : Nat) (hN : N ≤ 6) : ∀ (q i : Nat) (m : Int) (n : Nat) (now : List (List Cell)), i + q = N → (∀ s ∈ now, Good (fun _ => True) m n s) → 0 ≤ m → m + q * 1 ≤ 80 → n + q ≤ 6 → 0 < now.length → now.length * 36 ^ q ≤ 1000000000 →
    Ev (fun k => impl_allGrown__impl_hexAround_impl_normal.l0 k now (N : Int) (i : Int)) (growI hexC normalL q now)
  | 0, i, m, n, now, hi, h, h0, h1, h2, h3, h4 => by
    refine Ev.succ ?_
    simp only [impl_allGrown__impl_hexAround_impl_normal.l0]
    exact Ev.neg (by omega) (Ev.now _)
  | q + 1, i, m, n, now, hi, h, h0, h1, h2, h3, h4 => by
    have e36 : 36 ^ (q + 1) = 36 ^ q * 36 := Nat.pow_succ ..
    have e1 : 0 < 36 ^ q := Nat.pow_pos (by omega)
    have hnl : now.length ≤ 1000000000 := Nat.le_trans (Nat.le_mul_of_pos_right _ (by rw [e36]; omega)) h4
    have ew : wrap64 ((i : Int) + 1) = ((i + 1 : Nat) : Int) := by rw [w64 (by omega) (by omega)]; omega
    have hg : ∀ x ∈ nextI hexC normalL now, Good (fun _ => True) (m + 1) (n + 1) x := by
      rw [next_eq fun s hs => (h s hs).lt]
      exact good_next hexLatt h (by omega)
    have hnx : (nextI hexC normalL now).length ≤ now.length * 36 := by
      rw [next_eq fun s hs => (h s hs).lt]
      refine Nat.le_trans (nextS_len hexLatt (n := n) fun s hs => (h s hs).len) (Nat.mul_le_mul_left _ (by omega))
    have hn0 : 0 < (nextI hexC normalL now).length := by
      obtain ⟨s, hs⟩ := List.exists_mem_of_length_pos h3
      have h2 := (implGrown_evH s (h s hs) (by omega) (by omega)).2
      obtain ⟨x, hx⟩ := List.exists_mem_of_length_pos h2
      exact List.length_pos_of_mem (tidyL_mem.2 (List.mem_flatMap.2 ⟨s, hs, hx⟩))
    have hb : (nextI hexC normalL now).length * 36 ^ q ≤ 1000000000 := by
      refine Nat.le_trans (Nat.mul_le_mul_right _ hnx) ?_
      rw [Nat.mul_assoc, Nat.mul_comm 36, ← e36]
      exact h4
    refine Ev.succ ?_
    simp only [impl_allGrown__impl_hexAround_impl_normal.l0]
    refine Ev.pos (by omega) (implAll_lH now h (by omega) (by omega) h3 hnl _ _ now [] [] rfl rfl ?_)
    rw [ew]
    exact implAll_qH N hN q (i + 1) (m + 1) (n + 1) _ (by omega) hg (by omega) (by omega) (by omega) hn0 hb
theorem specAll_3H (N x6 i j : Int) (now : List (List Cell)) (s : List Cell) (hs : s.length ≤ 64) (hi0 : 0 ≤ i) (hi1 : i < (now.length : Int)) (hrd : rd_L2 now i = s) (arr : List Cell) (ha : arr.length ≤ 64) {r : List (List Cell)} : ∀ (suf pre : List Cell) (next : List (List Cell)), arr = pre ++ suf → next.length + suf.length ≤ 900000000 →
    Ev (fun k => spec_l07All.l2 k 1 N now x6 (((freeOf s suf).map fun d => normalL (insC d s)).foldl addL next) i (wrap64 (j + 1))) r → Ev (fun k => spec_l07All.l3 k 1 N now x6 next i j arr (pre.length : Int)) r
  | [], pre, next, hx, hl, hc => by
    refine Ev.succ ?_
    rw [List.append_nil] at hx
    subst hx
    simp only [spec_l07All.l3]
    exact Ev.neg (by omega) (by simpa [freeOf] using hc)
  | d :: suf, pre, next, hx, hl, hc => by
    refine Ev.succ ?_
    have hsm : small arr := by unfold small; omega
    simp only [List.length_cons] at hl
    have hi (next' : List (List Cell)) (ho : next'.length + suf.length ≤ 900000000) (hc' : Ev (fun k => spec_l07All.l2 k 1 N now x6 (((freeOf s suf).map fun d => normalL (insC d s)).foldl addL next') i (wrap64 (j + 1))) r) := specAll_3H N x6 i j now s hs hi0 hi1 hrd arr ha suf (pre ++ [d]) next' (by rw [hx]; simp) ho hc'
    simp only [List.length_append, List.length_singleton, Int.natCast_add] at hi
    simp only [spec_l07All.l3, pre_lt hx, pre_0, if_true, at_pre hx, pre_w hx hsm, hrd]
    refine Ev.pos hi0 (Ev.pos hi1 (Ev.bind (specIndex_ev s d (by unfold small; omega)) ?_))
    by_cases hm : d ∈ s
    · have := (idxC_mem s d).2 hm
      refine Ev.neg (by omega) (hi next (by omega) ?_)
      simpa [freeOf, hm] using hc
    · have : ¬ idxC s d ≥ 0 := fun h => hm ((idxC_mem s d).1 h)
      have hil : (insC d s).length = s.length + 1 := by rw [(insC_perm d s).length_eq, List.length_cons]
      have hnl : (normalL (insC d s)).length = s.length + 1 := by rw [normalL_len, hil]
      have hal := addL_len next (normalL (insC d s))
      refine Ev.pos (by omega) (Ev.bind (specInsert_ev s d (by omega)) (Ev.bind (specNormal1_ev _ (by omega) (by omega)) (Ev.bind (specAdd_ev next _ (by omega) (by unfold small; omega)) (hi _ (by omega) ?_))))
      have : freeOf s (d :: suf) = d :: freeOf s suf := by simp [freeOf, hm]
      rw [this] at hc
      simpa using hc
theorem specAll_2H {m : Int} {n : Nat} (N x6 i : Int) (now : List (List Cell)) (s : List Cell) (h : Good (fun _ => True) m n s) (hm : 0 ≤ m ∧ m ≤ 80) (hs : s.length ≤ 64) (hi0 : 0 ≤ i) (hi1 : i < (now.length : Int)) (hrd : rd_L2 now i = s) {r : List (List Cell)} : ∀ (suf pre : List Cell) (next : List (List Cell)), s = pre ++ suf → next.length + suf.length * 6 ≤ 800000000 →
    Ev (fun k => spec_l07All.l1 k 1 N now x6 ((suf.flatMap fun c => (freeOf s (hexC c)).map fun d => normalL (insC d s)).foldl addL next) (wrap64 (i + 1))) r → Ev (fun k => spec_l07All.l2 k 1 N now x6 next i (pre.length : Int)) r
  | [], pre, next, hx, hl, hc => by
    refine Ev.succ ?_
    rw [List.append_nil] at hx
    subst hx
    simp only [spec_l07All.l2, hrd]
    exact Ev.pos hi0 (Ev.pos hi1 (Ev.neg (by omega) (by simpa using hc)))
  | c :: suf, pre, next, hx, hl, hc => by
    refine Ev.succ ?_
    have hsm : small s := by unfold small; omega
    simp only [List.length_cons] at hl
    have hcs : c ∈ s := by rw [hx]; simp
    have hc6 := hexLatt.cnt c
    have hb := h.box c hcs
    simp only [spec_l07All.l2, hrd]
    refine Ev.pos hi0 (Ev.pos hi1 ?_)
    simp only [pre_lt hx, pre_0, if_true, at_pre hx]
    refine Ev.bind0 (aroundH (c := c) (by omega) (h.p c hcs)) ?_
    refine specAll_3H N x6 i (pre.length : Int) now s hs hi0 hi1 hrd (hexC c) (by omega) (hexC c) [] next rfl (by omega) ?_
    rw [pre_w hx hsm]
    have hfl := foldAdd_len ((freeOf s (hexC c)).map fun d => normalL (insC d s)) next
    rw [List.length_map] at hfl
    have hfr := freeOf_len s (hexC c)
    have hi := specAll_2H N x6 i now s h hm hs hi0 hi1 hrd suf (pre ++ [c]) (((freeOf s (hexC c)).map fun d => normalL (insC d s)).foldl addL next) (by rw [hx]; simp) (by omega) (by simpa using hc)
    simp only [List.length_append, List.length_singleton, Int.natCast_add] at hi
    exact hi
theorem specAll_1H {m : Int} {n : Nat} (N x6 : Int) (now : List (List Cell)) (h : ∀ s ∈ now, Good (fun _ => True) m n s) (hm : 0 ≤ m ∧ m ≤ 80) (hn : n ≤ 6) (hnl : now.length ≤ 20000000) {r : List (List Cell)} : ∀ (suf pre : List (List Cell)) (next : List (List Cell)), now = pre ++ suf → next.length + suf.length * 36 ≤ 720000000 →
    Ev (fun k => spec_l07All.l0 k 1 N ((suf.flatMap (moreOf hexC normalL)).foldl addL next) (wrap64 (x6 + 1))) r → Ev (fun k => spec_l07All.l1 k 1 N now x6 next (pre.length : Int)) r
  | [], pre, next, hx, hl, hc => by
    refine Ev.succ ?_
    rw [List.append_nil] at hx
    subst hx
    simp only [spec_l07All.l1]
    exact Ev.neg (by omega) (by simpa using hc)
  | s :: suf, pre, next, hx, hl, hc => by
    refine Ev.succ ?_
    have hsm : small now := by unfold small; omega
    simp only [List.length_cons] at hl
    have hs : s ∈ now := by rw [hx]; simp
    have hg := h s hs
    have hgl := hg.len
    have hp := pre_len hx
    simp only [spec_l07All.l1, pre_lt hx, if_true]
    refine specAll_2H N x6 (pre.length : Int) now s hg hm (by omega) (by omega) (by omega) (at_preL2 hx) s [] next rfl (by omega) ?_
    rw [pre_w hx hsm]
    have hml := moreOf_len hexLatt s
    have hfl := foldAdd_len (moreOf hexC normalL s) next
    have hi := specAll_1H N x6 now h hm hn hnl suf (pre ++ [s]) ((moreOf hexC normalL s).foldl addL next) (by rw [hx]; simp) (by omega) (by simpa using hc)
    simp only [List.length_append, List.length_singleton, Int.natCast_add] at hi
    exact hi
theorem specAll_qH (N : Nat) (hN : N ≤ 6) : ∀ (q i : Nat) (m : Int) (n : Nat) (now : List (List Cell)), i + q = N → (∀ s ∈ now, Good (fun _ => True) m n s) → 0 ≤ m → m + q * 1 ≤ 80 → n + q ≤ 6 → now.length * 36 ^ q ≤ 200000000 →
    Ev (fun k => spec_l07All.l0 k 1 (N : Int) now (i : Int)) (growS hexC normalL q now)
  | 0, i, m, n, now, hi, h, h0, h1, h2, h4 => by
    refine Ev.succ ?_
    simp only [spec_l07All.l0]
    exact Ev.neg (by omega) (Ev.now _)
  | q + 1, i, m, n, now, hi, h, h0, h1, h2, h4 => by
    have e36 : 36 ^ (q + 1) = 36 ^ q * 36 := Nat.pow_succ ..
    have e1 : 0 < 36 ^ q := Nat.pow_pos (by omega)
    have hnl : now.length * 36 ≤ 200000000 := Nat.le_trans (Nat.mul_le_mul_left _ (by rw [e36]; omega)) h4
    have ew : wrap64 ((i : Int) + 1) = ((i + 1 : Nat) : Int) := by rw [w64 (by omega) (by omega)]; omega
    have hg := good_next hexLatt h (by omega : 0 ≤ m ∧ m ≤ 80)
    have hnx : (nextS hexC normalL now).length ≤ now.length * 36 := Nat.le_trans (nextS_len hexLatt (n := n) fun s hs => (h s hs).len) (Nat.mul_le_mul_left _ (by omega))
    have hb : (nextS hexC normalL now).length * 36 ^ q ≤ 200000000 := by
      refine Nat.le_trans (Nat.mul_le_mul_right _ hnx) ?_
      rw [Nat.mul_assoc, Nat.mul_comm 36, ← e36]
      exact h4
    refine Ev.succ ?_
    simp only [spec_l07All.l0]
    refine Ev.pos (by omega) (specAll_1H (N : Int) (i : Int) now h (by omega) (by omega) (by omega) now [] [] rfl (by simp; omega) ?_)
    rw [ew]
    exact specAll_qH N hN q (i + 1) (m + 1) (n + 1) _ (by omega) hg (by omega) (by omega) (by omega) hb
def tiny (p : Int × Int) : Prop := -200 ≤ p.1 ∧ p.1 ≤ 200 ∧ -200 ≤ p.2 ∧ p.2 ≤ 200
def rotV : Nat → Int × Int → Int × Int
  | 0, p => p
  | 1, p => (-p.2, p.1 + p.2)
  | 2, p => (-(p.1 + p.2), p.1)
  | 3, p => (-p.1, -p.2)
  | 4, p => (p.2, -(p.1 + p.2))
  | _, p => (p.1 + p.2, -p.1)
theorem rot_val {k : Nat} (hk : k < 6) {p : Int × Int} (h : tiny p) : rot6 k p = rotV k p := by
  obtain ⟨x, y⟩ := p
  unfold tiny at h
  simp only at h
  have w (n : Int) (h0 : -5000 ≤ n) (h1 : n ≤ 5000) : wrap64 n = n := w64 (by omega) (by omega)
  have step : ∀ (n : Nat) (a b : Int), -2000 ≤ a → a ≤ 2000 → -2000 ≤ b → b ≤ 2000 → rot6 (n + 1) (a, b) = rot6 n (-b, a + b) := fun n a b h1 h2 h3 h4 => by
    rw [rot6]
    simp only
    rw [w (-b) (by omega) (by omega), w (a + b) (by omega) (by omega)]
  have e : k = 0 ∨ k = 1 ∨ k = 2 ∨ k = 3 ∨ k = 4 ∨ k = 5 := by omega
  rcases e with rfl | rfl | rfl | rfl | rfl | rfl
  · rfl
  · rw [step 0 x y (by omega) (by omega) (by omega) (by omega)]; rfl
  · rw [step 1 x y (by omega) (by omega) (by omega) (by omega), step 0 _ _ (by omega) (by omega) (by omega) (by omega)]
    show (-(x + y), -y + (x + y)) = (-(x + y), x)
    congr 1; omega
  · rw [step 2 x y (by omega) (by omega) (by omega) (by omega), step 1 _ _ (by omega) (by omega) (by omega) (by omega), step 0 _ _ (by omega) (by omega) (by omega) (by omega)]
    show (-(-y + (x + y)), -(x + y) + (-y + (x + y))) = (-x, -y)
    congr 1 <;> omega
  · rw [step 3 x y (by omega) (by omega) (by omega) (by omega), step 2 _ _ (by omega) (by omega) (by omega) (by omega), step 1 _ _ (by omega) (by omega) (by omega) (by omega), step 0 _ _ (by omega) (by omega) (by omega) (by omega)]
    show (-(-(x + y) + (-y + (x + y))), -(-y + (x + y)) + (-(x + y) + (-y + (x + y)))) = (y, -(x + y))
    congr 1 <;> omega
  · rw [step 4 x y (by omega) (by omega) (by omega) (by omega), step 3 _ _ (by omega) (by omega) (by omega) (by omega), step 2 _ _ (by omega) (by omega) (by omega) (by omega), step 1 _ _ (by omega) (by omega) (by omega) (by omega), step 0 _ _ (by omega) (by omega) (by omega) (by omega)]
    show (-(-(-y + (x + y)) + (-(x + y) + (-y + (x + y)))), -(-(x + y) + (-y + (x + y))) + (-(-y + (x + y)) + (-(x + y) + (-y + (x + y))))) = (x + y, -x)
    congr 1 <;> omega
def near2 (m : Int) (p q : Int × Int) : Prop := (p.1 - q.1 ≤ m ∧ q.1 - p.1 ≤ m) ∧ (p.2 - q.2 ≤ m ∧ q.2 - p.2 ≤ m) ∧ ((p.1 + p.2) - (q.1 + q.2) ≤ m ∧ (q.1 + q.2) - (p.1 + p.2) ≤ m)
theorem rotV_ok {k : Nat} (hk : k < 6) {p q : Int × Int} {m : Int} : (rotV k p = rotV k q → p = q) ∧ (near2 m p q → near2 m (rotV k p) (rotV k q)) := by
  obtain ⟨x, y⟩ := p
  obtain ⟨u, v⟩ := q
  have e : k = 0 ∨ k = 1 ∨ k = 2 ∨ k = 3 ∨ k = 4 ∨ k = 5 := by omega
  rcases e with rfl | rfl | rfl | rfl | rfl | rfl <;> (simp only [rotV, near2, Prod.mk.injEq]; omega)
theorem rotV_bd {k : Nat} (hk : k < 6) {p : Int × Int} (h : tiny p) : (-400 ≤ (rotV k p).1 ∧ (rotV k p).1 ≤ 400) ∧ (-400 ≤ (rotV k p).2 ∧ (rotV k p).2 ≤ 400) := by
  obtain ⟨x, y⟩ := p
  unfold tiny at h
  have e : k = 0 ∨ k = 1 ∨ k = 2 ∨ k = 3 ∨ k = 4 ∨ k = 5 := by omega
  rcases e with rfl | rfl | rfl | rfl | rfl | rfl <;> (simp only [rotV] at *; omega)
def turnV (t : Int) (c : Cell) : Int × Int := rotV (t % 6).toNat (if t ≥ 6 then (c.f1, c.f0) else (c.f0, c.f1))
theorem latC_val {t : Int} {c : Cell} (h : tiny (c.f0, c.f1)) : latC c t = turnV t c := by
  unfold latC turnV
  refine rot_val (by omega) ?_
  unfold tiny at *
  split <;> simp only at * <;> omega
theorem turnV_ok {t : Int} {c d : Cell} {m : Int} : (turnV t c = turnV t d → c = d) ∧ (near2 m (c.f0, c.f1) (d.f0, d.f1) → near2 m (turnV t c) (turnV t d)) := by
  unfold turnV
  have h := rotV_ok (k := (t % 6).toNat) (by omega) (p := if t ≥ 6 then (c.f1, c.f0) else (c.f0, c.f1)) (q := if t ≥ 6 then (d.f1, d.f0) else (d.f0, d.f1)) (m := m)
  refine ⟨fun e => ?_, fun hn => h.2 ?_⟩
  · have e := h.1 e
    obtain ⟨c0, c1⟩ := c
    obtain ⟨d0, d1⟩ := d
    simp only [S43.mk.injEq]
    split at e <;> simp only [Prod.mk.injEq] at e <;> omega
  · unfold near2 at *
    split <;> simp only at * <;> omega
theorem sortC_lt {l : List Cell} (h : l.Nodup) : (sortC l).Pairwise ltC := by
  have h1 := sortC_sorted l
  have h2 : (sortC l).Nodup := (sortC_perm l).nodup_iff.2 h
  have := h1.and h2
  refine this.imp fun {a b} hab => ?_
  obtain ⟨h3, h4⟩ := hab
  obtain ⟨a0, a1⟩ := a
  obtain ⟨b0, b1⟩ := b
  unfold ltC at *
  simp only [ne_eq, S43.mk.injEq] at *
  omega
theorem lat_pre {P Q : Cell → Prop} {m : Int} {n : Nat} {s : List Cell} (h : Good P m n s) (hm : 0 ≤ m ∧ m ≤ 80) (t : Int) (hp : ∀ c ∈ s, P c → Q (latD t c)) : Pre Q m n (latL s t) := by
  have hv : ∀ c ∈ s, tiny (c.f0, c.f1) := fun c hc => by
    have := h.box c hc
    unfold tiny
    simp only
    omega
  have hd : ∀ c ∈ s, latD t c = ⟨(turnV t c).1, (turnV t c).2⟩ := fun c hc => by
    unfold latD
    rw [latC_val (hv c hc)]
  unfold latL
  have hmap : s.map (latD t) = s.map fun c => ⟨(turnV t c).1, (turnV t c).2⟩ := List.map_congr_left hd
  refine ⟨by rw [sortC_len, List.length_map, h.len], h.pos, sortC_lt ?_, fun c hc => ?_, fun c hc d hd' => ?_, fun c hc => ?_⟩
  · rw [hmap]
    show List.Pairwise _ _
    rw [List.pairwise_map]
    refine h.lt.imp fun {a b} hab e => ?_
    have e2 : turnV t a = turnV t b := by
      simp only [S43.mk.injEq] at e
      exact Prod.ext e.1 e.2
    have := (turnV_ok (m := 0)).1 e2
    subst this
    unfold ltC at hab
    omega
  · rw [sortC_mem] at hc
    obtain ⟨e, he, rfl⟩ := List.mem_map.1 hc
    rw [hd e he]
    have hb := rotV_bd (k := (t % 6).toNat) (by omega) (p := if t ≥ 6 then (e.f1, e.f0) else (e.f0, e.f1)) (by
      have := hv e he
      unfold tiny at *
      split <;> simp only at * <;> omega)
    unfold turnV
    simp only
    omega
  · rw [sortC_mem] at hc hd'
    obtain ⟨e, he, rfl⟩ := List.mem_map.1 hc
    obtain ⟨f, hf, rfl⟩ := List.mem_map.1 hd'
    rw [hd e he, hd f hf]
    have h1 := h.sp e he f hf
    have h2 := h.sp f hf e he
    have := (turnV_ok (t := t) (c := e) (d := f) (m := m)).2 (by unfold near2; simp only; omega)
    unfold near2 at this
    simp only
    omega
  · rw [sortC_mem] at hc
    obtain ⟨e, he, rfl⟩ := List.mem_map.1 hc
    exact hp e he (h.p e he)
theorem good_shape {P : Cell → Prop} {m : Int} {n : Nat} {s : List Cell} (h : Good P m n s) (hm : 0 ≤ m ∧ m ≤ 80) (hn : n ≤ 40) : shapeB s = true := by
  have hp := h.pos
  have hl := h.len
  refine shapeB_iff.2 ⟨fun c hc => ?_, h.lt, by omega, by omega⟩
  have := h.box c hc
  unfold okC ok1
  omega
theorem growS_lenH : ∀ (q : Nat) (m : Int) (n : Nat) (l : List (List Cell)), (∀ s ∈ l, Good (fun _ => True) m n s) → 0 ≤ m → m + q * 1 ≤ 80 → n + q ≤ 6 → (growS hexC normalL q l).length ≤ l.length * 36 ^ q
  | 0, _, _, _, _, _, _, _ => by simp [growS]
  | q + 1, m, n, l, h, h0, h1, h2 => by
    have e36 : 36 ^ (q + 1) = 36 ^ q * 36 := Nat.pow_succ ..
    have hnx : (nextS hexC normalL l).length ≤ l.length * 36 := Nat.le_trans (nextS_len hexLatt (n := n) fun s hs => (h s hs).len) (Nat.mul_le_mul_left _ (by omega))
    have := growS_lenH q (m + 1) (n + 1) _ (good_next hexLatt h (by omega)) (by omega) (by omega) (by omega)
    rw [growS]
    refine Nat.le_trans this (Nat.le_trans (Nat.mul_le_mul_right _ hnx) ?_)
    rw [Nat.mul_assoc, Nat.mul_comm 36, ← e36]
    exact Nat.le_refl _
theorem formOkH {m : Int} {n : Nat} {s : List Cell} (h : Good (fun _ => True) m n s) (hm : 0 ≤ m ∧ m ≤ 80) (hn : n ≤ 6) : ∀ (q : Nat) (t : Int), 0 ≤ t → hexGOk s q t = true
  | 0, _, _ => rfl
  | q + 1, t, ht => by
    unfold hexGOk
    have hp : Pre (fun _ => True) m n (latL s t) := lat_pre h hm t (fun _ _ _ => trivial)
    have hg : Good (fun _ => True) m n (hexG s t) := hexLatt.norm _ _ _ hm.1 (by omega) hp
    rw [good_shape hg hm (by omega), formOkH h hm hn q (t + 1) (by omega)]
    rfl
def keepH (l : List (List Cell)) : List (List Cell) := l.filter fun s => decide (hexGMin s = s)
theorem rot_singH (s : List Cell) : (if hexGMin s = s then [s] else []) = keepH [s] := by
  unfold keepH
  by_cases h : hexGMin s = s <;> simp [h]
theorem specFree_evH {m : Int} {n : Nat} (l : List (List Cell)) (h : ∀ s ∈ l, Good (fun _ => True) m n s) (hm : 0 ≤ m ∧ m ≤ 80) (hn : n ≤ 6) (hl : l.length ≤ 1000000000) : Ev (fun k => spec_l07Free.f k 1 l) (keepH l) := by
  have hsm : small l := by unfold small; omega
  unfold spec_l07Free.f
  refine loop_list l (fun k i (acc : List (List Cell)) => spec_l07Free.l0 k 1 l acc i) (fun _ _ _ => keepH l) (fun pre acc => acc = keepH pre) ?_ ?_ [] rfl
  · rintro acc rfl
    simp only [spec_l07Free.l0, len_lt, if_false]
    exact Ev.now _
  · rintro pre s suf acc hx rfl ih
    have hp := pre_len hx
    have hg := h s (by rw [hx]; simp)
    have hgl := hg.len
    have hgp := hg.pos
    have hk : (keepH pre).length ≤ pre.length := List.length_filter_le _ _
    have hadd : ∀ x, keepH (pre ++ [x]) = keepH pre ++ (if hexGMin x = x then [x] else []) := fun x => by
      rw [rot_singH]; unfold keepH; rw [List.filter_append]
    simp only [spec_l07Free.l0, pre_lt hx, pre_0, if_true, at_preL2 hx, pre_w hx hsm]
    have hF : Ev (fun k => spec_l07Forms.f k 1 s) (hexGS s 12 0, hexGOk s 12 0) := by
      unfold spec_l07Forms.f
      exact Ev.of_eq (specForms1_l s (by omega) (by omega) 12 0 [] true (by omega) (by omega) (by simp)) (by simp)
    refine Ev.bind hF ?_
    have e12 : hexGS s 12 0 = hexG s 0 :: hexGS s 11 1 := rfl
    have hmem : ∀ x ∈ hexG s 0 :: hexGS s 11 1, small x := by
      intro x hx
      rw [← e12] at hx
      have := hexGS_mem s 12 0 x hx
      unfold small; omega
    simp only [e12]
    refine Ev.bind (specLeastS_ev _ _ (by unfold small; rw [List.length_cons, hexGS_len]; omega) hmem) ?_
    have hml := hexGMin_len s
    refine Ev.bind (specCompare_ev (hexGMin s) s (by unfold small; omega)) ?_
    by_cases e : hexGMin s = s
    · refine Ev.pos ((cmpS_zero _ _).2 e) (Ev.pos (by omega) (ih _ ?_))
      rw [hadd, if_pos e]
    · refine Ev.neg (fun h => e ((cmpS_zero _ _).1 h)) (ih _ ?_)
      rw [hadd, if_neg e, List.append_nil]
theorem implOwn_evH {m : Int} {n : Nat} (l : List (List Cell)) (h : ∀ s ∈ l, Good (fun _ => True) m n s) (hm : 0 ≤ m ∧ m ≤ 80) (hn : n ≤ 6) (hl : l.length ≤ 1000000000) (hA : apartB (keepH l) = true) : Ev (fun k => impl_ownLeast__impl_hexForm.f k l) (keepH l) := by
  have hsm : small l := by unfold small; omega
  unfold impl_ownLeast__impl_hexForm.f
  refine Ev.bind (a := keepH l) ?_ (Ev.pos hA (Ev.now _))
  refine loop_list l (fun k i (acc : List (List Cell)) => impl_ownLeast__impl_hexForm.l0 k acc l (l.length : Int) i) (fun _ _ _ => keepH l) (fun pre acc => acc = keepH pre) ?_ ?_ [] rfl
  · rintro acc rfl
    simp only [impl_ownLeast__impl_hexForm.l0, len_lt, if_false]
    exact Ev.now _
  · rintro pre s suf acc hx rfl ih
    have hp := pre_len hx
    have hg := h s (by rw [hx]; simp)
    have hgl := hg.len
    have hgp := hg.pos
    have hk : (keepH pre).length ≤ pre.length := List.length_filter_le _ _
    have hadd : ∀ x, keepH (pre ++ [x]) = keepH pre ++ (if hexGMin x = x then [x] else []) := fun x => by
      rw [rot_singH]; unfold keepH; rw [List.filter_append]
    simp only [impl_ownLeast__impl_hexForm.l0, pre_lt hx, pre_0, if_true, at_preL2 hx, pre_w hx hsm]
    have hL : Ev (fun k => impl_leastForm__impl_hexForm.f k s) (hexGMin s, true) := by
      unfold impl_leastForm__impl_hexForm.f
      refine Ev.of_eq (implLeast1_l s (by omega) (by omega) 12 0 [] (by omega) (by omega) (by simp) (fun x hx => by simp at hx)) ?_
      rw [if_pos (formOkH hg hm hn 12 0 (by omega))]
      rfl
    have hml := hexGMin_len s
    refine Ev.bind hL (Ev.pos rfl (Ev.bind (equalC_ev (hexGMin s) s (by unfold small; omega)) ?_))
    by_cases e : hexGMin s = s
    · refine Ev.pos (by simpa using e) (Ev.pos (by omega) (ih _ ?_))
      rw [hadd, if_pos e]
    · refine Ev.neg (by simpa using e) (ih _ ?_)
      rw [hadd, if_neg e, List.append_nil]
def startH : List (List Cell) := [[⟨0, 0⟩]]
theorem start_goodH : ∀ s ∈ startH, Good (fun _ => True) 0 1 s := by
  intro s hs
  simp only [startH, List.mem_cons, List.not_mem_nil, or_false] at hs
  rcases hs with rfl <;> exact ⟨rfl, by omega, by simp, by simp, by simp, by intro c _; trivial⟩
theorem specAll_evH (n : Nat) (h1 : 1 ≤ n) (h2 : n ≤ 5) : Ev (fun k => spec_l07All.f k 1 (n : Int)) (growS hexC normalL (n - 1) startH) := by
  unfold spec_l07All.f
  refine Ev.neg (by omega) (Ev.succ ?_)
  simp only [spec_l07All.j0]
  have h36 : 36 ^ (n - 1) ≤ 36 ^ (5 - 1) := Nat.pow_le_pow_right (by omega) (by omega)
  exact specAll_qH n (by omega) (n - 1) 1 0 1 startH (by omega) start_goodH (by omega) (by omega) (by omega) (Nat.le_trans (Nat.mul_le_mul_left _ h36) (by decide))
theorem implAll_evH (n : Nat) (h1 : 1 ≤ n) (h2 : n ≤ 5) : Ev (fun k => impl_allHexes.f k (n : Int)) (growS hexC normalL (n - 1) startH) := by
  have h36 : 36 ^ (n - 1) ≤ 36 ^ (5 - 1) := Nat.pow_le_pow_right (by omega) (by omega)
  have e : wrap64 ((n : Int) - 1) = ((n - 1 : Nat) : Int) := by rw [w64 (by omega) (by omega)]; omega
  rw [← grow_eq hexLatt (n - 1) 0 1 startH start_goodH (by omega) (by omega)]
  unfold impl_allHexes.f
  refine Ev.bind (a := growI hexC normalL (n - 1) startH) ?_ (Ev.now _)
  unfold impl_allGrown__impl_hexAround_impl_normal.f
  rw [e]
  exact implAll_qH (n - 1) (by omega) (n - 1) 0 0 1 startH (by omega) start_goodH (by omega) (by omega) (by omega) (by decide) (Nat.le_trans (Nat.mul_le_mul_left _ h36) (by decide))
theorem all_goodH (n : Nat) (h1 : 1 ≤ n) (h2 : n ≤ 5) : ∀ x ∈ growS hexC normalL (n - 1) startH, Good (fun _ => True) (0 + ((n - 1 : Nat) : Int) * 1) (1 + (n - 1)) x :=
  grow_good hexLatt (n - 1) 0 1 startH start_goodH (by omega) (by omega)
theorem all_lenH (n : Nat) (h1 : 1 ≤ n) (h2 : n ≤ 5) : (growS hexC normalL (n - 1) startH).length ≤ 200000000 := by
  have h36 : 36 ^ (n - 1) ≤ 36 ^ (5 - 1) := Nat.pow_le_pow_right (by omega) (by omega)
  refine Nat.le_trans (growS_lenH (n - 1) 0 1 startH start_goodH (by omega) (by omega) (by omega)) (Nat.le_trans (Nat.mul_le_mul_left _ h36) (by decide))
theorem grow_ascH : ∀ (q : Nat) (l : List (List Cell)), asc l → asc (growS hexC normalL q l)
  | 0, _, h => h
  | q + 1, l, _ => grow_ascH q _ (foldAdd_asc _ _ List.Pairwise.nil)
theorem start_ascH : asc startH := by unfold asc startH; decide
theorem keep_apartH (n : Nat) (h1 : 1 ≤ n) (h2 : n ≤ 5) : apartB (keepH (growS hexC normalL (n - 1) startH)) = true := by
  have ha : asc (keepH (growS hexC normalL (n - 1) startH)) := List.Pairwise.filter _ (grow_ascH (n - 1) _ start_ascH)
  have hl : ∀ x ∈ keepH (growS hexC normalL (n - 1) startH), x.length = 1 + (n - 1) := fun x hx => (all_goodH n h1 h2 x (List.mem_filter.1 hx).1).len
  unfold apartB
  rw [Bool.and_eq_true, List.all_eq_true]
  refine ⟨decide_eq_true (ha.imp fun h e => by rw [(cmpS_zero _ _).2 e] at h; omega), fun x hx => ?_⟩
  have hx' := hl x hx
  have hh : ((keepH (growS hexC normalL (n - 1) startH)).headD []).length = 1 + (n - 1) := by
    cases e : keepH (growS hexC normalL (n - 1) startH) with
    | nil => rw [e] at hx; simp at hx
    | cons a r => exact hl a (by rw [e]; simp)
  rw [hh, Bool.and_eq_true]
  exact ⟨decide_eq_true hx', decide_eq_true (by omega)⟩
theorem specFreeAll_evH (n : Nat) (h1 : 1 ≤ n) (h2 : n ≤ 5) : Ev (fun k => spec_l07Free.f k 1 (growS hexC normalL (n - 1) startH)) (keepH (growS hexC normalL (n - 1) startH)) :=
  specFree_evH _ (all_goodH n h1 h2) (by omega) (by omega) (by have := all_lenH n h1 h2; omega)
theorem implOwnAll_evH (n : Nat) (h1 : 1 ≤ n) (h2 : n ≤ 5) : Ev (fun k => impl_ownLeast__impl_hexForm.f k (growS hexC normalL (n - 1) startH)) (keepH (growS hexC normalL (n - 1) startH)) :=
  implOwn_evH _ (all_goodH n h1 h2) (by omega) (by omega) (by have := all_lenH n h1 h2; omega) (keep_apartH n h1 h2)
def markedCF (m : Int) (n : Nat) : List Cell := (List.range n).map fun (i : Nat) => ⟨m + 2 * (i : Int), m + 1 + 2 * (i : Int)⟩
theorem markedCF_len (m : Int) (n : Nat) : (markedCF m n).length = n := by simp [markedCF]
theorem markedCF_get (m : Int) (n i : Nat) (h : i < n) : (markedCF m n)[i]? = some ⟨m + 2 * (i : Int), m + 1 + 2 * (i : Int)⟩ := by
  simp [markedCF, h]
theorem markCellS_from (a : List Cell) (m : Int) (h0 : 0 ≤ m) (h1 : m ≤ 4611686018427387904) (ha : fits a) : Ev (fun k => laws_markCellS.f k a m) (m + 2 * (a.length : Int), markedCF m a.length) := by
  unfold laws_markCellS.f
  have hs := ha.small
  unfold fits at ha
  have := loop_list a (fun k i (s : List Cell × Int) => laws_markCellS.l0 k s.1 s.2 i) (fun pre _ s => (m + 2 * (a.length : Int), s.1.take pre.length ++ (markedCF m a.length).drop pre.length))
    (fun pre s => s.1.length = a.length ∧ s.2 = m + 2 * (pre.length : Int)) ?_ ?_ (a, m) ⟨rfl, by simp⟩
  · simpa using this
  · rintro ⟨l, n⟩ ⟨hl, hn⟩
    simp only at hl hn
    simp only [laws_markCellS.l0, hl, len_lt, if_false]
    refine Ev.of_eq (Ev.now _) ?_
    rw [List.take_of_length_le (by omega), List.drop_of_length_le (by rw [markedCF_len]; exact Nat.le_refl _), List.append_nil, hn]
  · rintro pre c suf ⟨l, n⟩ hx ⟨hl, hn⟩ ih
    have hp := pre_len hx
    simp only at hl hn
    subst hn
    have hlt : ((pre.length : Int) < (l.length : Int)) = True := by rw [hl]; exact pre_lt hx
    have e1 : wrap64 (m + 2 * (pre.length : Int) + 1) = m + 1 + 2 * (pre.length : Int) := by rw [w64 (by omega) (by omega)]; omega
    have e2 : wrap64 (m + 1 + 2 * (pre.length : Int) + 1) = m + 2 * ((pre.length : Int) + 1) := by rw [w64 (by omega) (by omega)]; omega
    have e3 : rd_T43 (l.set pre.length (⟨m + 2 * (pre.length : Int), (rd_T43 l (pre.length : Int)).f1⟩ : Cell)) (pre.length : Int) = ⟨m + 2 * (pre.length : Int), (rd_T43 l (pre.length : Int)).f1⟩ := by
      simp [rd_T43, List.getD, hl, hp]
    simp only [laws_markCellS.l0, hlt, pre_0, if_true, Option.bind_some, Int.toNat_natCast, e3, List.set_set, e1, e2, pre_w hx hs]
    refine Ev.of_eq (ih (l.set pre.length ⟨m + 2 * (pre.length : Int), m + 1 + 2 * (pre.length : Int)⟩, m + 2 * ((pre.length : Int) + 1)) ⟨by simpa using hl, by simp⟩) ?_
    refine Prod.ext rfl ?_
    simp only [List.length_append, List.length_singleton]
    rw [List.take_add_one, List.getElem?_set_self (by omega), List.take_set_of_le (Nat.le_refl _), List.drop_eq_getElem_cons (i := pre.length) (by rw [markedCF_len]; omega)]
    have := markedCF_get m a.length pre.length hp
    rw [List.getElem?_eq_getElem (by rw [markedCF_len]; omega)] at this
    simp [Option.some.inj this]
theorem heldCellS_fromC (m : Int) (n : Nat) (h0 : 0 ≤ m) (h1 : m ≤ 4611686018427387904) (hn : n ≤ 1048576) : Ev (fun k => laws_heldCellS.f k (markedCF m n) m) (m + 2 * (n : Int)) := by
  unfold laws_heldCellS.f
  have hs : small (markedCF m n) := by unfold small; rw [markedCF_len]; omega
  refine loop_list (markedCF m n) (fun k i (s : Int) => laws_heldCellS.l0 k (markedCF m n) s i) (fun _ _ _ => m + 2 * (n : Int)) (fun pre s => s = m + 2 * (pre.length : Int)) ?_ ?_ m (by simp)
  · rintro s rfl
    simp only [laws_heldCellS.l0, len_lt, if_false]
    rw [markedCF_len]
    exact Ev.now _
  · rintro pre c suf s hx rfl ih
    have hp := pre_len hx
    rw [markedCF_len] at hp
    have hc := pre_get hx
    rw [markedCF_get m n _ hp] at hc
    have hc := Option.some.inj hc
    have e1 : wrap64 (m + 2 * (pre.length : Int) + 1) = m + 1 + 2 * (pre.length : Int) := by rw [w64 (by omega) (by omega)]; omega
    have e2 : wrap64 (m + 1 + 2 * (pre.length : Int) + 1) = m + 2 * ((pre.length : Int) + 1) := by rw [w64 (by omega) (by omega)]; omega
    simp only [laws_heldCellS.l0, pre_lt hx, pre_0, if_true, at_pre hx, ← hc, e1, e2, pre_w hx hs]
    exact ih _ (by simp)
def totSS : List (List Cell) → Nat
  | [] => 0
  | x :: r => x.length + totSS r
def mkSS : List (List Cell) → Int → List (List Cell)
  | [], _ => []
  | x :: r, m => markedCF m x.length :: mkSS r (m + 2 * (x.length : Int))
theorem mkSS_len : ∀ (L : List (List Cell)) (m : Int), (mkSS L m).length = L.length
  | [], _ => rfl
  | x :: r, m => by unfold mkSS; rw [List.length_cons, List.length_cons, mkSS_len r]
def fitsSS (L : List (List Cell)) : Prop := L.length ≤ 1000000000 ∧ (∀ x ∈ L, fits x) ∧ totSS L ≤ 1000000000000
theorem markSS_l : ∀ (suf pre : List (List Cell)) (m : Int), (pre ++ suf).length ≤ 1000000000 → (∀ x ∈ suf, fits x) → 0 ≤ m → m + 2 * (totSS suf : Int) ≤ 4611686018427387904 →
    Ev (fun k => laws_markCellSS.l0 k (pre ++ suf) m (pre.length : Int)) (m + 2 * (totSS suf : Int), pre ++ mkSS suf m)
  | [], pre, m, hl, hf, h0, h1 => by
    refine Ev.succ ?_
    simp only [laws_markCellSS.l0]
    refine Ev.neg (by simp) (Ev.of_eq (Ev.now _) ?_)
    simp [totSS, mkSS]
  | x :: suf, pre, m, hl, hf, h0, h1 => by
    refine Ev.succ ?_
    have hl' := hl
    simp only [List.length_append, List.length_cons] at hl'
    simp only [totSS] at h1 ⊢
    have hg : (pre ++ x :: suf).getD (pre.length : Int).toNat [] = x := getD_at pre suf x _
    have hset (y : List Cell) : (pre ++ x :: suf).set (pre.length : Int).toNat y = (pre ++ [y]) ++ suf := by simp
    simp only [laws_markCellSS.l0, hg, hset]
    refine Ev.pos (by simp; omega) (Ev.pos (by omega) (Ev.bind (markCellS_from x m h0 (by omega) (hf x List.mem_cons_self)) ?_))
    have ew : wrap64 ((pre.length : Int) + 1) = ((pre ++ [markedCF m x.length]).length : Int) := by rw [w64 (by omega) (by omega)]; simp
    simp only [ew]
    refine Ev.of_eq (markSS_l suf (pre ++ [markedCF m x.length]) (m + 2 * (x.length : Int)) (by simp; omega) (fun y hy => hf y (List.mem_cons_of_mem _ hy)) (by omega) (by omega)) ?_
    refine Prod.ext ?_ ?_
    · simp only; omega
    · simp [mkSS]
theorem markSS_ev (L : List (List Cell)) (m : Int) (hf : fitsSS L) (h0 : 0 ≤ m) (h1 : m ≤ 1000000000000) : Ev (fun k => laws_markCellSS.f k L m) (m + 2 * (totSS L : Int), mkSS L m) := by
  have := hf.2.2
  exact markSS_l L [] m hf.1 hf.2.1 h0 (by omega)
theorem heldSS_l (X : List (List Cell)) (hX : X.length ≤ 1000000000) : ∀ (L pre : List (List Cell)) (m : Int), X = pre ++ mkSS L m → (∀ x ∈ L, fits x) → 0 ≤ m → m + 2 * (totSS L : Int) ≤ 4611686018427387904 →
    Ev (fun k => laws_heldCellSS.l0 k X m (pre.length : Int)) (m + 2 * (totSS L : Int))
  | [], pre, m, hx, hf, h0, h1 => by
    refine Ev.succ ?_
    have hp := congrArg List.length hx
    simp only [mkSS, List.length_append, List.length_nil] at hp
    simp only [laws_heldCellSS.l0]
    refine Ev.neg (by omega) (Ev.of_eq (Ev.now _) (by simp [totSS]))
  | x :: L, pre, m, hx, hf, h0, h1 => by
    refine Ev.succ ?_
    have hs : small X := by unfold small; omega
    have hx2 : X = pre ++ markedCF m x.length :: mkSS L (m + 2 * (x.length : Int)) := hx
    simp only [totSS] at h1 ⊢
    have hr : rd_L2 X (pre.length : Int) = markedCF m x.length := by rw [hx2]; exact getD_at _ _ _ _
    simp only [laws_heldCellSS.l0, pre_lt hx2, pre_0, if_true, hr, pre_w hx2 hs]
    refine Ev.bind (heldCellS_fromC m x.length h0 (by omega) (hf x List.mem_cons_self)) (Ev.neg (by omega) ?_)
    have ih := heldSS_l X hX L (pre ++ [markedCF m x.length]) (m + 2 * (x.length : Int)) (by rw [hx2]; simp) (fun y hy => hf y (List.mem_cons_of_mem _ hy)) (by omega) (by omega)
    simp only [List.length_append, List.length_singleton, Int.natCast_add] at ih
    refine Ev.of_eq ih ?_
    omega
theorem heldSS_ev (L : List (List Cell)) (m : Int) (hf : fitsSS L) (h0 : 0 ≤ m) (h1 : m ≤ 1000000000000) : Ev (fun k => laws_heldCellSS.f k (mkSS L m) m) (m + 2 * (totSS L : Int)) := by
  have := hf.2.2
  exact heldSS_l (mkSS L m) (by rw [mkSS_len]; exact hf.1) L [] m rfl hf.2.1 h0 (by omega)
theorem eqSS_ev (a : List (List Cell)) (hs : small a) (h : ∀ x ∈ a, small x) : Ev (fun k => laws_eqCellSS.f k a a) true := by
  unfold laws_eqCellSS.f
  refine Ev.pos rfl ?_
  refine loop_list a (fun k i (_ : Unit) => laws_eqCellSS.l0 k a a i) (fun _ _ _ => true) (fun _ _ => True) ?_ ?_ () trivial
  · intro _ _
    simp only [laws_eqCellSS.l0, len_lt, if_false]
    exact Ev.now _
  · intro pre c suf _ hx _ ih
    have hr : rd_L2 a (pre.length : Int) = c := by rw [hx]; exact getD_at pre suf c _
    simp only [laws_eqCellSS.l0, pre_lt hx, pre_0, if_true, hr, pre_w hx hs]
    exact Ev.bind (eqCellS_ev c (h c (by rw [hx]; simp))) (Ev.pos rfl (ih () trivial))
theorem totSS_le (m : Nat) : ∀ L : List (List Cell), (∀ x ∈ L, x.length ≤ m) → totSS L ≤ m * L.length
  | [], _ => Nat.zero_le _
  | x :: r, h => by
    have h1 := h x List.mem_cons_self
    have h2 := totSS_le m r fun y hy => h y (List.mem_cons_of_mem _ hy)
    rw [totSS, List.length_cons, Nat.mul_succ]
    omega
end Go.Proofs.Ytibbjiehblpmfaa.L
end
section
namespace Go.Proofs.Ytibbjiehblpmfaa.L
open Go.RowKit Go.Proofs.YtibbjiehblpmfaaW.PrintWords Go.Proofs.YtibbjiehblpmfaaW.PrintLast Go.Proofs.YtibbjiehblpmfaaW.PrintMore Go.Proofs.Ytibbjiehblpmfaa.F
set_option linter.unusedVariables false
def leastH (a : Int) : List (List Cell) × Int := if 1 ≤ a ∧ a ≤ 5 then (keepH (growS hexC normalL (a.toNat - 1) startH), 0) else ([], 2)
theorem inSH (a b c : Int) : spec_l01In.f a b c = some (decide (b ≤ a ∧ a ≤ c)) := by
  unfold spec_l01In.f
  by_cases h : a ≥ b
  · rw [if_pos h]
    congr 1
    simp
    omega
  · rw [if_neg h]
    congr 1
    simp
    omega
theorem withinSH (a b c : Int) : impl_within.f a b c = some (decide (b ≤ a ∧ a ≤ c)) := inSH a b c
theorem specShapes_evH (a : Int) : Ev (fun k => spec_HexShapes.f k a) (leastH a) := by
  unfold spec_HexShapes.f leastH
  refine Ev.bind0 (inSH a 1 5) ?_
  by_cases h : 1 ≤ a ∧ a ≤ 5
  · obtain ⟨n, rfl⟩ : ∃ n : Nat, a = (n : Int) := ⟨a.toNat, by omega⟩
    rw [if_pos h]
    refine Ev.pos (by simpa using h) (Ev.bind (specAll_evH n (by omega) (by omega)) (Ev.bind (specFreeAll_evH n (by omega) (by omega)) (Ev.now _)))
  · rw [if_neg h]
    exact Ev.neg (by simpa using h) (Ev.now _)
theorem implShapes_evH (a : Int) : Ev (fun k => impl_HexShapes.f k a) (leastH a) := by
  unfold impl_HexShapes.f leastH
  refine Ev.bind0 (withinSH a 1 5) ?_
  by_cases h : 1 ≤ a ∧ a ≤ 5
  · obtain ⟨n, rfl⟩ : ∃ n : Nat, a = (n : Int) := ⟨a.toNat, by omega⟩
    rw [if_pos h]
    refine Ev.pos (by simpa using h) (Ev.bind (implAll_evH n (by omega) (by omega)) (Ev.bind (implOwnAll_evH n (by omega) (by omega)) (Ev.now _)))
  · rw [if_neg h]
    exact Ev.neg (by simpa using h) (Ev.now _)
theorem least_memH {a : Int} : ∀ x ∈ (leastH a).1, x.length ≤ 6 := by
  unfold leastH
  split
  · rename_i h
    obtain ⟨n, rfl⟩ : ∃ n : Nat, a = (n : Int) := ⟨a.toNat, by omega⟩
    intro x hx
    have := (all_goodH n (by omega) (by omega) x (List.mem_filter.1 hx).1).len
    omega
  · intro x hx; simp at hx
theorem least_lenH (a : Int) : (leastH a).1.length ≤ 200000000 := by
  unfold leastH
  split
  · rename_i h
    obtain ⟨n, rfl⟩ : ∃ n : Nat, a = (n : Int) := ⟨a.toNat, by omega⟩
    exact Nat.le_trans (List.length_filter_le _ _) (all_lenH n (by omega) (by omega))
  · simp
end Go.Proofs.Ytibbjiehblpmfaa.L
namespace Go.Proofs.Ytibbjiehblpmfaa.Pure
open Go.RowKit Go.Proofs.YtibbjiehblpmfaaW.PrintWords Go.Proofs.Ytibbjiehblpmfaa.F Go.Proofs.Ytibbjiehblpmfaa.L
set_option linter.unusedVariables false
theorem FnExactHexShapes (a0 : Int) (hv : (Lit.int .i64 a0).wf = true) : ∃ k, laws_FnExactHexShapes.f k a0 = some true := by
  refine Ev.rounds ?_
  unfold laws_FnExactHexShapes.f
  have hR := least_memH (a := a0)
  have hL := least_lenH a0
  generalize hG : leastH a0 = G at hR hL
  have hLs : small G.1 := by unfold small; omega
  have hRs : ∀ x ∈ G.1, small x := fun x hx => by have := hR x hx; unfold small; omega
  have hT := totSS_le 6 _ hR
  have hF : fitsSS G.1 := ⟨by omega, fun x hx => Nat.le_trans (hR x hx) (by decide), by
    have := Nat.mul_le_mul_left 6 hL
    omega⟩
  have hS := specShapes_evH a0
  have hI := implShapes_evH a0
  rw [hG] at hS hI
  refine Ev.bind hS (Ev.bind hI (Ev.bind (eqSS_ev _ hLs hRs) (Ev.pos rfl ?_)))
  refine Ev.step (fun k => laws_FnExactHexShapes.j0.eq_2 _ _ _ _ _ _) (Ev.neg (by simp) ?_)
  refine Ev.bind (markSS_ev _ 1 hF (by decide) (by decide)) (Ev.bind (heldSS_ev _ 1 hF (by decide) (by decide)) (Ev.neg (by omega) (Ev.pos rfl ?_)))
  refine Ev.bind hI (Ev.bind (eqSS_ev _ hLs hRs) (Ev.pos rfl ?_))
  refine Ev.step (fun k => laws_FnExactHexShapes.j1.eq_2 _ _ _ _) (Ev.neg (by simp) ?_)
  exact Ev.bind (heldSS_ev _ 1 hF (by decide) (by decide)) (Ev.neg (by omega) (Ev.pos rfl (Ev.now _)))
end Go.Proofs.Ytibbjiehblpmfaa.Pure
end
