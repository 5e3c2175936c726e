/- The row of FnExactSolids, with what it needs: text 11 of 12. -/
import Derived.Test.YtlompfboheiliaaKSO9
set_option maxHeartbeats 8000000
set_option maxRecDepth 100000
section
namespace Go.Proofs.Ytlompfboheiliaa.L
open Go.RowKit Go.Proofs.YtlompfboheiliaaW.PrintWords Go.Proofs.YtlompfboheiliaaW.PrintLast Go.Proofs.YtlompfboheiliaaW.PrintMore Go.Proofs.Ytlompfboheiliaa.F
set_option linter.unusedVariables false
set_option linter.unusedSimpArgs false
theorem implLessQ_l (l : List Cube) (m : Int) (hm : m ≤ 1000) (hl : l.length ≤ 1048576) (hp : 0 < l.length) (ho : ∀ c ∈ l, okQ c) : ∀ (n : Nat) (t : Int) (b : List Cube), 0 ≤ t → t + (n : Int) = m → Ev (fun k => impl_leastSolid.l0 k l m b t) (lessQ l n t b)
  | 0, t, b, h0, h1 => by
    refine Ev.succ ?_
    simp only [impl_leastSolid.l0]
    exact Ev.neg (by omega) (Ev.now _)
  | n + 1, t, b, h0, h1 => by
    refine Ev.succ ?_
    simp only [impl_leastSolid.l0]
    have ew : wrap64 (t + 1) = t + 1 := w64 (by omega) (by omega)
    have hf : small (formQ l t) := by unfold small; rw [formQ_len]; omega
    refine Ev.pos (by omega) (Ev.bind (implFormQ_ev l t h0 (by omega) hl hp ho) (Ev.bind (implCompareQ_ev _ b hf) ?_))
    simp only [ew]
    unfold lessQ
    by_cases h : cmpSQ (formQ l t) b < 0
    · rw [if_pos h]; exact Ev.pos h (implLessQ_l l m hm hl hp ho n (t + 1) _ (by omega) (by omega))
    · rw [if_neg h]; exact Ev.neg h (implLessQ_l l m hm hl hp ho n (t + 1) _ (by omega) (by omega))
def turnsQ (b : Bool) : Nat := if b = true then 48 else 24
theorem implLeastQ_ev (l : List Cube) (b : Bool) (hl : l.length ≤ 1048576) (hp : 0 < l.length) (ho : ∀ c ∈ l, okQ c) : Ev (fun k => impl_leastSolid.f k l b) (leastForm l (turnsQ b)) := by
  unfold impl_leastSolid.f leastForm turnsQ
  refine Ev.of_eq (Ev.if_ (r := lessQ l 47 1 (formQ l 0)) (s := lessQ l 23 1 (formQ l 0)) (fun _ => ?_) (fun _ => ?_)) ?_
  · refine Ev.step (fun k => impl_leastSolid.j0.eq_2 _ _ _) ?_
    exact Ev.bind (implFormQ_ev l 0 (by omega) (by omega) hl hp ho) (implLessQ_l l 48 (by omega) hl hp ho 47 1 _ (by omega) (by omega))
  · refine Ev.step (fun k => impl_leastSolid.j0.eq_2 _ _ _) ?_
    exact Ev.bind (implFormQ_ev l 0 (by omega) (by omega) hl hp ho) (implLessQ_l l 24 (by omega) hl hp ho 23 1 _ (by omega) (by omega))
  · split <;> rfl
theorem ordL_eq : ∀ a b : List Cube, ordL a b = cmpLQ a b
  | [], _ => by simp [ordL, cmpLQ]
  | _ :: _, [] => by simp [ordL, cmpLQ]
  | a :: r, b :: s => by
    unfold ordL cmpLQ
    rw [cmpV_val, ordL_eq r s]
    by_cases h1 : ltQ a b
    · rw [if_pos h1, if_pos h1, if_neg (by omega)]
    · rw [if_neg h1, if_neg h1]
      by_cases h2 : ltQ b a
      · rw [if_pos h2, if_pos h2, if_neg (by omega)]
      · rw [if_neg h2, if_neg h2, if_pos rfl]
theorem ordS_eq (a b : List Cube) : ordS a b = cmpSQ a b := by unfold ordS cmpSQ; rw [ordL_eq]
theorem cmpZ_self (a : List Cube) : cmpSQ a a = 0 := (cmpSQ_zero a a).2 rfl
theorem cmpZ_anti (a b : List Cube) : cmpSQ b a = -cmpSQ a b := by rw [← ordS_eq, ← ordS_eq]; exact ordS_anti a b
theorem cmpZ_trans {a b c : List Cube} (h1 : cmpSQ a b ≤ 0) (h2 : cmpSQ b c ≤ 0) : cmpSQ a c ≤ 0 := by
  rw [← ordS_eq] at *
  exact ordS_trans h1 h2
theorem cmpZ_lt_trans {a b c : List Cube} (h1 : cmpSQ a b < 0) (h2 : cmpSQ b c < 0) : cmpSQ a c < 0 := by
  have h3 := cmpZ_trans (a := a) (b := b) (c := c) (by omega) (by omega)
  by_cases e : cmpSQ a c = 0
  · have := (cmpSQ_zero a c).1 e
    subst this
    have := cmpZ_anti a b
    omega
  · omega
def asc (l : List (List Cube)) : Prop := l.Pairwise fun a b => cmpSQ a b < 0
theorem asc_eq : ∀ (a b : List (List Cube)), asc a → asc b → (∀ x, x ∈ a ↔ x ∈ b) → a = b
  | [], [], _, _, _ => rfl
  | [], b :: s, _, _, h => absurd ((h b).2 List.mem_cons_self) (by simp)
  | a :: r, [], _, _, h => absurd ((h a).1 List.mem_cons_self) (by simp)
  | a :: r, b :: s, ha, hb, h => by
    obtain ⟨h1, h2⟩ := List.pairwise_cons.1 ha
    obtain ⟨h3, h4⟩ := List.pairwise_cons.1 hb
    have e : a = b := by
      rcases List.mem_cons.1 ((h a).1 List.mem_cons_self) with e | e
      · exact e
      · rcases List.mem_cons.1 ((h b).2 List.mem_cons_self) with e' | e'
        · exact e'.symm
        · have := h1 b e'
          have := h3 a e
          have := cmpZ_anti a b
          omega
    subst e
    congr 1
    refine asc_eq r s h2 h4 fun x => ⟨fun hx => ?_, fun hx => ?_⟩
    · rcases List.mem_cons.1 ((h x).1 (List.mem_cons_of_mem _ hx)) with e | e
      · have := h1 x hx
        rw [e, cmpZ_self] at this
        omega
      · exact e
    · rcases List.mem_cons.1 ((h x).2 (List.mem_cons_of_mem _ hx)) with e | e
      · have := h3 x hx
        rw [e, cmpZ_self] at this
        omega
      · exact e
theorem sortS_sorted (l : List (List Cube)) : (sortS l).Pairwise fun a b => cmpSQ a b ≤ 0 := by
  have := List.pairwise_mergeSort (le := fun x y : List Cube => !Go.Proofs.ltOf ordS y x) (fun a b c h1 h2 => by
    simp only [Bool.not_eq_true'] at *
    exact swoS.ntrans c b a h2 h1) (fun a b => by
    rw [Bool.or_eq_true]
    by_cases e : Go.Proofs.ltOf ordS b a = true
    · right
      simp only [Bool.not_eq_true']
      rw [ltS_iff]
      unfold Go.Proofs.ltOf at e
      rw [decide_eq_true_eq] at e
      rw [ordS_anti]
      omega
    · left
      simpa using e) l
  refine this.imp fun {a b} h => ?_
  simp only [Bool.not_eq_true'] at h
  rw [ltS_iff, ordS_eq] at h
  have := cmpZ_anti a b
  omega
theorem sortS_mem {l : List (List Cube)} {x : List Cube} : x ∈ sortS l ↔ x ∈ l := (List.mergeSort_perm _ _).mem_iff
theorem compG_mem {β : Type} [DecidableEq β] : ∀ (l : List β) (p x : β), x ∈ compG p l ∨ x = p ↔ x ∈ l ∨ x = p
  | [], p, x => by simp [compG]
  | a :: r, p, x => by
    have ih := compG_mem r a x
    rw [compG]
    by_cases h : a = p
    · subst h
      rw [if_pos rfl, ih, List.mem_cons]
      constructor
      · rintro (h1 | h1)
        · exact .inl (.inr h1)
        · exact .inr h1
      · rintro ((h1 | h1) | h1)
        · exact .inr h1
        · exact .inl h1
        · exact .inr h1
    · rw [if_neg h, List.mem_cons, List.mem_cons]
      constructor
      · rintro ((h1 | h1) | h1)
        · exact .inl (.inl h1)
        · rcases ih.1 (.inl h1) with h2 | h2
          · exact .inl (.inr h2)
          · exact .inl (.inl h2)
        · exact .inr h1
      · rintro ((h1 | h1) | h1)
        · exact .inl (.inl h1)
        · rcases ih.2 (.inl h1) with h2 | h2
          · exact .inl (.inr h2)
          · exact .inl (.inl h2)
        · exact .inr h1
theorem compF_mem {β : Type} [DecidableEq β] {l : List β} {x : β} : x ∈ compF l ↔ x ∈ l := by
  cases l with
  | nil => simp [compF]
  | cons a r =>
    have := compG_mem r a x
    rw [compF, List.mem_cons, List.mem_cons]
    constructor
    · rintro (h | h)
      · exact .inl h
      · rcases this.1 (.inl h) with h | h
        · exact .inr h
        · exact .inl h
    · rintro (h | h)
      · exact .inl h
      · rcases this.2 (.inl h) with h | h
        · exact .inr h
        · exact .inl h
theorem compG_asc : ∀ (l : List (List Cube)) (p : List Cube), (p :: l).Pairwise (fun a b => cmpSQ a b ≤ 0) → asc (p :: compG p l)
  | [], p, _ => by simp [compG, asc]
  | a :: r, p, h => by
    obtain ⟨h1, h2⟩ := List.pairwise_cons.1 h
    have ih := compG_asc r a h2
    rw [compG]
    by_cases e : a = p
    · subst e
      rw [if_pos rfl]
      exact ih
    · rw [if_neg e]
      have hpa : cmpSQ p a < 0 := by
        have := h1 a List.mem_cons_self
        have hne : cmpSQ p a ≠ 0 := fun h => e ((cmpSQ_zero p a).1 h).symm
        omega
      refine List.pairwise_cons.2 ⟨fun b hb => ?_, ih⟩
      rcases List.mem_cons.1 hb with rfl | hb
      · exact hpa
      · exact cmpZ_lt_trans hpa ((List.pairwise_cons.1 ih).1 b hb)
theorem compF_asc {l : List (List Cube)} (h : l.Pairwise fun a b => cmpSQ a b ≤ 0) : asc (compF l) := by
  cases l with
  | nil => exact List.Pairwise.nil
  | cons a r => rw [compF]; exact compG_asc r a h
def tidyL (l : List (List Cube)) : List (List Cube) := compF (sortS l)
theorem tidyL_mem {l : List (List Cube)} {x : List Cube} : x ∈ tidyL l ↔ x ∈ l := compF_mem.trans sortS_mem
theorem tidyL_asc (l : List (List Cube)) : asc (tidyL l) := compF_asc (sortS_sorted l)
theorem implSortS_eq (l : List (List Cube)) (h0 : 0 < l.length) (h1 : l.length < 4611686018427387904) : impl_Cube_40__impl_compareSolids.f l = some (sortS l) := by
  unfold impl_Cube_40__impl_compareSolids.f
  rw [if_pos ⟨h0, h1⟩]
theorem implCompS_eq (l : List (List Cube)) (h0 : 0 < l.length) (h1 : l.length < 4611686018427387904) : impl_Cube_42__impl_allSolids_1.f l = some (compF l) := by
  unfold impl_Cube_42__impl_allSolids_1.f
  rw [if_pos ⟨h0, h1⟩]
  exact congrArg (fun i => some (@compF _ i l)) (Subsingleton.elim _ _)
def addL (l : List (List Cube)) (x : List Cube) : List (List Cube) := match l with
  | [] => [x]
  | a :: r => if cmpSQ a x < 0 then a :: addL r x else if cmpSQ a x = 0 then a :: r else x :: a :: r
theorem addL_mem : ∀ {l : List (List Cube)} {x y : List Cube}, y ∈ addL l x ↔ y = x ∨ y ∈ l
  | [], x, y => by simp [addL]
  | a :: r, x, y => by
    rw [addL]
    split
    · rw [List.mem_cons, addL_mem (l := r), List.mem_cons]
      constructor
      · rintro (h | h | h)
        · exact .inr (.inl h)
        · exact .inl h
        · exact .inr (.inr h)
      · rintro (h | h | h)
        · exact .inr (.inl h)
        · exact .inl h
        · exact .inr (.inr h)
    · split
      · rename_i h
        have e := (cmpSQ_zero a x).1 h
        subst e
        constructor
        · exact .inr
        · rintro (h | h)
          · rw [h]; exact List.mem_cons_self
          · exact h
      · rw [List.mem_cons]
theorem addL_asc : ∀ {l : List (List Cube)} {x : List Cube}, asc l → asc (addL l x)
  | [], x, _ => by simp [addL, asc]
  | a :: r, x, h => by
    obtain ⟨h1, h2⟩ := List.pairwise_cons.1 h
    rw [addL]
    split
    · rename_i hc
      refine List.pairwise_cons.2 ⟨fun b hb => ?_, addL_asc h2⟩
      rcases addL_mem.1 hb with rfl | hb
      · exact hc
      · exact h1 b hb
    · split
      · exact h
      · have hax : cmpSQ x a < 0 := by
          have := cmpZ_anti a x
          omega
        refine List.pairwise_cons.2 ⟨fun b hb => ?_, h⟩
        rcases List.mem_cons.1 hb with rfl | hb
        · exact hax
        · exact cmpZ_lt_trans hax (h1 b hb)
theorem addL_len : ∀ (l : List (List Cube)) (x : List Cube), (addL l x).length ≤ l.length + 1
  | [], x => by simp [addL]
  | a :: r, x => by
    have := addL_len r x
    rw [addL]
    split
    · simp; omega
    · split
      · simp
      · simp
theorem at_preLQS {xs pre suf : List (List Cube)} {c : List Cube} (h : xs = pre ++ c :: suf) : rd_L2 xs (pre.length : Int) = c := by
  subst h; unfold rd_L2; rw [getD_at]
theorem specAdd_ev (l : List (List Cube)) (x : List Cube) (hl : l.length ≤ 1000000000) (hx_ : ∀ y ∈ l, small y) : Ev (fun k => spec_l09Insert.f k l x) (addL l x) := by
  have hs : small l := by unfold small; omega
  unfold spec_l09Insert.f
  refine loop_list l (fun k i (_ : Unit) => spec_l09Insert.l0 k l x i) (fun pre suf _ => pre ++ addL suf x) (fun _ _ => True) ?_ ?_ () trivial
  · intro _ _
    simp only [spec_l09Insert.l0, len_lt, if_false, Option.bind_some, Int.toNat_natCast, List.take_length, List.drop_length, List.nil_append, List.length_nil, List.length_singleton, List.append_nil, List.length_append]
    refine Ev.pos (by omega) (Ev.pos (by omega) (Ev.pos (by omega) (Ev.pos (by omega) (Ev.pos (by omega) (Ev.of_eq (Ev.now _) ?_)))))
    simp [addL]
  · intro pre c suf _ hx _ ih
    have hp := pre_len hx
    have ht : l.take pre.length = pre := by rw [hx]; simp
    have hd : l.drop pre.length = c :: suf := by rw [hx]; simp
    have hlen : l.length = pre.length + (suf.length + 1) := by rw [hx]; simp
    have hcs := hx_ c (by rw [hx]; simp)
    simp only [spec_l09Insert.l0, pre_lt hx, pre_0, if_true, at_preLQS hx, pre_w hx hs, Option.bind_some, Int.toNat_natCast, List.nil_append, List.length_nil, List.length_singleton, List.length_append, ht, hd, List.length_cons]
    refine Ev.bind (specCompareQ_ev c x hcs) ?_
    rw [addL]
    by_cases h1 : cmpSQ c x < 0
    · rw [if_pos h1]
      refine Ev.pos h1 (Ev.of_eq (ih () trivial) ?_)
      simp
    · rw [if_neg h1]
      refine Ev.neg h1 (Ev.bind (specCompareQ_ev c x hcs) ?_)
      by_cases h2 : cmpSQ c x = 0
      · exact Ev.pos h2 (Ev.of_eq (Ev.now _) (by rw [if_pos h2]; exact hx))
      · refine Ev.neg h2 (Ev.pos (by omega) (Ev.pos (by omega) (Ev.pos (by omega) (Ev.pos (by omega) (Ev.of_eq (Ev.now _) ?_)))))
        rw [if_neg h2]
        simp
def sameQ (a b : Cube) : Bool := decide (a.f0 = b.f0) && (decide (a.f1 = b.f1) && decide (a.f2 = b.f2))
theorem sameQ_iff {a b : Cube} : sameQ a b = true ↔ a = b := by
  obtain ⟨a0, a1, a2⟩ := a
  obtain ⟨b0, b1, b2⟩ := b
  simp [sameQ]
def idxFQ : List Cube → Cube → Int → Int
  | [], _, _ => -1
  | a :: r, c, i => if sameQ a c = true then i else idxFQ r c (i + 1)
def idxQ (l : List Cube) (c : Cube) : Int := idxFQ l c 0
theorem specIndexQ_ev (l : List Cube) (c : Cube) (hs : small l) : Ev (fun k => spec_l09Index.f k l c.f0 c.f1 c.f2) (idxQ l c) := by
  unfold spec_l09Index.f
  refine loop_list l (fun k i (_ : Unit) => spec_l09Index.l0 k l i c.f0 c.f1 c.f2) (fun pre suf _ => idxFQ suf c (pre.length : Int)) (fun _ _ => True) ?_ ?_ () trivial
  · intro _ _
    simp only [spec_l09Index.l0, len_lt, if_false]
    exact Ev.now _
  · intro pre d suf _ hx _ ih
    simp only [spec_l09Index.l0, pre_lt hx, pre_0, if_true, at_preQ hx, pre_w hx hs, idxFQ]
    have e : (d.f0 == c.f0 && (d.f1 == c.f1 && d.f2 == c.f2)) = sameQ d c := by simp [sameQ, BEq.beq]
    rw [e]
    refine Ev.if_ (fun _ => Ev.now _) (fun _ => Ev.of_eq (ih () trivial) ?_)
    simp
theorem implIndexQ_ev (l : List Cube) (c : Cube) (hs : small l) : Ev (fun k => impl_Cube_52.f k l c.f0 c.f1 c.f2) (idxQ l c) := by
  unfold impl_Cube_52.f
  refine loop_list l (fun k i (_ : Unit) => impl_Cube_52.l0 k l (l.length : Int) i c.f0 c.f1 c.f2) (fun pre suf _ => idxFQ suf c (pre.length : Int)) (fun _ _ => True) ?_ ?_ () trivial
  · intro _ _
    simp only [impl_Cube_52.l0, len_lt, if_false]
    exact Ev.now _
  · intro pre d suf _ hx _ ih
    simp only [impl_Cube_52.l0, pre_lt hx, pre_0, if_true, at_preQ hx, pre_w hx hs, idxFQ]
    have e : (c.f0 == d.f0 && (c.f1 == d.f1 && c.f2 == d.f2)) = sameQ d c := by
      rw [Bool.eq_iff_iff]
      simp only [sameQ, Bool.and_eq_true, beq_iff_eq, decide_eq_true_eq]
      constructor <;> (rintro ⟨h, h', h''⟩; exact ⟨h.symm, h'.symm, h''.symm⟩)
    rw [e]
    refine Ev.if_ (fun _ => Ev.now _) (fun _ => Ev.of_eq (ih () trivial) ?_)
    simp
theorem implContainsQ_ev (l : List Cube) (c : Cube) (hs : small l) : Ev (fun k => impl_Cube_35.f k l c.f0 c.f1 c.f2) (decide (idxQ l c ≥ 0)) := by
  unfold impl_Cube_35.f
  exact Ev.bind (implIndexQ_ev l c hs) (Ev.now _)
def stepsQ : List Cube := [⟨0, 0, -1⟩, ⟨0, -1, 0⟩, ⟨-1, 0, 0⟩, ⟨1, 0, 0⟩, ⟨0, 1, 0⟩, ⟨0, 0, 1⟩]
theorem steps_eq : spec_l09Steps.f = some stepsQ := rfl
def addQ (c d : Cube) : Cube := ⟨wrap64 (c.f0 + d.f0), wrap64 (c.f1 + d.f1), wrap64 (c.f2 + d.f2)⟩
def nbQ (c : Cube) : List Cube := [⟨c.f0, c.f1, wrap64 (c.f2 - 1)⟩, ⟨c.f0, wrap64 (c.f1 - 1), c.f2⟩, ⟨wrap64 (c.f0 - 1), c.f1, c.f2⟩, ⟨wrap64 (c.f0 + 1), c.f1, c.f2⟩, ⟨c.f0, wrap64 (c.f1 + 1), c.f2⟩, ⟨c.f0, c.f1, wrap64 (c.f2 + 1)⟩]
theorem nbQ_len (c : Cube) : (nbQ c).length = 6 := rfl
theorem implAroundQ_eq (c : Cube) : impl_cubesAround.f c.f0 c.f1 c.f2 = some (nbQ c) := rfl
theorem steps_nb {c : Cube} (h : okQ c) : stepsQ.map (addQ c) = nbQ c := by
  obtain ⟨x, y, z⟩ := c
  unfold okQ ok1 at h
  simp only at h
  have w (n : Int) (h0 : -1000 ≤ n) (h1 : n ≤ 1000) : wrap64 n = n := w64 (by omega) (by omega)
  simp only [stepsQ, nbQ, addQ, List.map_cons, List.map_nil, Int.add_zero]
  rw [w x (by omega) (by omega), w y (by omega) (by omega), w z (by omega) (by omega)]
  simp [Int.sub_eq_add_neg]
def freeQ (s l : List Cube) : List Cube := l.filter fun d => decide (idxQ s d < 0)
def normS (s : List Cube) (d : Cube) : List Cube := normalQ (sortC (s ++ [d]))
def moreQ (s : List Cube) : List (List Cube) := s.flatMap fun c => (freeQ s (nbQ c)).map (normS s)
def nextQ (l : List (List Cube)) : List (List Cube) := (l.flatMap moreQ).foldl addL []
def allQ : Nat → List (List Cube) → List (List Cube)
  | 0, l => l
  | n + 1, l => allQ n (nextQ l)
theorem foldAdd_asc : ∀ (xs acc : List (List Cube)), asc acc → asc (xs.foldl addL acc)
  | [], _, h => h
  | x :: r, acc, h => foldAdd_asc r _ (addL_asc h)
theorem foldAdd_mem : ∀ (xs acc : List (List Cube)) (y : List Cube), y ∈ xs.foldl addL acc ↔ y ∈ xs ∨ y ∈ acc
  | [], acc, y => by simp
  | x :: r, acc, y => by
    rw [List.foldl_cons, foldAdd_mem r, addL_mem, List.mem_cons]
    constructor
    · rintro (h | h | h)
      · exact .inl (.inr h)
      · exact .inl (.inl h)
      · exact .inr h
    · rintro ((h | h) | h)
      · exact .inr (.inl h)
      · exact .inl h
      · exact .inr (.inr h)
theorem foldAdd_len : ∀ (xs acc : List (List Cube)), (xs.foldl addL acc).length ≤ acc.length + xs.length
  | [], acc => by simp
  | x :: r, acc => by
    have h1 := foldAdd_len r (addL acc x)
    have h2 := addL_len acc x
    rw [List.foldl_cons, List.length_cons]
    omega
theorem tidy_next (l : List (List Cube)) : tidyL (l.flatMap moreQ) = nextQ l := by
  refine asc_eq _ _ (tidyL_asc _) (foldAdd_asc _ _ List.Pairwise.nil) fun x => ?_
  rw [tidyL_mem]
  unfold nextQ
  rw [foldAdd_mem]
  simp
structure GoodQ (m : Int) (n : Nat) (s : List Cube) : Prop where
  len : s.length = n
  pos : 0 < n
  box : ∀ c ∈ s, (0 ≤ c.f0 ∧ c.f0 ≤ m) ∧ (0 ≤ c.f1 ∧ c.f1 ≤ m) ∧ (0 ≤ c.f2 ∧ c.f2 ≤ m)
theorem GoodQ.ok {m : Int} {n : Nat} {s : List Cube} (h : GoodQ m n s) (hm : m ≤ 20) : ∀ c ∈ s, okQ c := fun c hc => by
  have := h.box c hc
  unfold okQ ok1
  omega
theorem minQ_box {a b : Int} : ∀ (l : List Cube) (z : Int × Int × Int), (∀ c ∈ l, (a ≤ c.f0 ∧ c.f0 ≤ b) ∧ (a ≤ c.f1 ∧ c.f1 ≤ b) ∧ (a ≤ c.f2 ∧ c.f2 ≤ b)) → (a ≤ z.1 ∧ z.1 ≤ b) ∧ (a ≤ z.2.1 ∧ z.2.1 ≤ b) ∧ (a ≤ z.2.2 ∧ z.2.2 ≤ b) →
    ((a ≤ (minQ z l).1 ∧ (minQ z l).1 ≤ z.1) ∧ (a ≤ (minQ z l).2.1 ∧ (minQ z l).2.1 ≤ z.2.1) ∧ (a ≤ (minQ z l).2.2 ∧ (minQ z l).2.2 ≤ z.2.2)) ∧ ∀ c ∈ l, (minQ z l).1 ≤ c.f0 ∧ (minQ z l).2.1 ≤ c.f1 ∧ (minQ z l).2.2 ≤ c.f2
  | [], z, _, hz => by
    refine ⟨?_, fun c hc => by simp at hc⟩
    simp only [minQ, List.foldl_nil]
    omega
  | d :: r, z, h, hz => by
    have hd := h d List.mem_cons_self
    have e : minQ z (d :: r) = minQ (mn z.1 d.f0, mn z.2.1 d.f1, mn z.2.2 d.f2) r := rfl
    have hm (x y : Int) : mn x y ≤ x ∧ mn x y ≤ y ∧ (mn x y = x ∨ mn x y = y) := by unfold mn; split <;> omega
    have m0 := hm z.1 d.f0
    have m1 := hm z.2.1 d.f1
    have m2 := hm z.2.2 d.f2
    have ih := minQ_box r (mn z.1 d.f0, mn z.2.1 d.f1, mn z.2.2 d.f2) (fun c hc => h c (List.mem_cons_of_mem _ hc)) (by simp only; omega)
    rw [e]
    simp only at ih
    refine ⟨by omega, fun c hc => ?_⟩
    rcases List.mem_cons.1 hc with rfl | hc
    · omega
    · exact ih.2 c hc
theorem leastQ_box {a b : Int} {l : List Cube} (h0 : l ≠ []) (h : ∀ c ∈ l, (a ≤ c.f0 ∧ c.f0 ≤ b) ∧ (a ≤ c.f1 ∧ c.f1 ≤ b) ∧ (a ≤ c.f2 ∧ c.f2 ≤ b)) :
    ((a ≤ (leastQ l).1 ∧ (leastQ l).1 ≤ b) ∧ (a ≤ (leastQ l).2.1 ∧ (leastQ l).2.1 ≤ b) ∧ (a ≤ (leastQ l).2.2 ∧ (leastQ l).2.2 ≤ b)) ∧ ∀ c ∈ l, (leastQ l).1 ≤ c.f0 ∧ (leastQ l).2.1 ≤ c.f1 ∧ (leastQ l).2.2 ≤ c.f2 := by
  cases l with
  | nil => exact absurd rfl h0
  | cons d r =>
    have hd := h d List.mem_cons_self
    have key := minQ_box (a := a) (b := b) r (d.f0, d.f1, d.f2) (fun c hc => h c (List.mem_cons_of_mem _ hc)) hd
    simp only at key
    show ((a ≤ (minQ (d.f0, d.f1, d.f2) r).1 ∧ _) ∧ _) ∧ _
    have e : leastQ (d :: r) = minQ (d.f0, d.f1, d.f2) r := rfl
    rw [e]
    refine ⟨by omega, fun c hc => ?_⟩
    rcases List.mem_cons.1 hc with rfl | hc
    · omega
    · exact key.2 c hc
theorem nb_box {m : Int} (hm : 0 ≤ m ∧ m ≤ 20) {c d : Cube} (hc : (0 ≤ c.f0 ∧ c.f0 ≤ m) ∧ (0 ≤ c.f1 ∧ c.f1 ≤ m) ∧ (0 ≤ c.f2 ∧ c.f2 ≤ m)) (hd : d ∈ nbQ c) : (-1 ≤ d.f0 ∧ d.f0 ≤ m + 1) ∧ (-1 ≤ d.f1 ∧ d.f1 ≤ m + 1) ∧ (-1 ≤ d.f2 ∧ d.f2 ≤ m + 1) := by
  have w (n : Int) (h0 : -1000 ≤ n) (h1 : n ≤ 1000) : wrap64 n = n := w64 (by omega) (by omega)
  unfold nbQ at hd
  simp only [List.mem_cons, List.not_mem_nil, or_false] at hd
  rcases hd with rfl | rfl | rfl | rfl | rfl | rfl <;> simp only <;> (rw [w _ (by omega) (by omega)]; omega)
theorem good_more {m : Int} {n : Nat} {s x : List Cube} (h : GoodQ m n s) (hm : 0 ≤ m ∧ m ≤ 20) (hx : x ∈ moreQ s) : GoodQ (m + 2) (n + 1) x := by
  obtain ⟨c, hc, hx⟩ := List.mem_flatMap.1 hx
  obtain ⟨d, hd, rfl⟩ := List.mem_map.1 hx
  have hd' := (List.mem_filter.1 hd).1
  have hb := nb_box hm (h.box c hc) hd'
  have hall : ∀ e ∈ sortC (s ++ [d]), (-1 ≤ e.f0 ∧ e.f0 ≤ m + 1) ∧ (-1 ≤ e.f1 ∧ e.f1 ≤ m + 1) ∧ (-1 ≤ e.f2 ∧ e.f2 ≤ m + 1) := fun e he => by
    have he' := (sortQ_perm _).mem_iff.1 he
    rcases List.mem_append.1 he' with he' | he'
    · have := h.box e he'; omega
    · rw [List.mem_singleton.1 he']; exact hb
  have hne : sortC (s ++ [d]) ≠ [] := by
    intro e
    have := sortQ_len (s ++ [d])
    rw [e] at this
    simp at this
  obtain ⟨h1, h2⟩ := leastQ_box hne hall
  refine ⟨by unfold normS; rw [normalQ_len, sortQ_len, List.length_append, List.length_singleton, h.len], by omega, fun e he => ?_⟩
  unfold normS normalQ moveQ at he
  obtain ⟨f, hf, rfl⟩ := List.mem_map.1 he
  have h3 := hall f hf
  have h4 := h2 f hf
  have w (n : Int) (h0 : -1000 ≤ n) (h1 : n ≤ 1000) : wrap64 n = n := w64 (by omega) (by omega)
  simp only
  rw [w _ (by omega) (by omega), w _ (by omega) (by omega), w _ (by omega) (by omega)]
  omega
theorem good_next {m : Int} {n : Nat} {l : List (List Cube)} (h : ∀ s ∈ l, GoodQ m n s) (hm : 0 ≤ m ∧ m ≤ 20) : ∀ x ∈ nextQ l, GoodQ (m + 2) (n + 1) x := fun x hx => by
  unfold nextQ at hx
  rw [foldAdd_mem] at hx
  rcases hx with hx | hx
  · obtain ⟨s, hs, hx⟩ := List.mem_flatMap.1 hx
    exact good_more (h s hs) hm hx
  · simp at hx
theorem freeQ_len (s l : List Cube) : (freeQ s l).length ≤ l.length := List.length_filter_le _ _
theorem flatQ_len {α β : Type} (f : α → List β) (q : Nat) : ∀ l : List α, (∀ a ∈ l, (f a).length ≤ q) → (l.flatMap f).length ≤ l.length * q
  | [], _ => by simp
  | a :: r, h => by
    have h1 := flatQ_len f q r fun b hb => h b (List.mem_cons_of_mem _ hb)
    have h2 := h a List.mem_cons_self
    rw [List.flatMap_cons, List.length_append, List.length_cons, Nat.add_mul, Nat.one_mul]
    omega
theorem moreQ_len (s : List Cube) : (moreQ s).length ≤ s.length * 6 := flatQ_len _ 6 s fun c _ => by
  rw [List.length_map]
  exact freeQ_len s (nbQ c)
theorem nextQ_len {n : Nat} {l : List (List Cube)} (h : ∀ s ∈ l, s.length = n) : (nextQ l).length ≤ l.length * (n * 6) := by
  have h1 := foldAdd_len (l.flatMap moreQ) []
  have h2 := flatQ_len moreQ (n * 6) l fun s hs => by have := moreQ_len s; rw [h s hs] at this; exact this
  unfold nextQ
  simp only [List.length_nil, Nat.zero_add] at h1
  omega
theorem allQ_good : ∀ (q : Nat) (m : Int) (n : Nat) (l : List (List Cube)), (∀ s ∈ l, GoodQ m n s) → 0 ≤ m → m + q * 2 ≤ 20 → ∀ x ∈ allQ q l, GoodQ (m + q * 2) (n + q) x
  | 0, m, n, l, h, _, _ => by simpa [allQ] using h
  | q + 1, m, n, l, h, h0, h1 => by
    intro x hx
    have := allQ_good q (m + 2) (n + 1) (nextQ l) (good_next h (by omega)) (by omega) (by omega) x hx
    have e1 : m + 2 + (q : Int) * 2 = m + ((q + 1 : Nat) : Int) * 2 := by omega
    have e2 : n + 1 + q = n + (q + 1) := by omega
    rw [e1, e2] at this
    exact this
theorem allQ_asc : ∀ (q : Nat) (l : List (List Cube)), asc l → asc (allQ q l)
  | 0, _, h => h
  | q + 1, l, _ => allQ_asc q _ (foldAdd_asc _ _ List.Pairwise.nil)
theorem specAllQ_3 (N x4 i j : Int) (now : List (List Cube)) (s : List Cube) (hs : s.length ≤ 63) (hi0 : 0 ≤ i) (hi1 : i < (now.length : Int)) (hrd : rd_L2 now i = s) (c : Cube) (hj0 : 0 ≤ j) (hj1 : j < (s.length : Int)) (hrc : rd_T43 s j = c) {r : List (List Cube)} : ∀ (suf pre : List Cube) (next : List (List Cube)), stepsQ = pre ++ suf → next.length + suf.length ≤ 900000000 → (∀ y ∈ next, y.length ≤ 64) →
    Ev (fun k => spec_l09All.l2 k N now x4 (((freeQ s (suf.map (addQ c))).map (normS s)).foldl addL next) i (wrap64 (j + 1))) r → Ev (fun k => spec_l09All.l3 k N now x4 next i j (pre.length : Int)) r
  | [], pre, next, hx, hl, hn, hc => by
    refine Ev.succ ?_
    rw [List.append_nil] at hx
    subst hx
    simp only [spec_l09All.l3]
    exact Ev.neg (by simp [stepsQ]) (by simpa [freeQ] using hc)
  | d :: suf, pre, next, hx, hl, hn, hc => by
    refine Ev.succ ?_
    have hsm : small stepsQ := by unfold small; simp [stepsQ]
    have h6 : stepsQ.length = 6 := rfl
    have hp := pre_len hx
    simp only [List.length_cons] at hl
    have hi (next' : List (List Cube)) (ho : next'.length + suf.length ≤ 900000000) (hn' : ∀ y ∈ next', y.length ≤ 64) (hc' : Ev (fun k => spec_l09All.l2 k N now x4 (((freeQ s (suf.map (addQ c))).map (normS s)).foldl addL next') i (wrap64 (j + 1))) r) := specAllQ_3 N x4 i j now s hs hi0 hi1 hrd c hj0 hj1 hrc suf (pre ++ [d]) next' (by rw [hx]; simp) ho hn' hc'
    simp only [List.length_append, List.length_singleton, Int.natCast_add] at hi
    have hl6 : ((pre.length : Int) < 6) := by omega
    simp only [spec_l09All.l3, steps_eq, Option.bind_some, pre_lt hx, pre_0, if_true, at_preQ hx, pre_w hx hsm, hrd, hrc, List.nil_append, List.length_nil, List.length_singleton]
    refine Ev.pos hl6 (Ev.pos hi0 (Ev.pos hi1 (Ev.pos hj0 (Ev.pos hj1 ?_))))
    refine Ev.bind0 (a := (wrap64 (c.f0 + d.f0), wrap64 (c.f1 + d.f1), wrap64 (c.f2 + d.f2))) rfl ?_
    refine Ev.bind (specIndexQ_ev s (addQ c d) (by unfold small; omega)) ?_
    by_cases hm : idxQ s (addQ c d) < 0
    · refine Ev.pos hm (Ev.pos (by omega) (Ev.pos (by omega) (Ev.bind (specSortQ_ev (s ++ [addQ c d]) (by simp; omega)) (Ev.bind (specNormalQ_ev (sortC (s ++ [addQ c d])) (by rw [sortQ_len]; simp; omega) (by rw [sortQ_len]; simp)) ?_))))
      have hnl : (normS s (addQ c d)).length = s.length + 1 := by unfold normS; rw [normalQ_len, sortQ_len]; simp
      have hal := addL_len next (normS s (addQ c d))
      refine Ev.bind (specAdd_ev next (normS s (addQ c d)) (by omega) (fun y hy => by have := hn y hy; unfold small; omega)) (hi _ (by omega) (fun y hy => ?_) ?_)
      · rcases addL_mem.1 hy with rfl | hy
        · omega
        · exact hn y hy
      · have : freeQ s ((d :: suf).map (addQ c)) = addQ c d :: freeQ s (suf.map (addQ c)) := by simp [freeQ, hm]
        rw [this] at hc
        simpa using hc
    · refine Ev.neg hm (hi next (by omega) hn ?_)
      have : freeQ s ((d :: suf).map (addQ c)) = freeQ s (suf.map (addQ c)) := by simp [freeQ, hm]
      rw [this] at hc
      exact hc
theorem foldAdd_le {n : Nat} {xs acc : List (List Cube)} (h : ∀ y ∈ xs, y.length ≤ n) (h' : ∀ y ∈ acc, y.length ≤ n) : ∀ y ∈ xs.foldl addL acc, y.length ≤ n := fun y hy => by
  rcases (foldAdd_mem xs acc y).1 hy with hy | hy
  · exact h y hy
  · exact h' y hy
theorem normS_len (s : List Cube) (d : Cube) : (normS s d).length = s.length + 1 := by unfold normS; rw [normalQ_len, sortQ_len]; simp
theorem specAllQ_2 {m : Int} {n : Nat} (N x4 i : Int) (now : List (List Cube)) (s : List Cube) (h : GoodQ m n s) (hm : 0 ≤ m ∧ m ≤ 20) (hs : s.length ≤ 63) (hi0 : 0 ≤ i) (hi1 : i < (now.length : Int)) (hrd : rd_L2 now i = s) {r : List (List Cube)} : ∀ (suf pre : List Cube) (next : List (List Cube)), s = pre ++ suf → next.length + suf.length * 6 ≤ 800000000 → (∀ y ∈ next, y.length ≤ 64) →
    Ev (fun k => spec_l09All.l1 k N now x4 ((suf.flatMap fun c => (freeQ s (nbQ c)).map (normS s)).foldl addL next) (wrap64 (i + 1))) r → Ev (fun k => spec_l09All.l2 k N now x4 next i (pre.length : Int)) r
  | [], pre, next, hx, hl, hn, hc => by
    refine Ev.succ ?_
    rw [List.append_nil] at hx
    subst hx
    simp only [spec_l09All.l2, hrd]
    exact Ev.pos hi0 (Ev.pos hi1 (Ev.neg (by omega) (by simpa using hc)))
  | c :: suf, pre, next, hx, hl, hn, hc => by
    refine Ev.succ ?_
    have hsm : small s := by unfold small; omega
    simp only [List.length_cons] at hl
    have hcs : c ∈ s := by rw [hx]; simp
    have hp := pre_len hx
    simp only [spec_l09All.l2, hrd]
    refine Ev.pos hi0 (Ev.pos hi1 ?_)
    simp only [pre_lt hx, if_true]
    refine specAllQ_3 N x4 i (pre.length : Int) now s hs hi0 hi1 hrd c (by omega) (by omega) (at_preQ hx) stepsQ [] next rfl (by simp [stepsQ]; omega) hn ?_
    rw [pre_w hx hsm, steps_nb (h.ok hm.2 c hcs)]
    have hfl := foldAdd_len ((freeQ s (nbQ c)).map (normS s)) next
    rw [List.length_map] at hfl
    have hfr := freeQ_len s (nbQ c)
    have h6 := nbQ_len c
    have hn' : ∀ y ∈ ((freeQ s (nbQ c)).map (normS s)).foldl addL next, y.length ≤ 64 := foldAdd_le (fun y hy => by
      obtain ⟨d, _, rfl⟩ := List.mem_map.1 hy
      rw [normS_len]; omega) hn
    have hi := specAllQ_2 N x4 i now s h hm hs hi0 hi1 hrd suf (pre ++ [c]) (((freeQ s (nbQ c)).map (normS s)).foldl addL next) (by rw [hx]; simp) (by omega) hn' (by simpa using hc)
    simp only [List.length_append, List.length_singleton, Int.natCast_add] at hi
    exact hi
theorem moreQ_le {s : List Cube} (hs : s.length ≤ 63) : ∀ y ∈ moreQ s, y.length ≤ 64 := fun y hy => by
  obtain ⟨c, _, hy⟩ := List.mem_flatMap.1 hy
  obtain ⟨d, _, rfl⟩ := List.mem_map.1 hy
  rw [normS_len]; omega
theorem specAllQ_1 {m : Int} {n : Nat} (N x4 : Int) (now : List (List Cube)) (h : ∀ s ∈ now, GoodQ m n s) (hm : 0 ≤ m ∧ m ≤ 20) (hn : n ≤ 6) (hnl : now.length ≤ 20000000) {r : List (List Cube)} : ∀ (suf pre : List (List Cube)) (next : List (List Cube)), now = pre ++ suf → next.length + suf.length * 36 ≤ 720000000 → (∀ y ∈ next, y.length ≤ 64) →
    Ev (fun k => spec_l09All.l0 k N ((suf.flatMap moreQ).foldl addL next) (wrap64 (x4 + 1))) r → Ev (fun k => spec_l09All.l1 k N now x4 next (pre.length : Int)) r
  | [], pre, next, hx, hl, hy, hc => by
    refine Ev.succ ?_
    rw [List.append_nil] at hx
    subst hx
    simp only [spec_l09All.l1]
    exact Ev.neg (by omega) (by simpa using hc)
  | s :: suf, pre, next, hx, hl, hy, hc => by
    refine Ev.succ ?_
    have hsm : small now := by unfold small; omega
    simp only [List.length_cons] at hl
    have hs : s ∈ now := by rw [hx]; simp
    have hg := h s hs
    have hgl := hg.len
    have hp := pre_len hx
    simp only [spec_l09All.l1, pre_lt hx, if_true]
    refine specAllQ_2 N x4 (pre.length : Int) now s hg hm (by omega) (by omega) (by omega) (at_preLQS hx) s [] next rfl (by omega) hy ?_
    rw [pre_w hx hsm]
    have hml := moreQ_len s
    have hfl := foldAdd_len (moreQ s) next
    have hi := specAllQ_1 N x4 now h hm hn hnl suf (pre ++ [s]) ((moreQ s).foldl addL next) (by rw [hx]; simp) (by omega) (foldAdd_le (moreQ_le (by omega)) hy) (by simpa using hc)
    simp only [List.length_append, List.length_singleton, Int.natCast_add] at hi
    exact hi
theorem specAllQ_q (N : Nat) (hN : N ≤ 6) : ∀ (q i : Nat) (m : Int) (n : Nat) (now : List (List Cube)), i + q = N → (∀ s ∈ now, GoodQ m n s) → 0 ≤ m → m + q * 2 ≤ 20 → n + q ≤ 6 → now.length * 36 ^ q ≤ 2000000 →
    Ev (fun k => spec_l09All.l0 k (N : Int) now (i : Int)) (allQ q now)
  | 0, i, m, n, now, hi, h, h0, h1, h2, h4 => by
    refine Ev.succ ?_
    simp only [spec_l09All.l0]
    exact Ev.neg (by omega) (Ev.now _)
  | q + 1, i, m, n, now, hi, h, h0, h1, h2, h4 => by
    have e36 : 36 ^ (q + 1) = 36 ^ q * 36 := Nat.pow_succ ..
    have e1 : 0 < 36 ^ q := Nat.pow_pos (by omega)
    have hnl : now.length * 36 ≤ 2000000 := Nat.le_trans (Nat.mul_le_mul_left _ (by rw [e36]; omega)) h4
    have ew : wrap64 ((i : Int) + 1) = ((i + 1 : Nat) : Int) := by rw [w64 (by omega) (by omega)]; omega
    have hg := good_next h (by omega : 0 ≤ m ∧ m ≤ 20)
    have hnx : (nextQ now).length ≤ now.length * 36 := Nat.le_trans (nextQ_len (n := n) fun s hs => (h s hs).len) (Nat.mul_le_mul_left _ (by omega))
    have hb : (nextQ now).length * 36 ^ q ≤ 2000000 := by
      refine Nat.le_trans (Nat.mul_le_mul_right _ hnx) ?_
      rw [Nat.mul_assoc, Nat.mul_comm 36, ← e36]
      exact h4
    refine Ev.succ ?_
    simp only [spec_l09All.l0]
    refine Ev.pos (by omega) (specAllQ_1 (N : Int) (i : Int) now h (by omega) (by omega) (by omega) now [] [] rfl (by simp; omega) (by simp) ?_)
    rw [ew]
    exact specAllQ_q N hN q (i + 1) (m + 2) (n + 1) _ (by omega) hg (by omega) (by omega) (by omega) hb
theorem implAllQ_3 (x16 x17 x22 x28 : Int) (now : List (List Cube)) (x21 : Int) (s : List Cube) (hs : s.length ≤ 63) (x27 : Int) (arr : List Cube) (ha : arr.length ≤ 64) {r : List (List Cube)} : ∀ (suf pre : List Cube) (acc : List (List Cube)), arr = pre ++ suf → acc.length + suf.length ≤ 900000000 →
    Ev (fun k => impl_allSolids.l2 k (acc ++ (freeQ s suf).map (normS s)) s x16 x17 now x21 x22 s x27 (wrap64 (x28 + 1))) r → Ev (fun k => impl_allSolids.l3 k acc s x16 x17 now x21 x22 s x27 x28 arr (arr.length : Int) (pre.length : Int)) r
  | [], pre, acc, hx, hl, hc => by
    refine Ev.succ ?_
    rw [List.append_nil] at hx
    subst hx
    simp only [impl_allSolids.l3]
    exact Ev.neg (by omega) (by simpa [freeQ] using hc)
  | d :: suf, pre, acc, hx, hl, hc => by
    refine Ev.succ ?_
    have hsm : small arr := by unfold small; omega
    have hp := pre_len hx
    simp only [List.length_cons] at hl
    have hi (acc' : List (List Cube)) (ho : acc'.length + suf.length ≤ 900000000) (hc' : Ev (fun k => impl_allSolids.l2 k (acc' ++ (freeQ s suf).map (normS s)) s x16 x17 now x21 x22 s x27 (wrap64 (x28 + 1))) r) := implAllQ_3 x16 x17 x22 x28 now x21 s hs x27 arr ha suf (pre ++ [d]) acc' (by rw [hx]; simp) ho hc'
    simp only [List.length_append, List.length_singleton, Int.natCast_add] at hi
    simp only [impl_allSolids.l3, pre_lt hx, pre_0, if_true, at_preQ hx, pre_w hx hsm, Option.bind_some, List.length_singleton]
    refine Ev.bind (implContainsQ_ev s d (by unfold small; omega)) ?_
    by_cases hm : idxQ s d < 0
    · have e1 : impl_Cube_36.f s = some s := by
        unfold impl_Cube_36.f
        rw [if_pos (by omega)]
      refine Ev.neg (by simp; omega) (Ev.bind0 e1 ?_)
      refine Ev.pos (by omega) (Ev.bind0 (implSortQ_eq (s ++ [d]) (by simp) (by simp; omega)) (Ev.bind (implNormalQ_ev (sortC (s ++ [d])) (by rw [sortQ_len]; simp; omega) (by rw [sortQ_len]; simp)) (Ev.pos (by omega) (hi _ (by simp; omega) ?_))))
      have : freeQ s (d :: suf) = d :: freeQ s suf := by simp [freeQ, hm]
      rw [this] at hc
      simpa [normS] using hc
    · refine Ev.pos (by simp; omega) (hi acc (by omega) ?_)
      have : freeQ s (d :: suf) = freeQ s suf := by simp [freeQ, hm]
      rw [this] at hc
      exact hc
theorem implAllQ_2 (x16 x17 x22 : Int) (now : List (List Cube)) (x21 : Int) (s : List Cube) (hs : s.length ≤ 63) {r : List (List Cube)} : ∀ (suf pre : List Cube) (acc : List (List Cube)), s = pre ++ suf → acc.length + suf.length * 6 ≤ 800000000 →
    Ev (fun k => impl_allSolids.l1 k (acc ++ suf.flatMap fun c => (freeQ s (nbQ c)).map (normS s)) x16 x17 now x21 (wrap64 (x22 + 1))) r → Ev (fun k => impl_allSolids.l2 k acc s x16 x17 now x21 x22 s (s.length : Int) (pre.length : Int)) r
  | [], pre, acc, hx, hl, hc => by
    refine Ev.succ ?_
    have hp : s.length = pre.length := by rw [hx]; simp
    simp only [impl_allSolids.l2]
    exact Ev.neg (by omega) (by simpa using hc)
  | c :: suf, pre, acc, hx, hl, hc => by
    refine Ev.succ ?_
    have hsm : small s := by unfold small; omega
    simp only [List.length_cons] at hl
    have hp := pre_len hx
    simp only [impl_allSolids.l2, pre_lt hx, pre_0, if_true, at_preQ hx]
    refine Ev.bind0 (implAroundQ_eq c) ?_
    refine implAllQ_3 x16 x17 x22 (pre.length : Int) now x21 s hs (s.length : Int) (nbQ c) (by rw [nbQ_len]; omega) (nbQ c) [] acc rfl (by rw [nbQ_len]; omega) ?_
    rw [pre_w hx hsm]
    have hfr := freeQ_len s (nbQ c)
    have h6 := nbQ_len c
    have hi := implAllQ_2 x16 x17 x22 now x21 s hs suf (pre ++ [c]) (acc ++ (freeQ s (nbQ c)).map (normS s)) (by rw [hx]; simp) (by rw [List.length_append, List.length_map]; omega) (by simpa using hc)
    simp only [List.length_append, List.length_singleton, Int.natCast_add] at hi
    exact hi
theorem implAllQ_1 {m : Int} {n : Nat} (x16 x17 : Int) (now : List (List Cube)) (h : ∀ s ∈ now, GoodQ m n s) (hn : n ≤ 6) (hnl : now.length ≤ 20000000) {r : List (List Cube)} : ∀ (suf pre : List (List Cube)) (acc : List (List Cube)), now = pre ++ suf → acc.length + suf.length * 36 ≤ 720000000 → 0 < (acc ++ suf.flatMap moreQ).length →
    Ev (fun k => impl_allSolids.l0 k (tidyL (acc ++ suf.flatMap moreQ)) x16 (wrap64 (x17 + 1))) r → Ev (fun k => impl_allSolids.l1 k acc x16 x17 now (now.length : Int) (pre.length : Int)) r
  | [], pre, acc, hx, hl, h0, hc => by
    refine Ev.succ ?_
    have hp : now.length = pre.length := by rw [hx]; simp
    simp only [List.flatMap_nil, List.append_nil] at h0 hc
    simp only [impl_allSolids.l1]
    have hsl : (sortS acc).length = acc.length := (List.mergeSort_perm _ _).length_eq
    refine Ev.neg (by omega) (Ev.bind0 (implSortS_eq acc h0 (by omega)) (Ev.bind0 (implCompS_eq (sortS acc) (by omega) (by omega)) hc))
  | s :: suf, pre, acc, hx, hl, h0, hc => by
    refine Ev.succ ?_
    have hsm : small now := by unfold small; omega
    simp only [List.length_cons] at hl
    have hs : s ∈ now := by rw [hx]; simp
    have hgl := (h s hs).len
    have hp := pre_len hx
    simp only [impl_allSolids.l1, pre_lt hx, pre_0, if_true, at_preLQS hx]
    refine implAllQ_2 x16 x17 (pre.length : Int) now (now.length : Int) s (by omega) s [] acc rfl (by omega) ?_
    rw [pre_w hx hsm]
    have hml := moreQ_len s
    have e : acc ++ (s :: suf).flatMap moreQ = (acc ++ moreQ s) ++ suf.flatMap moreQ := by simp
    rw [e] at h0 hc
    have hi := implAllQ_1 x16 x17 now h hn hnl suf (pre ++ [s]) (acc ++ moreQ s) (by rw [hx]; simp) (by rw [List.length_append]; omega) h0 hc
    simp only [List.length_append, List.length_singleton, Int.natCast_add] at hi
    exact hi
theorem idxFQ_in : ∀ (l : List Cube) (c : Cube) (i : Int), 0 ≤ i → (0 ≤ idxFQ l c i ↔ c ∈ l)
  | [], c, i, _ => by simp [idxFQ]
  | a :: r, c, i, hi => by
    rw [idxFQ]
    by_cases h : sameQ a c = true
    · rw [if_pos h]
      simp [sameQ_iff.1 h, hi]
    · rw [if_neg h, idxFQ_in r c (i + 1) (by omega), List.mem_cons]
      have hne : ¬ c = a := fun e => h (sameQ_iff.2 e.symm)
      simp [hne]
theorem idxQ_in (l : List Cube) (c : Cube) : 0 ≤ idxQ l c ↔ c ∈ l := idxFQ_in l c 0 (by omega)
theorem maxQ : ∀ (l : List Cube), l ≠ [] → ∃ c ∈ l, ∀ d ∈ l, d.f0 ≤ c.f0
  | [], h => absurd rfl h
  | [a], _ => ⟨a, by simp, fun d hd => by rw [List.mem_singleton.1 hd]; omega⟩
  | a :: b :: r, _ => by
    obtain ⟨c, hc, h⟩ := maxQ (b :: r) (by simp)
    by_cases hac : a.f0 ≤ c.f0
    · refine ⟨c, List.mem_cons_of_mem _ hc, fun d hd => ?_⟩
      rcases List.mem_cons.1 hd with rfl | hd
      · exact hac
      · exact h d hd
    · refine ⟨a, List.mem_cons_self, fun d hd => ?_⟩
      rcases List.mem_cons.1 hd with rfl | hd
      · omega
      · have := h d hd; omega
theorem more_pos {m : Int} {n : Nat} {s : List Cube} (h : GoodQ m n s) (hm : 0 ≤ m ∧ m ≤ 20) : 0 < (moreQ s).length := by
  have hne : s ≠ [] := by
    intro e
    have h1 := h.len
    have h2 := h.pos
    rw [e] at h1
    simp at h1
    omega
  obtain ⟨c, hc, hmax⟩ := maxQ s hne
  have hb := h.box c hc
  have hw : wrap64 (c.f0 + 1) = c.f0 + 1 := w64 (by omega) (by omega)
  have hd : (⟨c.f0 + 1, c.f1, c.f2⟩ : Cube) ∈ nbQ c := by unfold nbQ; rw [hw]; simp
  have hf : (⟨c.f0 + 1, c.f1, c.f2⟩ : Cube) ∈ freeQ s (nbQ c) := by
    refine List.mem_filter.2 ⟨hd, decide_eq_true ?_⟩
    have : ¬ 0 ≤ idxQ s (⟨c.f0 + 1, c.f1, c.f2⟩ : Cube) := fun h0 => by
      have := hmax _ ((idxQ_in s _).1 h0)
      simp only at this
      omega
    omega
  exact List.length_pos_of_mem (List.mem_flatMap.2 ⟨c, hc, List.mem_map.2 ⟨_, hf, rfl⟩⟩)
theorem implAllQ_q (N : Nat) (hN : N ≤ 6) : ∀ (q i : Nat) (m : Int) (n : Nat) (now : List (List Cube)), i + q = N → (∀ s ∈ now, GoodQ m n s) → 0 ≤ m → m + q * 2 ≤ 20 → n + q ≤ 6 → 0 < now.length → now.length * 36 ^ q ≤ 2000000 →
    Ev (fun k => impl_allSolids.l0 k now (N : Int) (i : Int)) (allQ q now)
  | 0, i, m, n, now, hi, h, h0, h1, h2, h3, h4 => by
    refine Ev.succ ?_
    simp only [impl_allSolids.l0]
    exact Ev.neg (by omega) (Ev.now _)
  | q + 1, i, m, n, now, hi, h, h0, h1, h2, h3, h4 => by
    have e36 : 36 ^ (q + 1) = 36 ^ q * 36 := Nat.pow_succ ..
    have e1 : 0 < 36 ^ q := Nat.pow_pos (by omega)
    have hnl : now.length * 36 ≤ 2000000 := Nat.le_trans (Nat.mul_le_mul_left _ (by rw [e36]; omega)) h4
    have ew : wrap64 ((i : Int) + 1) = ((i + 1 : Nat) : Int) := by rw [w64 (by omega) (by omega)]; omega
    have hg := good_next h (by omega : 0 ≤ m ∧ m ≤ 20)
    have hnx : (nextQ now).length ≤ now.length * 36 := Nat.le_trans (nextQ_len (n := n) fun s hs => (h s hs).len) (Nat.mul_le_mul_left _ (by omega))
    have hb : (nextQ now).length * 36 ^ q ≤ 2000000 := by
      refine Nat.le_trans (Nat.mul_le_mul_right _ hnx) ?_
      rw [Nat.mul_assoc, Nat.mul_comm 36, ← e36]
      exact h4
    obtain ⟨s, hs⟩ := List.exists_mem_of_length_pos h3
    have hsp := more_pos (h s hs) (by omega)
    obtain ⟨x, hx⟩ := List.exists_mem_of_length_pos hsp
    have hfm : x ∈ now.flatMap moreQ := List.mem_flatMap.2 ⟨s, hs, hx⟩
    have hfp : 0 < ([] ++ now.flatMap moreQ).length := by rw [List.nil_append]; exact List.length_pos_of_mem hfm
    have hn0 : 0 < (nextQ now).length := by
      rw [← tidy_next]
      exact List.length_pos_of_mem (tidyL_mem.2 hfm)
    refine Ev.succ ?_
    simp only [impl_allSolids.l0]
    refine Ev.pos (by omega) (implAllQ_1 (N : Int) (i : Int) now h (by omega) (by omega) now [] [] rfl (by simp; omega) hfp ?_)
    rw [ew, List.nil_append, tidy_next]
    exact implAllQ_q N hN q (i + 1) (m + 2) (n + 1) _ (by omega) hg (by omega) (by omega) (by omega) hn0 hb
def oneQ : List (List Cube) := [[⟨0, 0, 0⟩]]
theorem oneQ_good : ∀ s ∈ oneQ, GoodQ 0 1 s := fun s hs => by
  rw [List.mem_singleton.1 hs]
  exact ⟨rfl, by omega, fun c hc => by rw [List.mem_singleton.1 hc]; simp⟩
theorem specAllQ_ev (n : Nat) (h1 : 1 ≤ n) (h2 : n ≤ 4) : Ev (fun k => spec_l09All.f k (n : Int)) (allQ (n - 1) oneQ) := by
  have h36 : 36 ^ (n - 1) ≤ 36 ^ 3 := Nat.pow_le_pow_right (by omega) (by omega)
  unfold spec_l09All.f
  exact specAllQ_q n (by omega) (n - 1) 1 0 1 oneQ (by omega) oneQ_good (by omega) (by omega) (by omega) (by simp [oneQ]; omega)
theorem implAllQ_ev (n : Nat) (h1 : 1 ≤ n) (h2 : n ≤ 4) : Ev (fun k => impl_allSolids.f k (n : Int)) (allQ (n - 1) oneQ) := by
  have h36 : 36 ^ (n - 1) ≤ 36 ^ 3 := Nat.pow_le_pow_right (by omega) (by omega)
  have e : wrap64 ((n : Int) - 1) = ((n - 1 : Nat) : Int) := by rw [w64 (by omega) (by omega)]; omega
  unfold impl_allSolids.f
  rw [e]
  exact implAllQ_q (n - 1) (by omega) (n - 1) 0 0 1 oneQ (by omega) oneQ_good (by omega) (by omega) (by omega) (by simp [oneQ]) (by simp [oneQ]; omega)
theorem allQ_ok (n : Nat) (h1 : 1 ≤ n) (h2 : n ≤ 4) : ∀ x ∈ allQ (n - 1) oneQ, x.length = n ∧ ∀ c ∈ x, okQ c := fun x hx => by
  have h := allQ_good (n - 1) 0 1 oneQ oneQ_good (by omega) (by omega) x hx
  exact ⟨by rw [h.len]; omega, h.ok (by omega)⟩
theorem equalQ_ev (a b : List Cube) (ha : small a) : Ev (fun k => impl_Cube_44.f k a b) (decide (a = b)) := by
  unfold impl_Cube_44.f
  by_cases hl : a.length = b.length
  · refine Ev.pos (by omega) ?_
    refine loop_list a (fun k i (_ : Unit) => impl_Cube_44.l0 k a b (a.length : Int) i) (fun pre suf _ => decide (suf = b.drop pre.length)) (fun _ _ => True) ?_ ?_ () trivial
    · intro _ _
      simp only [impl_Cube_44.l0, len_lt, if_false]
      refine Ev.of_eq (Ev.now _) ?_
      rw [hl, List.drop_length]
      simp
    · intro pre c suf _ hx _ ih
      have hp := pre_len hx
      have hpb : pre.length < b.length := by omega
      have hlt : ((pre.length : Int) < (b.length : Int)) = True := by simp; omega
      have eb := rdQ b pre.length hpb
      simp only [impl_Cube_44.l0, pre_lt hx, pre_0, if_true, hlt, at_preQ hx, pre_w hx ha, eb]
      rw [List.drop_eq_getElem_cons hpb]
      by_cases he : c = b[pre.length]
      · refine Ev.neg (by rw [← he]; simp) (Ev.of_eq (ih () trivial) ?_)
        rw [List.length_append, List.length_singleton]
        generalize b.drop (pre.length + 1) = R
        rw [← he]
        simp only [List.cons.injEq, true_and]
      · refine Ev.pos ?_ (Ev.of_eq (Ev.now _) ?_)
        · refine Decidable.byContradiction fun h => he ?_
          generalize b[pre.length] = d at h
          obtain ⟨c0, c1, c2⟩ := c
          obtain ⟨d0, d1, d2⟩ := d
          simp at h
          simp [h]
        · generalize b.drop (pre.length + 1) = R
          simp only [List.cons.injEq, he, false_and, decide_false]
  · refine Ev.neg (by omega) (Ev.of_eq (Ev.now _) ?_)
    have : a ≠ b := fun e => hl (by rw [e])
    simp [this]
def keepQ (b : Bool) (l : List (List Cube)) : List (List Cube) := l.filter fun s => decide (leastForm s (turnsQ b) = s)
theorem keepQ_snoc (b : Bool) (l : List (List Cube)) (s : List Cube) : keepQ b (l ++ [s]) = keepQ b l ++ (if leastForm s (turnsQ b) = s then [s] else []) := by
  unfold keepQ
  rw [List.filter_append]
  congr 1
  by_cases h : leastForm s (turnsQ b) = s
  · rw [if_pos h]; simp [h]
  · rw [if_neg h]; simp [h]
theorem turnsQ_eq (b : Bool) : spec_l09Turns.f b = some ((turnsQ b : Nat) : Int) := by cases b <;> rfl
theorem specOwnQ_ev (b : Bool) (l : List (List Cube)) (hl : l.length ≤ 1000000000) (h : ∀ s ∈ l, 0 < s.length ∧ s.length ≤ 64) : Ev (fun k => spec_l09Own.f k l b) (keepQ b l) := by
  have hsm : small l := by unfold small; omega
  unfold spec_l09Own.f
  refine loop_list l (fun k i (acc : List (List Cube)) => spec_l09Own.l0 k l b acc i) (fun _ _ _ => keepQ b l) (fun pre acc => acc = keepQ b pre) ?_ ?_ [] rfl
  · rintro acc rfl
    simp only [spec_l09Own.l0, len_lt, if_false]
    exact Ev.now _
  · rintro pre s suf acc hx rfl ih
    have hp := pre_len hx
    have hg := h s (by rw [hx]; simp)
    have hk : (keepQ b pre).length ≤ pre.length := List.length_filter_le _ _
    have hn : 1 ≤ turnsQ b ∧ turnsQ b ≤ 1000 := by cases b <;> decide
    have hll := leastForm_len s (turnsQ b)
    simp only [spec_l09Own.l0, pre_lt hx, pre_0, if_true, at_preLQS hx, pre_w hx hsm, turnsQ_eq, Option.bind_some]
    refine Ev.bind (specLeastQ_ev s (turnsQ b) hn.1 hn.2 (by omega) hg.1) (Ev.bind (specCompareQ_ev _ s (by unfold small; omega)) ?_)
    by_cases e : leastForm s (turnsQ b) = s
    · refine Ev.pos ((cmpSQ_zero _ _).2 e) (Ev.pos (by omega) (ih _ ?_))
      rw [keepQ_snoc, if_pos e]
    · refine Ev.neg (fun h0 => e ((cmpSQ_zero _ _).1 h0)) (ih _ ?_)
      rw [keepQ_snoc, if_neg e, List.append_nil]
theorem implOwnQ_ev (b : Bool) (l : List (List Cube)) (hl : l.length ≤ 1000000000) (h : ∀ s ∈ l, 0 < s.length ∧ s.length ≤ 64 ∧ ∀ c ∈ s, okQ c) (hA : apartB (keepQ b l) = true) : Ev (fun k => impl_ownSolids.f k l b) (keepQ b l) := by
  have hsm : small l := by unfold small; omega
  unfold impl_ownSolids.f
  refine Ev.bind (a := keepQ b l) ?_ (Ev.pos hA (Ev.now _))
  refine loop_list l (fun k i (acc : List (List Cube)) => impl_ownSolids.l0 k b acc l (l.length : Int) i) (fun _ _ _ => keepQ b l) (fun pre acc => acc = keepQ b pre) ?_ ?_ [] rfl
  · rintro acc rfl
    simp only [impl_ownSolids.l0, len_lt, if_false]
    exact Ev.now _
  · rintro pre s suf acc hx rfl ih
    have hp := pre_len hx
    have hg := h s (by rw [hx]; simp)
    have hk : (keepQ b pre).length ≤ pre.length := List.length_filter_le _ _
    have hll := leastForm_len s (turnsQ b)
    simp only [impl_ownSolids.l0, pre_lt hx, pre_0, if_true, at_preLQS hx, pre_w hx hsm]
    refine Ev.bind (implLeastQ_ev s b (by omega) hg.1 hg.2.2) (Ev.bind (equalQ_ev (leastForm s (turnsQ b)) s (by unfold small; omega)) ?_)
    by_cases e : leastForm s (turnsQ b) = s
    · refine Ev.pos (by simpa using e) (Ev.pos (by omega) (ih _ ?_))
      rw [keepQ_snoc, if_pos e]
    · refine Ev.neg (by simpa using e) (ih _ ?_)
      rw [keepQ_snoc, if_neg e, List.append_nil]
theorem allQ_len (n : Nat) (h1 : 1 ≤ n) (h2 : n ≤ 4) : (allQ (n - 1) oneQ).length ≤ 1000000 := by
  have key : ∀ (q : Nat) (m : Int) (n : Nat) (l : List (List Cube)), (∀ s ∈ l, GoodQ m n s) → 0 ≤ m → m + q * 2 ≤ 20 → n + q ≤ 6 → (allQ q l).length ≤ l.length * 36 ^ q := by
    intro q
    induction q with
    | zero => intro m n l _ _ _ _; simp [allQ]
    | succ q ih =>
      intro m n l h h0 h1 h2
      have e36 : 36 ^ (q + 1) = 36 ^ q * 36 := Nat.pow_succ ..
      have hnx : (nextQ l).length ≤ l.length * 36 := Nat.le_trans (nextQ_len (n := n) fun s hs => (h s hs).len) (Nat.mul_le_mul_left _ (by omega))
      have := ih (m + 2) (n + 1) (nextQ l) (good_next h (by omega)) (by omega) (by omega) (by omega)
      rw [allQ]
      refine Nat.le_trans this (Nat.le_trans (Nat.mul_le_mul_right _ hnx) ?_)
      rw [Nat.mul_assoc, Nat.mul_comm 36, ← e36]
      exact Nat.le_refl _
  have h36 : 36 ^ (n - 1) ≤ 36 ^ 3 := Nat.pow_le_pow_right (by omega) (by omega)
  have := key (n - 1) 0 1 oneQ oneQ_good (by omega) (by omega) (by omega)
  simp only [oneQ, List.length_singleton, Nat.one_mul] at this
  have h3 : 36 ^ 3 = 46656 := rfl
  exact Nat.le_trans this (by omega)
theorem inQ4 (a b c : Int) : spec_l01In.f a b c = some (decide (b ≤ a ∧ a ≤ c)) := by
  unfold spec_l01In.f
  by_cases h : a ≥ b
  · rw [if_pos h]
    congr 1
    simp
    omega
  · rw [if_neg h]
    congr 1
    simp
    omega
theorem withinQ4 (a b c : Int) : impl_within.f a b c = some (decide (b ≤ a ∧ a ≤ c)) := inQ4 a b c
theorem allQ_h1 (n : Nat) (h1 : 1 ≤ n) (h2 : n ≤ 4) : ∀ s ∈ allQ (n - 1) oneQ, 0 < s.length ∧ s.length ≤ 64 := fun s hs => by
  have := (allQ_ok n h1 h2 s hs).1
  omega
theorem allQ_h2 (n : Nat) (h1 : 1 ≤ n) (h2 : n ≤ 4) : ∀ s ∈ allQ (n - 1) oneQ, 0 < s.length ∧ s.length ≤ 64 ∧ ∀ c ∈ s, okQ c := fun s hs => by
  have := allQ_ok n h1 h2 s hs
  exact ⟨by omega, by omega, this.2⟩
theorem oneQ_asc : asc oneQ := by unfold asc oneQ; simp
theorem keepQ_apart (b : Bool) (n : Nat) (h1 : 1 ≤ n) (h2 : n ≤ 4) : apartB (keepQ b (allQ (n - 1) oneQ)) = true := by
  have ha : asc (keepQ b (allQ (n - 1) oneQ)) := List.Pairwise.filter _ (allQ_asc (n - 1) _ oneQ_asc)
  have hl : ∀ x ∈ keepQ b (allQ (n - 1) oneQ), x.length = n := fun x hx => (allQ_ok n h1 h2 x (List.mem_filter.1 hx).1).1
  unfold apartB
  rw [Bool.and_eq_true, List.all_eq_true]
  refine ⟨decide_eq_true (ha.imp fun h e => by rw [(cmpSQ_zero _ _).2 e] at h; omega), fun x hx => ?_⟩
  have hx' := hl x hx
  have hh : ((keepQ b (allQ (n - 1) oneQ)).headD []).length = n := by
    cases e : keepQ b (allQ (n - 1) oneQ) with
    | nil => rw [e] at hx; simp at hx
    | cons a r => exact hl a (by rw [e]; simp)
  rw [hh, Bool.and_eq_true]
  exact ⟨decide_eq_true hx', decide_eq_true (by omega)⟩
def totSS : List (List Cube) → Nat
  | [] => 0
  | x :: r => x.length + totSS r
def mkSS : List (List Cube) → Int → List (List Cube)
  | [], _ => []
  | x :: r, m => markedQ m x.length :: mkSS r (m + 3 * (x.length : Int))
theorem mkSS_len : ∀ (L : List (List Cube)) (m : Int), (mkSS L m).length = L.length
  | [], _ => rfl
  | x :: r, m => by unfold mkSS; rw [List.length_cons, List.length_cons, mkSS_len r]
def fitsSS (L : List (List Cube)) : Prop := L.length ≤ 1000000000 ∧ (∀ x ∈ L, fits x) ∧ totSS L ≤ 1000000000000
theorem markSS_l : ∀ (suf pre : List (List Cube)) (m : Int), (pre ++ suf).length ≤ 1000000000 → (∀ x ∈ suf, fits x) → 0 ≤ m → m + 3 * (totSS suf : Int) ≤ 4611686018427387904 →
    Ev (fun k => laws_markCubeSS.l0 k (pre ++ suf) m (pre.length : Int)) (m + 3 * (totSS suf : Int), pre ++ mkSS suf m)
  | [], pre, m, hl, hf, h0, h1 => by
    refine Ev.succ ?_
    simp only [laws_markCubeSS.l0]
    refine Ev.neg (by simp) (Ev.of_eq (Ev.now _) ?_)
    simp [totSS, mkSS]
  | x :: suf, pre, m, hl, hf, h0, h1 => by
    refine Ev.succ ?_
    have hl' := hl
    simp only [List.length_append, List.length_cons] at hl'
    simp only [totSS] at h1 ⊢
    have hg : (pre ++ x :: suf).getD (pre.length : Int).toNat [] = x := getD_at pre suf x _
    have hset (y : List Cube) : (pre ++ x :: suf).set (pre.length : Int).toNat y = (pre ++ [y]) ++ suf := by simp
    simp only [laws_markCubeSS.l0, hg, hset]
    refine Ev.pos (by simp; omega) (Ev.pos (by omega) (Ev.bind (markCubeS_from x m h0 (by omega) (hf x List.mem_cons_self)) ?_))
    have ew : wrap64 ((pre.length : Int) + 1) = ((pre ++ [markedQ m x.length]).length : Int) := by rw [w64 (by omega) (by omega)]; simp
    simp only [ew]
    refine Ev.of_eq (markSS_l suf (pre ++ [markedQ m x.length]) (m + 3 * (x.length : Int)) (by simp; omega) (fun y hy => hf y (List.mem_cons_of_mem _ hy)) (by omega) (by omega)) ?_
    refine Prod.ext ?_ ?_
    · simp only; omega
    · simp [mkSS]
theorem markSS_ev (L : List (List Cube)) (m : Int) (hf : fitsSS L) (h0 : 0 ≤ m) (h1 : m ≤ 1000000000000) : Ev (fun k => laws_markCubeSS.f k L m) (m + 3 * (totSS L : Int), mkSS L m) := by
  have := hf.2.2
  exact markSS_l L [] m hf.1 hf.2.1 h0 (by omega)
theorem heldSS_l (X : List (List Cube)) (hX : X.length ≤ 1000000000) : ∀ (L pre : List (List Cube)) (m : Int), X = pre ++ mkSS L m → (∀ x ∈ L, fits x) → 0 ≤ m → m + 3 * (totSS L : Int) ≤ 4611686018427387904 →
    Ev (fun k => laws_heldCubeSS.l0 k X m (pre.length : Int)) (m + 3 * (totSS L : Int))
  | [], pre, m, hx, hf, h0, h1 => by
    refine Ev.succ ?_
    have hp := congrArg List.length hx
    simp only [mkSS, List.length_append, List.length_nil] at hp
    simp only [laws_heldCubeSS.l0]
    refine Ev.neg (by omega) (Ev.of_eq (Ev.now _) (by simp [totSS]))
  | x :: L, pre, m, hx, hf, h0, h1 => by
    refine Ev.succ ?_
    have hs : small X := by unfold small; omega
    have hx2 : X = pre ++ markedQ m x.length :: mkSS L (m + 3 * (x.length : Int)) := hx
    simp only [totSS] at h1 ⊢
    have hr : rd_L2 X (pre.length : Int) = markedQ m x.length := by rw [hx2]; exact getD_at _ _ _ _
    simp only [laws_heldCubeSS.l0, pre_lt hx2, pre_0, if_true, hr, pre_w hx2 hs]
    refine Ev.bind (heldCubeS_from m x.length h0 (by omega) (hf x List.mem_cons_self)) (Ev.neg (by omega) ?_)
    have ih := heldSS_l X hX L (pre ++ [markedQ m x.length]) (m + 3 * (x.length : Int)) (by rw [hx2]; simp) (fun y hy => hf y (List.mem_cons_of_mem _ hy)) (by omega) (by omega)
    simp only [List.length_append, List.length_singleton, Int.natCast_add] at ih
    refine Ev.of_eq ih ?_
    omega
theorem heldSS_ev (L : List (List Cube)) (m : Int) (hf : fitsSS L) (h0 : 0 ≤ m) (h1 : m ≤ 1000000000000) : Ev (fun k => laws_heldCubeSS.f k (mkSS L m) m) (m + 3 * (totSS L : Int)) := by
  have := hf.2.2
  exact heldSS_l (mkSS L m) (by rw [mkSS_len]; exact hf.1) L [] m rfl hf.2.1 h0 (by omega)
theorem eqSS_ev (a : List (List Cube)) (hs : small a) (h : ∀ x ∈ a, small x) : Ev (fun k => laws_eqCubeSS.f k a a) true := by
  unfold laws_eqCubeSS.f
  refine Ev.pos rfl ?_
  refine loop_list a (fun k i (_ : Unit) => laws_eqCubeSS.l0 k a a i) (fun _ _ _ => true) (fun _ _ => True) ?_ ?_ () trivial
  · intro _ _
    simp only [laws_eqCubeSS.l0, len_lt, if_false]
    exact Ev.now _
  · intro pre c suf _ hx _ ih
    have hr : rd_L2 a (pre.length : Int) = c := by rw [hx]; exact getD_at pre suf c _
    simp only [laws_eqCubeSS.l0, pre_lt hx, pre_0, if_true, hr, pre_w hx hs]
    exact Ev.bind (eqCubeS_ev c (h c (by rw [hx]; simp))) (Ev.pos rfl (ih () trivial))
theorem totSS_le (m : Nat) : ∀ L : List (List Cube), (∀ x ∈ L, x.length ≤ m) → totSS L ≤ m * L.length
  | [], _ => Nat.zero_le _
  | x :: r, h => by
    have h1 := h x List.mem_cons_self
    have h2 := totSS_le m r fun y hy => h y (List.mem_cons_of_mem _ hy)
    rw [totSS, List.length_cons, Nat.mul_succ]
    omega
end Go.Proofs.Ytlompfboheiliaa.L
end
section
namespace Go.Proofs.Ytlompfboheiliaa.L
open Go.RowKit Go.Proofs.YtlompfboheiliaaW.PrintWords Go.Proofs.YtlompfboheiliaaW.PrintLast Go.Proofs.YtlompfboheiliaaW.PrintMore Go.Proofs.Ytlompfboheiliaa.F
set_option linter.unusedVariables false
def solR (a : Int) (b : Bool) : List (List Cube) × Int := if 1 ≤ a ∧ a ≤ 4 then (keepQ b (allQ (a.toNat - 1) oneQ), 0) else ([], 2)
theorem specSolR_ev (a : Int) (b : Bool) : Ev (fun k => spec_Solids.f k a b) (solR a b) := by
  unfold spec_Solids.f solR
  refine Ev.bind0 (inQ4 a 1 4) ?_
  by_cases h : 1 ≤ a ∧ a ≤ 4
  · obtain ⟨n, rfl⟩ : ∃ n : Nat, a = (n : Int) := ⟨a.toNat, by omega⟩
    rw [if_pos h]
    have hl := allQ_len n (by omega) (by omega)
    exact Ev.pos (by simpa using h) (Ev.bind (specAllQ_ev n (by omega) (by omega)) (Ev.bind (specOwnQ_ev b _ (by omega) (allQ_h1 n (by omega) (by omega))) (Ev.now _)))
  · rw [if_neg h]
    exact Ev.neg (by simpa using h) (Ev.now _)
theorem implSolR_ev (a : Int) (b : Bool) : Ev (fun k => impl_Solids.f k a b) (solR a b) := by
  unfold impl_Solids.f solR
  refine Ev.bind0 (withinQ4 a 1 4) ?_
  by_cases h : 1 ≤ a ∧ a ≤ 4
  · obtain ⟨n, rfl⟩ : ∃ n : Nat, a = (n : Int) := ⟨a.toNat, by omega⟩
    rw [if_pos h]
    have hl := allQ_len n (by omega) (by omega)
    exact Ev.pos (by simpa using h) (Ev.bind (implAllQ_ev n (by omega) (by omega)) (Ev.bind (implOwnQ_ev b _ (by omega) (allQ_h2 n (by omega) (by omega)) (keepQ_apart b n (by omega) (by omega))) (Ev.now _)))
  · rw [if_neg h]
    exact Ev.neg (by simpa using h) (Ev.now _)
theorem solR_mem {a : Int} {b : Bool} : ∀ x ∈ (solR a b).1, x.length ≤ 6 := by
  unfold solR
  split
  · rename_i h
    obtain ⟨n, rfl⟩ : ∃ n : Nat, a = (n : Int) := ⟨a.toNat, by omega⟩
    intro x hx
    have := (allQ_ok n (by omega) (by omega) x (List.mem_filter.1 hx).1).1
    omega
  · intro x hx; simp at hx
theorem solR_len (a : Int) (b : Bool) : (solR a b).1.length ≤ 1000000 := by
  unfold solR
  split
  · rename_i h
    obtain ⟨n, rfl⟩ : ∃ n : Nat, a = (n : Int) := ⟨a.toNat, by omega⟩
    exact Nat.le_trans (List.length_filter_le _ _) (allQ_len n (by omega) (by omega))
  · simp
end Go.Proofs.Ytlompfboheiliaa.L
namespace Go.Proofs.Ytlompfboheiliaa.Pure
open Go.RowKit Go.Proofs.YtlompfboheiliaaW.PrintWords Go.Proofs.Ytlompfboheiliaa.F Go.Proofs.Ytlompfboheiliaa.L
set_option linter.unusedVariables false
theorem FnExactSolids (a0 : Int) (a1 : Bool) (hv : (Lit.int .i64 a0).wf = true) : ∃ k, laws_FnExactSolids.f k a0 a1 = some true := by
  refine Ev.rounds ?_
  unfold laws_FnExactSolids.f
  have hR := solR_mem (a := a0) (b := a1)
  have hL := solR_len a0 a1
  generalize hG : solR a0 a1 = G at hR hL
  have hLs : small G.1 := by unfold small; omega
  have hRs : ∀ x ∈ G.1, small x := fun x hx => by have := hR x hx; unfold small; omega
  have hT := totSS_le 6 _ hR
  have hF : fitsSS G.1 := ⟨by omega, fun x hx => Nat.le_trans (hR x hx) (by decide), by
    have := Nat.mul_le_mul_left 6 hL
    omega⟩
  have hS := specSolR_ev a0 a1
  have hI := implSolR_ev a0 a1
  rw [hG] at hS hI
  refine Ev.bind hS (Ev.bind hI (Ev.bind (eqSS_ev _ hLs hRs) (Ev.pos rfl ?_)))
  refine Ev.step (fun k => laws_FnExactSolids.j0.eq_2 _ _ _ _ _ _ _) (Ev.neg (by simp) ?_)
  refine Ev.bind (markSS_ev _ 1 hF (by decide) (by decide)) (Ev.bind (heldSS_ev _ 1 hF (by decide) (by decide)) (Ev.neg (by omega) (Ev.pos rfl ?_)))
  refine Ev.bind hI (Ev.bind (eqSS_ev _ hLs hRs) (Ev.pos rfl ?_))
  refine Ev.step (fun k => laws_FnExactSolids.j1.eq_2 _ _ _ _) (Ev.neg (by simp) ?_)
  exact Ev.bind (heldSS_ev _ 1 hF (by decide) (by decide)) (Ev.neg (by omega) (Ev.pos rfl (Ev.now _)))
end Go.Proofs.Ytlompfboheiliaa.Pure
end
