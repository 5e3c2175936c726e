/- The row of FnExactCornerCount, with what it needs: text 5 of 6. -/
import Derived.Test.YtpoiiaephcddoaaK3
set_option maxHeartbeats 8000000
set_option maxRecDepth 100000
section
namespace Go.Proofs.Ytpoiiaephcddoaa.L
open Go.RowKit Go.Proofs.YtpoiiaephcddoaaW.PrintWords Go.Proofs.YtpoiiaephcddoaaW.PrintLast Go.Proofs.YtpoiiaephcddoaaW.PrintMore Go.Proofs.Ytpoiiaephcddoaa.F
set_option linter.unusedVariables false
set_option linter.unusedSimpArgs false
theorem goodFrom_lt : ∀ (l : List Cell) (p : Option Cell), goodFrom p l = true → (∀ q, p = some q → ∀ c ∈ l, ltC q c) ∧ l.Pairwise ltC
  | [], _, _ => ⟨fun _ _ c h => by simp at h, List.Pairwise.nil⟩
  | a :: r, p, hg => by
    simp only [goodFrom, Bool.and_eq_true, decide_eq_true_eq] at hg
    obtain ⟨h1, h2⟩ := goodFrom_lt r (some a) hg.2
    have h3 := h1 a rfl
    refine ⟨fun q hq c hc => ?_, List.pairwise_cons.2 ⟨h3, h2⟩⟩
    subst hq
    have h4 : ltC q a := by simpa using hg.1.2
    rcases List.mem_cons.1 hc with rfl | hc
    · exact h4
    · exact ltC_trans h4 (h3 c hc)
theorem goodFrom_of : ∀ (l : List Cell) (p : Option Cell), (∀ c ∈ l, okC c) → (∀ q, p = some q → ∀ c ∈ l, ltC q c) → l.Pairwise ltC → goodFrom p l = true
  | [], _, _, _, _ => rfl
  | a :: r, p, h0, h1, h2 => by
    obtain ⟨h3, h4⟩ := List.pairwise_cons.1 h2
    simp only [goodFrom, Bool.and_eq_true, decide_eq_true_eq]
    refine ⟨⟨h0 a List.mem_cons_self, ?_⟩, goodFrom_of r (some a) (fun c hc => h0 c (List.mem_cons_of_mem _ hc)) (fun q hq c hc => by injection hq with hq; subst hq; exact h3 c hc) h4⟩
    cases p with
    | none => rfl
    | some q => simpa using h1 q rfl a List.mem_cons_self
theorem shapeB_iff {l : List Cell} : shapeB l = true ↔ (∀ c ∈ l, okC c) ∧ l.Pairwise ltC ∧ 1 ≤ l.length ∧ l.length ≤ 40 := by
  unfold shapeB
  rw [Bool.and_eq_true, decide_eq_true_eq]
  constructor
  · rintro ⟨h, h'⟩
    exact ⟨goodFrom_ok l _ h, (goodFrom_lt l _ h).2, by omega, by omega⟩
  · rintro ⟨h1, h2, h3, h4⟩
    exact ⟨goodFrom_of l none h1 (fun _ h => by cases h) h2, by omega, by omega⟩
def sameC (a b : Cell) : Bool := decide (a.f0 = b.f0) && decide (a.f1 = b.f1)
theorem sameC_iff {a b : Cell} : sameC a b = true ↔ a = b := by
  obtain ⟨a0, a1⟩ := a
  obtain ⟨b0, b1⟩ := b
  simp [sameC]
def idxF : List Cell → Cell → Int → Int
  | [], _, _ => -1
  | a :: r, c, i => if sameC a c = true then i else idxF r c (i + 1)
def idxC (l : List Cell) (c : Cell) : Int := idxF l c 0
theorem specIndex_ev (l : List Cell) (c : Cell) (hs : small l) : Ev (fun k => spec_l02Index.f k l c.f0 c.f1) (idxC l c) := by
  unfold spec_l02Index.f
  refine loop_list l (fun k i (_ : Unit) => spec_l02Index.l0 k l i c.f0 c.f1) (fun pre suf _ => idxF suf c (pre.length : Int)) (fun _ _ => True) ?_ ?_ () trivial
  · intro _ _
    simp only [spec_l02Index.l0, len_lt, if_false]
    exact Ev.now _
  · intro pre d suf _ hx _ ih
    simp only [spec_l02Index.l0, pre_lt hx, pre_0, if_true, at_pre hx, pre_w hx hs, idxF]
    have e : (d.f0 == c.f0 && d.f1 == c.f1) = sameC d c := by simp [sameC, BEq.beq]
    rw [e]
    refine Ev.if_ (fun _ => Ev.now _) (fun _ => Ev.of_eq (ih () trivial) ?_)
    simp
theorem idxF_spec : ∀ (l : List Cell) (c : Cell) (i : Int), 0 ≤ i → (idxF l c i = -1 ∧ c ∉ l) ∨ (∃ j : Nat, j < l.length ∧ idxF l c i = i + (j : Int) ∧ l[j]? = some c ∧ ∀ q : Nat, q < j → l[q]? ≠ some c)
  | [], c, i, _ => .inl ⟨rfl, by simp⟩
  | a :: r, c, i, hi => by
    unfold idxF
    by_cases h : sameC a c = true
    · rw [if_pos h]
      exact .inr ⟨0, by simp, by simp, by simp [sameC_iff.1 h], fun q hq => by omega⟩
    · rw [if_neg h]
      have hne : a ≠ c := fun e => h (sameC_iff.2 e)
      rcases idxF_spec r c (i + 1) (by omega) with ⟨h1, h2⟩ | ⟨j, h1, h2, h3, h4⟩
      · exact .inl ⟨h1, by simp only [List.mem_cons, not_or]; exact ⟨fun e => hne e.symm, h2⟩⟩
      · refine .inr ⟨j + 1, by simpa using h1, by rw [h2]; simp; omega, by simpa using h3, fun q hq => ?_⟩
        cases q with
        | zero => simpa using hne
        | succ q => simpa using h4 q (by omega)
theorem idxC_spec (l : List Cell) (c : Cell) : (idxC l c = -1 ∧ c ∉ l) ∨ (∃ j : Nat, j < l.length ∧ idxC l c = (j : Int) ∧ l[j]? = some c ∧ ∀ q : Nat, q < j → l[q]? ≠ some c) := by
  rcases idxF_spec l c 0 (Int.le_refl _) with h | ⟨j, h1, h2, h3⟩
  · exact .inl h
  · exact .inr ⟨j, h1, by unfold idxC; rw [h2]; omega, h3⟩
theorem idxC_mem (l : List Cell) (c : Cell) : idxC l c ≥ 0 ↔ c ∈ l := by
  rcases idxC_spec l c with ⟨h1, h2⟩ | ⟨j, h1, h2, h3, _⟩
  · rw [h1]; constructor
    · intro h; omega
    · intro h; exact absurd h h2
  · rw [h2]; constructor
    · intro _; exact List.mem_of_getElem? h3
    · intro _; omega
theorem implIndex_ev (l : List Cell) (c : Cell) (hs : small l) : Ev (fun k => impl_Cell_32.f k l c.f0 c.f1) (idxC l c) := by
  unfold impl_Cell_32.f
  refine loop_list l (fun k i (_ : Unit) => impl_Cell_32.l0 k l (l.length : Int) i c.f0 c.f1) (fun pre suf _ => idxF suf c (pre.length : Int)) (fun _ _ => True) ?_ ?_ () trivial
  · intro _ _
    simp only [impl_Cell_32.l0, len_lt, if_false]
    exact Ev.now _
  · intro pre d suf _ hx _ ih
    simp only [impl_Cell_32.l0, pre_lt hx, pre_0, if_true, at_pre hx, pre_w hx hs, idxF]
    have e : (c.f0 == d.f0 && c.f1 == d.f1) = sameC d c := by
      rw [Bool.eq_iff_iff]
      simp only [sameC, Bool.and_eq_true, beq_iff_eq, decide_eq_true_eq]
      constructor <;> (rintro ⟨h, h'⟩; exact ⟨h.symm, h'.symm⟩)
    rw [e]
    refine Ev.if_ (fun _ => Ev.now _) (fun _ => Ev.of_eq (ih () trivial) ?_)
    simp
theorem implContains_ev (l : List Cell) (c : Cell) (hs : small l) : Ev (fun k => impl_Cell_20.f k l c.f0 c.f1) (decide (idxC l c ≥ 0)) := by
  unfold impl_Cell_20.f
  exact Ev.bind (implIndex_ev l c hs) (Ev.now _)
def hasB (l : List Cell) (q : Cell) : Bool := decide (idxC l q ≥ 0)
def termS (l : List Cell) (p : Cell) : Nat := termB ((nearL p).map (hasB l))
def cornR (l : List Cell) : Int × Int := if shapeB l = true then ((sumP (termS l) (ptsL l) : Int), 0) else (0, 1)
theorem addP_idx (l : List Cell) (p : Cell) : addP l p = if idxC l p < 0 then l ++ [p] else l := by
  unfold addP
  by_cases h : p ∈ l
  · rw [if_pos ((any_same l p).2 h), if_neg (by have := (idxC_mem l p).2 h; omega)]
  · rw [if_neg (fun h' => h ((any_same l p).1 h')), if_pos (by
      rcases idxC_spec l p with ⟨e, _⟩ | ⟨j, _, _, h3, _⟩
      · omega
      · exact absurd (List.mem_of_getElem? h3) h)]
theorem Ev_all {α β : Type} {g : α → Nat → Option β} {r : α → β} : ∀ (xs : List α), (∀ x ∈ xs, Ev (g x) (r x)) → ∃ K, ∀ k, K ≤ k → ∀ x ∈ xs, g x k = some (r x)
  | [], _ => ⟨0, fun _ _ x hx => by cases hx⟩
  | a :: xs, h => by
    obtain ⟨K1, h1⟩ := h a List.mem_cons_self
    obtain ⟨K2, h2⟩ := Ev_all xs fun x hx => h x (List.mem_cons_of_mem _ hx)
    refine ⟨max K1 K2, fun k hk x hx => ?_⟩
    rcases List.mem_cons.1 hx with rfl | hx
    · exact h1 k (by omega)
    · exact h2 k (by omega) x hx
theorem sumP_congr {f g : Cell → Nat} : ∀ (l : List Cell), (∀ p ∈ l, f p = g p) → sumP f l = sumP g l
  | [], _ => rfl
  | a :: r, h => by rw [sumP, sumP, h a List.mem_cons_self, sumP_congr r fun p hp => h p (List.mem_cons_of_mem _ hp)]
theorem wf64C {x : Int} (h : -9223372036854775808 ≤ x) (h' : x ≤ 9223372036854775807) : (Lit.int .i64 x).wf = true := by
  simp only [Lit.wf, IntKind.min, IntKind.max, IntKind.signed, IntKind.bits, Bool.and_eq_true, decide_eq_true_eq, if_true]
  omega
theorem implCorner9_ev (l : List Cell) (hs : small l) : Ev (fun k => impl_CornerCount.f k l) (cornR l) := by
  unfold impl_CornerCount.f cornR
  refine Ev.bind (implIsShape_ev l hs) (Ev.if_ (fun h => ?_) (fun _ => Ev.now _))
  obtain ⟨ho, _, _, hl⟩ := shapeB_iff.1 h
  obtain ⟨K, hK⟩ := Ev_all (g := fun (q : Cell) k => impl_Cell_20.f k l q.f0 q.f1) (r := hasB l) ((ptsL l).map nearL).flatten (fun q _ => implContains_ev l q hs)
  refine ⟨K, fun k hk => ?_⟩
  have hall : ∀ p ∈ ptsL l, ∀ q ∈ nearL p, impl_Cell_20.f k l q.f0 q.f1 = some (hasB l q) := fun p hp q hq => hK k hk q (List.mem_flatten.2 ⟨nearL p, List.mem_map.2 ⟨p, hp, rfl⟩, hq⟩)
  have hw : l.all wf9 = true := List.all_eq_true.2 fun c hc => by
    have := ho c hc
    unfold okC ok1 at this
    unfold wf9
    rw [wf64C (by omega) (by omega), wf64C (by omega) (by omega)]
    rfl
  refine (if_pos (⟨⟨by omega, hw⟩, List.all_eq_true.2 fun p hp => List.all_eq_true.2 fun q hq => by rw [hall p hp q hq]; rfl⟩ : _ ∧ _)).trans ?_
  rw [sumP_congr (g := termS l) (ptsL l) fun p hp => by
    unfold termP termS
    congr 1
    refine List.map_congr_left fun q hq => ?_
    unfold isIn
    rw [hall p hp q hq]
    cases hasB l q <;> rfl]
theorem corner_l1 (l : List Cell) (n i : Int) (y : List Cell) (hy : y.length = 4) {r : Int × Int} : ∀ (suf pre : List Cell) (pts : List Cell), y = pre ++ suf → pts.length + suf.length ≤ 1000000 →
    Ev (fun k => spec_CornerCount.l0 k l n (suf.foldl addP pts) (wrap64 (i + 1))) r → Ev (fun k => spec_CornerCount.l1 k l n pts i y (pre.length : Int)) r
  | [], pre, pts, hx, h1, hc => by
    refine Ev.succ ?_
    have hp := congrArg List.length hx
    simp only [List.length_append, List.length_nil] at hp
    simp only [spec_CornerCount.l1]
    exact Ev.neg (by omega) hc
  | d :: suf, pre, pts, hx, h1, hc => by
    refine Ev.succ ?_
    rw [List.length_cons] at h1
    have hp := pre_len hx
    have ih (q : List Cell) (hq : q.length + suf.length ≤ 1000000) := corner_l1 l n i y hy (r := r) suf (pre ++ [d]) q (by rw [hx]; simp) hq
    simp only [List.length_append, List.length_singleton, Int.natCast_add, Int.natCast_one] at ih
    simp only [spec_CornerCount.l1, pre_lt hx, pre_0, if_true, at_pre hx, pre_w hx (show small y by unfold small; omega)]
    refine Ev.pos (by omega) (Ev.bind (specIndex_ev pts d (by unfold small; omega)) ?_)
    rw [List.foldl_cons, addP_idx] at hc
    by_cases h : idxC pts d < 0
    · rw [if_pos h] at hc
      exact Ev.pos h (Ev.pos (by omega) (ih _ (by rw [List.length_append, List.length_singleton]; omega) hc))
    · rw [if_neg h] at hc
      exact Ev.neg h (ih _ (by omega) hc)
theorem rawL_cons (c : Cell) (l : List Cell) : rawL (c :: l) = cornL c ++ rawL l := rfl
theorem corner_l3 (l pts : List Cell) (hs : small l) (n i : Int) (hn : 0 ≤ n ∧ n ≤ 100000000) (y : List Cell) (hy : y.length = 4) {r : Int × Int} (hc : Ev (fun k => spec_CornerCount.l2 k l (n + (termB (y.map (hasB l)) : Nat)) pts (wrap64 (i + 1))) r) : ∀ (suf pre : List Cell), y = pre ++ suf →
    Ev (fun k => spec_CornerCount.l3 k l n pts i y (pre.map (hasB l)) (cntB (pre.map (hasB l)) : Int) (pre.length : Int)) r
  | [], pre, hx => by
    refine Ev.succ ?_
    rw [List.append_nil] at hx
    subst hx
    have hm : (y.map (hasB l)).length = 4 := by rw [List.length_map, hy]
    have hb := termB_le (y.map (hasB l))
    generalize y.map (hasB l) = bs at hc hm hb ⊢
    simp only [spec_CornerCount.l3]
    refine Ev.neg (by omega) ?_
    have key : ∀ z : Bool, z = decide (cntB bs = 1 ∨ cntB bs = 3) → Ev (fun k => spec_CornerCount.j4 k l n pts i bs (cntB bs : Int) z) r := by
      intro z hz
      refine Ev.succ ?_
      simp only [spec_CornerCount.j4]
      unfold termB at hc
      by_cases h1 : cntB bs = 1 ∨ cntB bs = 3
      · rw [if_pos h1, if_neg (fun h => by omega)] at hc
        rw [decide_eq_true h1] at hz
        refine Ev.pos hz ?_
        rw [w64 (by omega) (by omega)]
        exact hc
      · rw [if_neg h1] at hc
        rw [decide_eq_false h1] at hz
        refine Ev.neg (by rw [hz]; simp) ?_
        by_cases h2 : cntB bs = 2
        · refine Ev.pos (by omega) (Ev.pos (by omega) (Ev.pos (by omega) ?_))
          have e0 : rdOf false bs 0 = bs.getD 0 false := rfl
          have e2 : rdOf false bs 2 = bs.getD 2 false := rfl
          rw [e0, e2]
          by_cases h3 : (bs.getD 0 false == bs.getD 2 false) = true
          · rw [if_pos ⟨h2, h3⟩] at hc
            refine Ev.pos h3 ?_
            rw [w64 (by omega) (by omega)]
            exact hc
          · rw [if_neg (fun h => h3 h.2)] at hc
            refine Ev.neg h3 ?_
            simpa using hc
        · rw [if_neg (fun h => h2 h.1)] at hc
          refine Ev.neg (by omega) ?_
          simpa using hc
    by_cases h1 : (cntB bs : Int) = 1
    · exact Ev.pos h1 (key true (by rw [decide_eq_true]; omega))
    · refine Ev.neg h1 (key _ ?_)
      have e : ((cntB bs : Int) == 3) = decide (cntB bs = 3) := by
        by_cases h3 : cntB bs = 3
        · rw [decide_eq_true h3, h3]; rfl
        · rw [decide_eq_false h3, beq_eq_false_iff_ne]; omega
      rw [e]
      congr 1
      refine propext ⟨fun h => .inr h, fun h => h.elim (fun h' => absurd (by omega) h1) id⟩
  | d :: suf, pre, hx => by
    refine Ev.succ ?_
    have hp := pre_len hx
    have ih := corner_l3 l pts hs n i hn y hy hc suf (pre ++ [d]) (by rw [hx]; simp)
    rw [List.map_append, List.map_singleton, cntB_snoc] at ih
    simp only [List.length_append, List.length_singleton, Int.natCast_add, Int.natCast_one] at ih
    simp only [spec_CornerCount.l3, pre_lt hx, pre_0, if_true, at_pre hx, pre_w hx (show small y by unfold small; omega)]
    refine Ev.pos (by omega) (Ev.bind (specIndex_ev l d hs) (Ev.pos (by rw [List.length_map]; omega) (Ev.bind0 rfl ?_)))
    have hcl := cntB_le (pre.map (hasB l))
    rw [List.length_map] at hcl
    have e : decide (idxC l d ≥ 0) = hasB l d := rfl
    rw [e]
    by_cases h : idxC l d ≥ 0
    · refine Ev.pos h ?_
      rw [w64 (by omega) (by omega)]
      rw [if_pos (show hasB l d = true from decide_eq_true h)] at ih
      exact ih
    · refine Ev.neg h ?_
      rw [if_neg (show ¬ hasB l d = true by unfold hasB; simpa using h)] at ih
      simpa using ih
theorem corner_l2 (l : List Cell) (hs : small l) (pts : List Cell) (hp : pts.length ≤ 1000000) : ∀ (suf pre : List Cell) (n : Nat), pts = pre ++ suf → n ≤ 2 * pre.length →
    Ev (fun k => spec_CornerCount.l2 k l (n : Int) pts (pre.length : Int)) (((n + sumP (termS l) suf : Nat) : Int), 0)
  | [], pre, n, hx, hn => by
    refine Ev.succ ?_
    have h9 := congrArg List.length hx
    simp only [List.length_append, List.length_nil] at h9
    simp only [spec_CornerCount.l2]
    exact Ev.neg (by omega) (Ev.now _)
  | d :: suf, pre, n, hx, hn => by
    refine Ev.succ ?_
    have hl := pre_len hx
    simp only [spec_CornerCount.l2, pre_lt hx, pre_0, if_true, at_pre hx]
    have hb := termB_le ((nearL d).map (hasB l))
    have ih := corner_l2 l hs pts hp suf (pre ++ [d]) (n + termS l d) (by rw [hx]; simp) (by unfold termS; rw [List.length_append, List.length_singleton]; omega)
    simp only [List.length_append, List.length_singleton, Int.natCast_add, Int.natCast_one] at ih
    refine corner_l3 l pts hs (n : Int) _ (by omega) (nearL d) rfl ?_ (nearL d) [] rfl
    rw [pre_w hx (by unfold small; omega)]
    refine Ev.of_eq ih ?_
    rw [sumP]
    congr 1
    omega
theorem specCorner_ev (l : List Cell) (hs : small l) : Ev (fun k => spec_CornerCount.f k l) (cornR l) := by
  unfold spec_CornerCount.f cornR
  refine Ev.bind (specIsShape_ev l hs) (Ev.if_ (fun h => ?_) (fun _ => Ev.now _))
  have hl := (shapeB_iff.1 h).2.2.2
  have key : ∀ (suf pre : List Cell) (pts : List Cell), l = pre ++ suf → pts.length ≤ 4 * pre.length → Ev (fun k => spec_CornerCount.l2 k l 0 ((rawL suf).foldl addP pts) 0) (((sumP (termS l) (ptsL l) : Nat) : Int), 0) →
      Ev (fun k => spec_CornerCount.l0 k l 0 pts (pre.length : Int)) (((sumP (termS l) (ptsL l) : Nat) : Int), 0) := by
    intro suf
    induction suf with
    | nil =>
      intro pre pts hx h1 hc
      refine Ev.succ ?_
      have h9 := congrArg List.length hx
      simp only [List.length_append, List.length_nil] at h9
      simp only [spec_CornerCount.l0]
      exact Ev.neg (by omega) hc
    | cons d suf ih =>
      intro pre pts hx h1 hc
      refine Ev.succ ?_
      have hp := pre_len hx
      simp only [spec_CornerCount.l0, pre_lt hx, pre_0, if_true, at_pre hx]
      refine corner_l1 l 0 _ (cornL d) rfl (cornL d) [] pts rfl (by show pts.length + 4 ≤ _; omega) ?_
      have := ih (pre ++ [d]) ((cornL d).foldl addP pts) (by rw [hx]; simp) (by have h2 := foldP_len (cornL d) pts; have h3 : (cornL d).length = 4 := rfl; rw [List.length_append, List.length_singleton]; omega) (by rw [rawL_cons, List.foldl_append] at hc; exact hc)
      simp only [List.length_append, List.length_singleton, Int.natCast_add, Int.natCast_one] at this
      rw [pre_w hx hs]
      exact this
  refine key l [] [] rfl (Nat.zero_le _) ?_
  have h2 := corner_l2 l hs (ptsL l) (by have := ptsL_len l; omega) (ptsL l) [] 0 rfl (Nat.zero_le _)
  rw [Nat.zero_add] at h2
  exact h2
end Go.Proofs.Ytpoiiaephcddoaa.L
end
section
namespace Go.Proofs.Ytpoiiaephcddoaa.Pure
open Go.RowKit Go.Proofs.YtpoiiaephcddoaaW.PrintWords Go.Proofs.Ytpoiiaephcddoaa.F Go.Proofs.Ytpoiiaephcddoaa.L
set_option linter.unusedVariables false
theorem FnExactCornerCount (l : List LCell) {V : LCell → Prop} (hv : l.length ≤ 9223372036854775807 ∧ ∀ a ∈ l, V a) : ∃ k, laws_FnExactCornerCount.f k l = some true := by
  refine Ev.rounds ?_
  unfold laws_FnExactCornerCount.f
  rw [szCellS_eq l 1048576 (by decide) (by decide) hv.1]
  simp only [Option.bind_some]
  by_cases h : (1048576 : Int) - (l.length : Int) < 0
  · rw [if_pos h]; exact Ev.pos (by decide) (Ev.now _)
  · rw [if_neg h]
    refine Ev.neg h ?_
    have la : l.length ≤ 1048576 := by omega
    have hs : small (l.map cellOf) := by unfold small; rw [List.length_map]; omega
    refine Ev.bind (toCellS_ev l la) (Ev.bind (specCorner_ev _ hs) (Ev.bind (toCellS_ev l la) (Ev.bind (implCorner9_ev _ hs) (Ev.pos rfl ?_))))
    refine Ev.step (fun k => laws_FnExactCornerCount.j0.eq_2 _ _ _ _) (Ev.neg (by simp) ?_)
    exact Ev.bind (toCellS_ev l la) (Ev.bind (eqCellS_ev _ hs) (Ev.pos rfl (Ev.now _)))
end Go.Proofs.Ytpoiiaephcddoaa.Pure
end
