/- The row of FnHexForms, with what it needs: text 10 of 11. -/
import Derived.Test.YtlnliahadgmbcaaKHF8
set_option maxHeartbeats 8000000
set_option maxRecDepth 100000
section
namespace Go.Proofs.Ytlnliahadgmbcaa.L
open Go.RowKit Go.Proofs.YtlnliahadgmbcaaW.PrintWords Go.Proofs.YtlnliahadgmbcaaW.PrintLast Go.Proofs.YtlnliahadgmbcaaW.PrintMore Go.Proofs.Ytlnliahadgmbcaa.F
set_option linter.unusedVariables false
set_option linter.unusedSimpArgs false
theorem specCompare_ev (a b : List Cell) (ha : small a) : Ev (fun k => spec_CompareShapes.f k a b) (cmpS a b) := by
  unfold spec_CompareShapes.f cmpS
  by_cases hl : a.length = b.length
  · rw [if_pos hl]
    refine Ev.pos (by omega) ?_
    refine loop_list a (fun k i (_ : Unit) => spec_CompareShapes.l0 k a b i) (fun pre suf _ => cmpL suf (b.drop pre.length)) (fun _ _ => True) ?_ ?_ () trivial
    · intro _ _
      simp only [spec_CompareShapes.l0, len_lt, if_false]
      exact Ev.of_eq (Ev.now _) (by simp [cmpL])
    · intro pre c suf _ hx _ ih
      have hp := pre_len hx
      have hpb : pre.length < b.length := by omega
      have hlt : ((pre.length : Int) < (b.length : Int)) = True := by simp; omega
      have eb : rd_T59 b (pre.length : Int) = b[pre.length] := by
        unfold rd_T59
        rw [List.getD_eq_getElem?_getD, Int.toNat_natCast, List.getElem?_eq_getElem hpb]
        rfl
      simp only [spec_CompareShapes.l0, pre_lt hx, pre_0, if_true, hlt, at_pre hx, pre_w hx ha, eb, l02Less_eq, Option.bind_some]
      rw [List.drop_eq_getElem_cons hpb, cmpL]
      have hih := ih () trivial
      rw [List.length_append, List.length_singleton] at hih
      generalize b.drop (pre.length + 1) = R at hih ⊢
      generalize b[pre.length] = d at hih ⊢
      by_cases h1 : ltC c d
      · have h1' : c.f1 < d.f1 ∨ c.f1 = d.f1 ∧ c.f0 < d.f0 := h1
        rw [if_pos h1]
        exact Ev.pos (by simpa using h1') (Ev.now _)
      · have h1' : ¬ (c.f1 < d.f1 ∨ c.f1 = d.f1 ∧ c.f0 < d.f0) := h1
        rw [if_neg h1]
        refine Ev.neg (by simpa using h1') ?_
        by_cases h2 : ltC d c
        · have h2' : d.f1 < c.f1 ∨ d.f1 = c.f1 ∧ d.f0 < c.f0 := h2
          rw [if_pos h2]
          exact Ev.pos (by simpa using h2') (Ev.now _)
        · have h2' : ¬ (d.f1 < c.f1 ∨ d.f1 = c.f1 ∧ d.f0 < c.f0) := h2
          rw [if_neg h2]
          exact Ev.neg (by simpa using h2') hih
  · rw [if_neg hl]
    refine Ev.neg (by omega) ?_
    by_cases h : a.length < b.length
    · rw [if_pos h]; exact Ev.pos (by omega) (Ev.now _)
    · rw [if_neg h]; exact Ev.neg (by omega) (Ev.now _)
theorem cmpC_val (c d : Cell) : cmpC c d = if ltC c d then -1 else if ltC d c then 1 else 0 := by
  unfold cmpC cmpI ltC
  repeat' split
  all_goals omega
theorem implCompareS_ev (a b : List Cell) (ha : small a) : Ev (fun k => impl_compareShapes.f k a b) (cmpS a b) := by
  unfold impl_compareShapes.f cmpS
  by_cases hl : a.length = b.length
  · rw [if_pos hl]
    refine Ev.pos (by omega) (Ev.bind ?_ (Ev.now _))
    unfold impl_Cell_88__impl_compareCells.f
    refine loop_list a (fun k i (_ : Unit) => impl_Cell_88__impl_compareCells.l0 k a b a (a.length : Int) i) (fun pre suf _ => cmpL suf (b.drop pre.length)) (fun _ _ => True) ?_ ?_ () trivial
    · intro _ _
      simp only [impl_Cell_88__impl_compareCells.l0, len_lt, if_false]
      exact Ev.neg (by omega) (Ev.of_eq (Ev.now _) (by simp [cmpL]))
    · intro pre c suf _ hx _ ih
      have hp := pre_len hx
      have hpb : pre.length < b.length := by omega
      have eb : rd_T59 b (pre.length : Int) = b[pre.length] := by
        unfold rd_T59
        rw [List.getD_eq_getElem?_getD, Int.toNat_natCast, List.getElem?_eq_getElem hpb]
        rfl
      simp only [impl_Cell_88__impl_compareCells.l0, pre_lt hx, pre_0, if_true, at_pre hx, pre_w hx ha, eb, compareCells_eq, Option.bind_some]
      refine Ev.neg (by omega) (Ev.pos (by omega) ?_)
      rw [List.drop_eq_getElem_cons hpb, cmpL]
      have hih := ih () trivial
      rw [List.length_append, List.length_singleton] at hih
      generalize b.drop (pre.length + 1) = R at hih ⊢
      generalize b[pre.length] = d at hih ⊢
      have hv := cmpC_val c d
      by_cases h1 : ltC c d
      · rw [if_pos h1] at hv ⊢
        exact Ev.neg (by omega) (Ev.of_eq (Ev.now _) hv)
      · rw [if_neg h1] at hv ⊢
        by_cases h2 : ltC d c
        · rw [if_pos h2] at hv ⊢
          exact Ev.neg (by omega) (Ev.of_eq (Ev.now _) hv)
        · rw [if_neg h2] at hv ⊢
          exact Ev.pos hv hih
  · rw [if_neg hl]
    refine Ev.neg (by omega) ?_
    by_cases h : a.length < b.length
    · rw [if_pos h]; exact Ev.pos (by omega) (Ev.now _)
    · rw [if_neg h]; exact Ev.neg (by omega) (Ev.now _)
def minS : List Cell → List (List Cell) → List Cell
  | m, [] => m
  | m, x :: r => minS (if cmpS x m < 0 then x else m) r
theorem at_preL2 {xs pre suf : List (List Cell)} {c : List Cell} (h : xs = pre ++ c :: suf) : rd_L2 xs (pre.length : Int) = c := by
  subst h; exact getD_at pre suf c _
theorem implMin_ev (c : List Cell) (r : List (List Cell)) (hs : small (c :: r)) (hx_ : ∀ x ∈ c :: r, small x) : Ev (fun k => impl_leastOf.f k (c :: r)) (minS c r) := by
  unfold impl_leastOf.f
  refine Ev.bind ?_ (Ev.now _)
  unfold impl_Cell_100__impl_compareShapes.f
  refine Ev.neg (by rw [List.length_cons]; omega) (Ev.pos (by rw [List.length_cons]; omega) ?_)
  have h1 : rd_L2 (c :: r) 0 = c := rfl
  rw [h1]
  refine loop_tail c r (fun k i (s : List Cell) => impl_Cell_100__impl_compareShapes.l0 k (c :: r) s i) (fun _ suf s => minS s suf) (fun _ s => True) ?_ ?_ c trivial
  · rintro s _
    simp only [impl_Cell_100__impl_compareShapes.l0, len_lt, if_false]
    exact Ev.now _
  · rintro pre d suf s hx _ _ ih
    simp only [impl_Cell_100__impl_compareShapes.l0, pre_lt hx, pre_0, if_true, at_preL2 hx, pre_w hx hs]
    refine Ev.bind (implCompareS_ev d s (hx_ d (by rw [hx]; simp))) ?_
    unfold minS
    by_cases h : cmpS d s < 0
    · rw [if_pos h]; exact Ev.pos h (ih d trivial)
    · rw [if_neg h]; exact Ev.neg h (ih s trivial)
end Go.Proofs.Ytlnliahadgmbcaa.L
end
section
namespace Go.Proofs.Ytlnliahadgmbcaa.F
open Go.RowKit Go.Proofs.YtlnliahadgmbcaaW.PrintWords Go.Proofs.YtlnliahadgmbcaaW.PrintLast Go.Proofs.YtlnliahadgmbcaaW.PrintMore
attribute [local go_sem] max2_int min2_int max_two min_two max_three min_three max_four min_four
set_option linter.unusedVariables false
set_option linter.unusedSimpArgs false
attribute [local go_sem high] eqA59
open Go.Sort
theorem take_snoc_get {β : Type} (l : List β) (m : Nat) (h : m < l.length) : l.take (m + 1) = l.take m ++ [l[m]] := by
  rw [List.take_succ_eq_append_getElem h]
section
variable {α β : Type} [Inhabited α] [DecidableEq β] {key : α → β} {d dk : Array α} {m kk : Nat}
omit [Inhabited α] in
theorem take_set {l : List α} {k : Nat} {x : α} (h : k < l.length) : (l.set k x).take (k + 1) = l.take k ++ [x] := by
  rw [take_snoc_get _ k (by simpa using h), List.take_set_of_le (Nat.le_refl _)]
  simp
end
open Go.Sort
instance instDecC : DecidableEq S59 := fun a b => if h : a.f0 = b.f0 ∧ a.f1 = b.f1 then .isTrue (by obtain ⟨a0, a1⟩ := a; obtain ⟨b0, b1⟩ := b; simp_all) else .isFalse (fun e => h (by rw [e]; exact ⟨rfl, rfl⟩))
open Go.Sort
open Go.Sort
end Go.Proofs.Ytlnliahadgmbcaa.F
end
section
namespace Go.Proofs.Ytlnliahadgmbcaa.L
open Go.RowKit Go.Proofs.YtlnliahadgmbcaaW.PrintWords Go.Proofs.YtlnliahadgmbcaaW.PrintLast Go.Proofs.YtlnliahadgmbcaaW.PrintMore Go.Proofs.Ytlnliahadgmbcaa.F
set_option linter.unusedVariables false
set_option linter.unusedSimpArgs false
theorem minS_mem : ∀ (r : List (List Cell)) (m : List Cell), minS m r ∈ m :: r
  | [], m => by simp [minS]
  | x :: r, m => by
    unfold minS
    have h := minS_mem r (if cmpS x m < 0 then x else m)
    rcases List.mem_cons.1 h with h | h
    · rw [h]
      split
      · simp
      · simp
    · exact List.mem_cons_of_mem _ (List.mem_cons_of_mem _ h)
def minA : List (List Cell) → List Cell
  | [] => []
  | c :: r => minS c r
theorem specLeastS_ev (c : List Cell) (r : List (List Cell)) (hs : small (c :: r)) (hx_ : ∀ x ∈ c :: r, small x) : Ev (fun k => spec_l07Least.f k (c :: r)) (minS c r) := by
  unfold spec_l07Least.f
  refine Ev.pos (by rw [List.length_cons]; omega) ?_
  have h1 : rd_L2 (c :: r) 0 = c := rfl
  rw [h1]
  refine loop_tail c r (fun k i (s : List Cell) => spec_l07Least.l0 k (c :: r) s i) (fun _ suf s => minS s suf) (fun _ s => True) ?_ ?_ c trivial
  · rintro s _
    simp only [spec_l07Least.l0, len_lt, if_false]
    exact Ev.now _
  · rintro pre d suf s hx _ _ ih
    simp only [spec_l07Least.l0, pre_lt hx, pre_0, if_true, at_preL2 hx, pre_w hx hs]
    refine Ev.bind (specCompare_ev d s (hx_ d (by rw [hx]; simp))) ?_
    unfold minS
    by_cases h : cmpS d s < 0
    · rw [if_pos h]; exact Ev.pos h (ih d trivial)
    · rw [if_neg h]; exact Ev.neg h (ih s trivial)
def toP (c : Cell) : V2 := (c.f0, c.f1)
theorem toP_inj {c d : Cell} (h : toP c = toP d) : c = d := by
  obtain ⟨a, b⟩ := c
  obtain ⟨a', b'⟩ := d
  simpa [toP] using h
theorem cellP_eq {c d : Cell} : c = d ↔ c.f0 = d.f0 ∧ c.f1 = d.f1 := by
  obtain ⟨a, b⟩ := c
  obtain ⟨a', b'⟩ := d
  simp
def boxP (m : Int) (p : V2) : Prop := (-m ≤ p.1 ∧ p.1 ≤ m) ∧ (-m ≤ p.2 ∧ p.2 ≤ m)
theorem rot6_app : ∀ (n : Nat) (m : Int) (p : V2), m * 2 ^ n ≤ 1000000 → boxP m p → rot6 n p = app2 (pow2 mR n) p ∧ boxP (m * 2 ^ n) (rot6 n p)
  | 0, m, p, hm, h => ⟨(app_one2 p).symm, by rw [Int.pow_zero, Int.mul_one]; exact h⟩
  | n + 1, m, p, hm, h => by
    have hm0 : 0 ≤ m := by unfold boxP at h; omega
    have hp : (2 : Int) ^ (n + 1) = 2 * 2 ^ n := by rw [Int.pow_succ]; omega
    have h1 : 0 < (2 : Int) ^ n := Int.pow_pos (by omega)
    have hm2 : m * 2 ^ (n + 1) = 2 * m * 2 ^ n := by rw [hp, Int.mul_comm 2 m, Int.mul_assoc]
    have hm3 : 2 * m ≤ 2 * m * 2 ^ n := by
      have := Int.mul_le_mul_of_nonneg_left (show (1 : Int) ≤ 2 ^ n by omega) (show 0 ≤ 2 * m by omega)
      omega
    unfold boxP at h
    have e1 : wrap64 (-p.2) = -p.2 := w64 (by omega) (by omega)
    have e2 : wrap64 (p.1 + p.2) = p.1 + p.2 := w64 (by omega) (by omega)
    obtain ⟨h3, h4⟩ := rot6_app n (2 * m) (wrap64 (-p.2), wrap64 (p.1 + p.2)) (by omega) (by rw [e1, e2]; unfold boxP; simp only; omega)
    rw [hm2]
    refine ⟨?_, h4⟩
    show rot6 n (wrap64 (-p.2), wrap64 (p.1 + p.2)) = app2 (mul2 (pow2 mR n) mR) p
    rw [h3, app_mul2, e1, e2, app_mR]
theorem latD_app {c : Cell} (h : boxP 1000 (toP c)) (t : Nat) : toP (latD (t : Int) c) = app2 (mat2 t) (toP c) := by
  show latC c (t : Int) = _
  unfold latC mat2
  have e : ((t : Int) % 6).toNat = t % 6 := by omega
  have hb : (1000 : Int) * 2 ^ (t % 6) ≤ 1000000 := by
    have e : t % 6 = 0 ∨ t % 6 = 1 ∨ t % 6 = 2 ∨ t % 6 = 3 ∨ t % 6 = 4 ∨ t % 6 = 5 := by omega
    rcases e with e | e | e | e | e | e <;> rw [e] <;> decide
  rw [e, app_mul2]
  by_cases h6 : t ≥ 6
  · rw [if_pos (by omega), if_pos h6, app_mS]
    exact (rot6_app (t % 6) 1000 (c.f1, c.f0) hb ⟨h.2, h.1⟩).1
  · rw [if_neg (by omega), if_neg h6, app_one2]
    exact (rot6_app (t % 6) 1000 (c.f0, c.f1) hb h).1
def shiftC (v : V2) (c : Cell) : Cell := ⟨c.f0 + v.1, c.f1 + v.2⟩
theorem shiftC_P (v : V2) (c : Cell) : toP (shiftC v c) = add2 (toP c) v := rfl
theorem shiftC_lt (v : V2) (a b : Cell) : ltC (shiftC v a) (shiftC v b) ↔ ltC a b := by
  unfold ltC shiftC
  simp only
  omega
theorem leastC_shift {l : List Cell} (h : l ≠ []) (v : V2) : leastOf (l.map (shiftC v)) = add2 (leastOf l) v := by
  obtain ⟨⟨c, hc, e1⟩, ⟨d, hd, e2⟩⟩ := least_mem h
  obtain ⟨⟨c', hc', e1'⟩, ⟨d', hd', e2'⟩⟩ := least_mem (l := l.map (shiftC v)) (by simpa using h)
  obtain ⟨x, hx, rfl⟩ := List.mem_map.1 hc'
  obtain ⟨y, hy, rfl⟩ := List.mem_map.1 hd'
  have a1 := (least_le hx).1
  have a2 := (least_le hy).2
  have b1 := (least_le (List.mem_map.2 ⟨c, hc, rfl⟩ : shiftC v c ∈ l.map (shiftC v))).1
  have b2 := (least_le (List.mem_map.2 ⟨d, hd, rfl⟩ : shiftC v d ∈ l.map (shiftC v))).2
  unfold shiftC at *
  unfold add2
  simp only at *
  exact Prod.ext (by simp only; omega) (by simp only; omega)
theorem sortC_shift (l : List Cell) (v : V2) {l1 : List Cell} (hp : l1.Perm (l.map (shiftC v))) : sortC l1 = (sortC l).map (shiftC v) := by
  refine sortC_eq (((sortC_perm l).map _).trans hp.symm) ?_
  rw [List.pairwise_map]
  exact (sortC_sorted l).imp fun hab => fun hl => hab ((shiftC_lt v _ _).1 hl)
theorem sortC_ne {l : List Cell} (h : l ≠ []) : sortC l ≠ [] := by
  intro e2
  have := congrArg List.length e2
  rw [sortC_len] at this
  exact h (List.length_eq_zero_iff.1 this)
structure NF (nf : List Cell → List Cell) (okV : V2 → Prop) : Prop where
  inv : ∀ (l : List Cell) (v : V2), l ≠ [] → okV v → nf (l.map (shiftC v)) = nf l
  val : ∀ (l : List Cell), l ≠ [] → (∀ c ∈ l, boxP 10000 (toP c)) → ∃ v, okV v ∧ boxP 20000 v ∧ nf l = l.map (shiftC v)
  lin : ∀ (t : Nat) (v : V2), t < 12 → okV v → okV (app2 (mat2 t) v)
theorem nf_perm {nf : List Cell → List Cell} {okV : V2 → Prop} (hn : NF nf okV) {l1 l2 : List Cell} {v : V2} (hv : okV v) (hp : l1.Perm (l2.map (shiftC v))) (h : l2 ≠ []) : nf (sortC l1) = nf (sortC l2) := by
  rw [sortC_shift l2 v hp]
  exact hn.inv _ v (sortC_ne h) hv
theorem normalL_nf : NF normalL (fun _ => True) where
  inv l v h _ := by
    unfold normalL moveL
    rw [leastC_shift h, List.map_map]
    refine List.map_congr_left fun c _ => ?_
    simp only [Function.comp, shiftC, add2, S59.mk.injEq]
    constructor <;> (unfold wrap64; omega)
  val l h hb := by
    obtain ⟨⟨c, hc, e1⟩, ⟨d, hd, e2⟩⟩ := least_mem h
    have b1 := hb c hc
    have b2 := hb d hd
    unfold boxP toP at b1 b2
    simp only at b1 b2
    refine ⟨(-(leastOf l).1, -(leastOf l).2), trivial, by unfold boxP; simp only; omega, ?_⟩
    unfold normalL moveL
    refine List.map_congr_left fun x hx => ?_
    have b3 := hb x hx
    unfold boxP toP at b3
    simp only at b3
    simp only [shiftC, S59.mk.injEq]
    rw [w64 (n := -(leastOf l).1) (by omega) (by omega), w64 (n := -(leastOf l).2) (by omega) (by omega), w64 (by omega) (by omega), w64 (by omega) (by omega)]
    exact ⟨rfl, rfl⟩
  lin _ _ _ _ := trivial
structure MoveC (l x : List Cell) (A : M2) (w : V2) (φ : Cell → Cell) : Prop where
  val : ∀ c ∈ l, toP (φ c) = add2 (app2 A (toP c)) w
  perm : x.Perm (l.map φ)
theorem shape_box {l : List Cell} (h : shapeB l = true) (c : Cell) (hc : c ∈ l) : boxP 100 (toP c) := by
  have := (shapeB_iff.1 h).1 c hc
  unfold okC ok1 at this
  unfold boxP toP
  simp only; omega
theorem box_le {m n : Int} {p : V2} (h : boxP m p) (hn : m ≤ n) : boxP n p := by unfold boxP at *; omega
theorem lat_box {c : Cell} (h : boxP 100 (toP c)) (t : Nat) : boxP 10000 (toP (latD (t : Int) c)) := by
  show boxP 10000 (latC c (t : Int))
  unfold latC
  have e : ((t : Int) % 6).toNat = t % 6 := by omega
  rw [e]
  have he : t % 6 = 0 ∨ t % 6 = 1 ∨ t % 6 = 2 ∨ t % 6 = 3 ∨ t % 6 = 4 ∨ t % 6 = 5 := by omega
  have key (p : V2) (hp : boxP 100 p) : boxP 10000 (rot6 (t % 6) p) := by
    have hb : (100 : Int) * 2 ^ (t % 6) ≤ 10000 := by rcases he with e | e | e | e | e | e <;> rw [e] <;> decide
    exact box_le (rot6_app (t % 6) 100 p (by omega) hp).2 hb
  split
  · exact key _ ⟨h.2, h.1⟩
  · exact key _ h
theorem lform_move {nf : List Cell → List Cell} {okV : V2 → Prop} (hn : NF nf okV) {l : List Cell} (h : shapeB l = true) (t : Nat) :
    ∃ w φ, okV w ∧ MoveC l (nf (latL l (t : Int))) (mat2 t) w φ ∧ ∀ c, φ c = shiftC w (latD (t : Int) c) := by
  have hne : l.map (latD (t : Int)) ≠ [] := by simpa using shape_ne h
  obtain ⟨w, hw, _, e⟩ := hn.val (latL l (t : Int)) (sortC_ne hne) (fun c hc => by
    unfold latL at hc
    rw [sortC_mem] at hc
    obtain ⟨d, hd, rfl⟩ := List.mem_map.1 hc
    exact lat_box (shape_box h d hd) t)
  refine ⟨w, fun c => shiftC w (latD (t : Int) c), hw, ⟨fun c hc => ?_, ?_⟩, fun _ => rfl⟩
  · rw [shiftC_P, latD_app (box_le (shape_box h c hc) (by omega))]
  · rw [e]
    refine ((sortC_perm _).map _).trans ?_
    rw [List.map_map]
    exact List.Perm.refl _
theorem lform_form {nf : List Cell → List Cell} {okV : V2 → Prop} (hn : NF nf okV) {l : List Cell} (h : shapeB l = true) {t s u : Nat} (hs : s < 12) (hx : shapeB (nf (latL l (t : Int))) = true) (e : mul2 (mat2 s) (mat2 t) = mat2 u) :
    nf (latL (nf (latL l (t : Int))) (s : Int)) = nf (latL l (u : Int)) := by
  obtain ⟨w, φ, hw, hm, hφ⟩ := lform_move hn h t
  refine nf_perm hn (v := app2 (mat2 s) w) (hn.lin s w hs hw) ?_ (by simpa using shape_ne h)
  refine (hm.perm.map (latD (s : Int))).trans ?_
  rw [List.map_map, List.map_map]
  refine List.Perm.of_eq (List.map_congr_left fun c hc => toP_inj ?_)
  have hb := shape_box hx (φ c) (hm.perm.mem_iff.2 (List.mem_map.2 ⟨c, hc, rfl⟩))
  simp only [Function.comp]
  rw [latD_app (box_le hb (by omega)), hm.val c hc, shiftC_P, latD_app (box_le (shape_box h c hc) (by omega)), app_add2, ← app_mul2, e]
theorem shape_nodup {l : List Cell} (h : shapeB l = true) : l.Nodup := (shapeB_iff.1 h).2.1.imp fun {a b} hab e => by
  subst e
  unfold ltC at hab
  omega
theorem MoveC.inj {l x : List Cell} {A : M2} {w : V2} {φ : Cell → Cell} (h : MoveC l x A w φ) (hA : A ∈ mats2) : ∀ c ∈ l, ∀ d ∈ l, φ c = φ d → c = d := fun c hc d hd e => by
  have := congrArg toP e
  rw [h.val c hc, h.val d hd] at this
  refine toP_inj (mats2_inj hA ?_)
  unfold add2 at this
  simp only [Prod.mk.injEq] at this
  exact Prod.ext (by omega) (by omega)
theorem MoveC.mem {l x : List Cell} {A : M2} {w : V2} {φ : Cell → Cell} (h : MoveC l x A w φ) (y : Cell) : y ∈ x ↔ ∃ c ∈ l, φ c = y := by
  rw [h.perm.mem_iff, List.mem_map]
end Go.Proofs.Ytlnliahadgmbcaa.L
end
section
namespace Go.Proofs.Ytlnliahadgmbcaa.L
set_option linter.unusedVariables false
section
variable {β : Type} [DecidableEq β]
def distF (F : Nat → β) : Nat → List β
  | 0 => []
  | n + 1 => if F n ∈ distF F n then distF F n else distF F n ++ [F n]
theorem distF_mem (F : Nat → β) : ∀ (n : Nat) (x : β), x ∈ distF F n ↔ ∃ j, j < n ∧ F j = x
  | 0, x => by simp [distF]
  | n + 1, x => by
    unfold distF
    have ih := distF_mem F n
    split
    · rename_i h
      rw [ih x]
      constructor
      · rintro ⟨j, hj, e⟩; exact ⟨j, by omega, e⟩
      · rintro ⟨j, hj, e⟩
        by_cases hjn : j = n
        · subst hjn; subst e; exact (ih _).1 h
        · exact ⟨j, by omega, e⟩
    · rw [List.mem_append, ih x, List.mem_singleton]
      constructor
      · rintro (⟨j, hj, e⟩ | e)
        · exact ⟨j, by omega, e⟩
        · exact ⟨n, by omega, e.symm⟩
      · rintro ⟨j, hj, e⟩
        by_cases hjn : j = n
        · subst hjn; exact .inr e.symm
        · exact .inl ⟨j, by omega, e⟩
theorem distF_nodup (F : Nat → β) : ∀ n : Nat, (distF F n).Nodup
  | 0 => List.nodup_nil
  | n + 1 => by
    unfold distF
    split
    · exact distF_nodup F n
    · rename_i h
      rw [List.nodup_append]
      refine ⟨distF_nodup F n, by simp, fun a ha b hb e => ?_⟩
      simp at hb
      exact h (hb ▸ e ▸ ha)
theorem distF_len (F : Nat → β) : ∀ n : Nat, (distF F n).length ≤ n
  | 0 => Nat.le_refl _
  | n + 1 => by
    have := distF_len F n
    unfold distF
    split
    · omega
    · rw [List.length_append, List.length_singleton]; omega
theorem sumI_add {α : Type} (f g : α → Int) : ∀ l : List α, sumI (fun x => f x + g x) l = sumI f l + sumI g l
  | [] => rfl
  | a :: r => by simp only [sumI, sumI_add f g r]; omega
theorem sumI_one {y : β} : ∀ l : List β, l.Nodup → sumI (fun x => if y = x then 1 else 0) l = if y ∈ l then 1 else 0
  | [], _ => rfl
  | a :: r, hn => by
    obtain ⟨h1, h2⟩ := List.nodup_cons.1 hn
    rw [sumI, sumI_one r h2]
    by_cases e : y = a
    · subst e
      simp [h1]
    · simp [e]
theorem sumI_const {α : Type} (m : Int) (f : α → Int) : ∀ l : List α, (∀ x ∈ l, f x = m) → sumI f l = (l.length : Int) * m
  | [], _ => by simp [sumI]
  | a :: r, h => by
    rw [sumI, h a List.mem_cons_self, sumI_const m f r fun x hx => h x (List.mem_cons_of_mem _ hx), List.length_cons]
    have : ((r.length + 1 : Nat) : Int) * m = (r.length : Int) * m + m := by rw [Int.natCast_add, Int.add_mul]; omega
    omega
theorem class_sum {α : Type} (F : α → β) (D : List β) (hn : D.Nodup) : ∀ L : List α, (∀ u ∈ L, F u ∈ D) → sumI (fun x => ((L.countP fun u => decide (F u = x) : Nat) : Int)) D = (L.length : Int)
  | [], _ => by
    rw [sumI_const 0 _ D fun x _ => by simp]
    simp
  | a :: r, h => by
    have ih := class_sum F D hn r fun u hu => h u (List.mem_cons_of_mem _ hu)
    have e : (fun x => (((a :: r).countP fun u => decide (F u = x) : Nat) : Int)) = fun x => (if F a = x then 1 else 0) + ((r.countP fun u => decide (F u = x) : Nat) : Int) := by
      funext x
      rw [List.countP_cons]
      by_cases hx : F a = x
      · simp [hx]; omega
      · simp [hx]
    rw [e, sumI_add, sumI_one D hn, if_pos (h a List.mem_cons_self), ih, List.length_cons]
    omega
end
def rho (t u : Nat) : Nat := ((List.range 12).find? fun v => mat2 v == mul2 (mat2 t) (mat2 u)).getD 0
theorem rho_fine : ∀ t, t < 12 → ∀ u, u < 12 → rho t u < 12 ∧ mat2 (rho t u) = mul2 (mat2 t) (mat2 u) := by decide +kernel
theorem rho_inv : ∀ t, t < 12 → ∃ s, s < 12 ∧ mul2 (mat2 s) (mat2 t) = one2 ∧ mul2 (mat2 t) (mat2 s) = one2 := by decide +kernel
theorem mat2_one : ∀ t, t < 12 → ∀ u, u < 12 → mat2 t = mat2 u → t = u := by decide +kernel
theorem one_mul2 (A : M2) : mul2 one2 A = A := by
  obtain ⟨⟨a, b⟩, ⟨d, e⟩⟩ := A
  simp only [app2, mul2, one2, Prod.mk.injEq]
  omega
theorem classes {β : Type} [DecidableEq β] (F : Nat → β) (G : Nat → β → β) (hG : ∀ s t u, s < 12 → t < 12 → u < 12 → mul2 (mat2 s) (mat2 t) = mat2 u → F u = G s (F t)) (t : Nat) (ht : t < 12) :
    (List.range 12).countP (fun u => decide (F u = F t)) = (List.range 12).countP (fun u => decide (F u = F 0)) := by
  rw [List.countP_eq_length_filter, List.countP_eq_length_filter]
  obtain ⟨s, hs, es1, es2⟩ := rho_inv t ht
  have h0 : mul2 (mat2 t) (mat2 0) = mat2 t := by
    have : mat2 0 = one2 := by decide
    rw [this, mul_one2]
  have hs0 : mul2 (mat2 s) (mat2 t) = mat2 0 := by rw [es1]; decide
  refine (len_mapG (φ := rho t) ((List.nodup_range).filter _) ((List.nodup_range).filter _) (fun c hc d hd e => ?_) (fun c hc => ?_) (fun y hy => ?_)).symm
  · obtain ⟨h1, _⟩ := List.mem_filter.1 hc
    obtain ⟨h2, _⟩ := List.mem_filter.1 hd
    have h1 := List.mem_range.1 h1
    have h2 := List.mem_range.1 h2
    have e2 := congrArg mat2 e
    rw [(rho_fine t ht c h1).2, (rho_fine t ht d h2).2] at e2
    have e3 := congrArg (mul2 (mat2 s)) e2
    rw [← mul_assoc2, ← mul_assoc2, es1, one_mul2, one_mul2] at e3
    exact mat2_one c h1 d h2 e3
  · obtain ⟨h1, h2⟩ := List.mem_filter.1 hc
    have h1 := List.mem_range.1 h1
    have h2 := of_decide_eq_true h2
    obtain ⟨r1, r2⟩ := rho_fine t ht c h1
    refine List.mem_filter.2 ⟨List.mem_range.2 r1, decide_eq_true ?_⟩
    rw [hG t c (rho t c) ht h1 r1 r2.symm, h2, ← hG t 0 t ht (by omega) ht h0]
  · obtain ⟨h1, h2⟩ := List.mem_filter.1 hy
    have h1 := List.mem_range.1 h1
    have h2 := of_decide_eq_true h2
    obtain ⟨r1, r2⟩ := rho_fine s hs y h1
    refine ⟨rho s y, List.mem_filter.2 ⟨List.mem_range.2 r1, decide_eq_true ?_⟩, ?_⟩
    · rw [hG s y (rho s y) hs h1 r1 r2.symm, h2, ← hG s t 0 hs ht (by omega) hs0]
    · obtain ⟨q1, q2⟩ := rho_fine t ht (rho s y) r1
      refine mat2_one _ q1 _ h1 ?_
      rw [q2, r2, ← mul_assoc2, es2, one_mul2]
theorem twelve {β : Type} [DecidableEq β] (F : Nat → β) (G : Nat → β → β) (hG : ∀ s t u, s < 12 → t < 12 → u < 12 → mul2 (mat2 s) (mat2 t) = mat2 u → F u = G s (F t)) :
    ((distF F 12).length : Int) * (((List.range 12).countP (fun u => decide (F u = F 0)) : Nat) : Int) = 12 := by
  have h := class_sum F (distF F 12) (distF_nodup F 12) (List.range 12) fun u hu => (distF_mem F 12 _).2 ⟨u, List.mem_range.1 hu, rfl⟩
  rw [sumI_const (((List.range 12).countP (fun u => decide (F u = F 0)) : Nat) : Int) _ _ fun x hx => by
    obtain ⟨j, hj, rfl⟩ := (distF_mem F 12 x).1 hx
    exact congrArg (fun n : Nat => (n : Int)) (classes F G hG j hj)] at h
  rw [h, List.length_range]
  rfl
end Go.Proofs.Ytlnliahadgmbcaa.L
end
section
namespace Go.Proofs.Ytlnliahadgmbcaa.L
open Go.RowKit Go.Proofs.YtlnliahadgmbcaaW.PrintWords Go.Proofs.YtlnliahadgmbcaaW.PrintLast Go.Proofs.YtlnliahadgmbcaaW.PrintMore Go.Proofs.Ytlnliahadgmbcaa.F
set_option linter.unusedVariables false
theorem likeCC_ev (a : List Cell) (hs : small a) : Ev (fun k => laws_likeCells.f k a a) true := by
  unfold laws_likeCells.f
  refine Ev.pos rfl ?_
  refine loop_list a (fun k i (_ : Unit) => laws_likeCells.l0 k a a i) (fun _ _ _ => true) (fun _ _ => True) ?_ ?_ () trivial
  · intro _ _
    simp only [laws_likeCells.l0, len_lt, if_false]
    exact Ev.now _
  · intro pre d suf _ hx _ ih
    simp only [laws_likeCells.l0, pre_lt hx, pre_0, if_true, at_pre hx, pre_w hx hs]
    exact Ev.neg (by simp) (ih () trivial)
end Go.Proofs.Ytlnliahadgmbcaa.L
end
section
namespace Go.Proofs.Ytlnliahadgmbcaa.L
open Go.RowKit Go.Proofs.YtlnliahadgmbcaaW.PrintWords Go.Proofs.YtlnliahadgmbcaaW.PrintLast Go.Proofs.YtlnliahadgmbcaaW.PrintMore Go.Proofs.Ytlnliahadgmbcaa.F
set_option linter.unusedVariables false
set_option linter.unusedSimpArgs false
def formR (ok : Bool) (form : List Cell) (t : Int) : List Cell × Int := if ok = true then (if 0 ≤ t ∧ t ≤ 11 then (if shapeB form = true then (form, 0) else ([], 3)) else ([], 2)) else ([], 1)
def hexR (l : List Cell) (t : Int) : List Cell × Int := formR (shapeB l) (normalL (latL l t)) t
theorem specHexForm_ev (l : List Cell) (t : Int) (hl : l.length ≤ 1048576) : Ev (fun k => spec_HexForm.f k l t) (hexR l t) := by
  have hs : small l := by unfold small; omega
  unfold spec_HexForm.f hexR formR
  refine Ev.of_eq (r := (formR (shapeB l) (normalL (latL l t)) t)) ?_ rfl
  refine Ev.bind (a := formR (shapeB l) (normalL (latL l t)) t) ?_ (Ev.now _)
  unfold spec_l07FormCode.f formR
  refine Ev.bind (specShape1_ev l hs) (Ev.if_ (fun h => ?_) (fun _ => Ev.now _))
  simp only [in_eq, Option.bind_some, decide_eq_true_eq]
  refine Ev.if_ (fun ht => ?_) (fun _ => Ev.now _)
  refine Ev.bind (specForm1_ev l t ht.1 hl (shape_pos h)) (Ev.bind (specIsShape_ev _ ?_) (Ev.if_ (fun _ => Ev.now _) (fun _ => Ev.now _)))
  unfold small; rw [normalL_len, latL_len]; omega
theorem implHexFormC_ev (l : List Cell) (t : Int) (hl : l.length ≤ 1048576) : Ev (fun k => impl_HexForm.f k l t) (hexR l t) := by
  have hs : small l := by unfold small; omega
  unfold impl_HexForm.f hexR formR
  refine Ev.bind (implIsShape_ev l hs) (Ev.if_ (fun h => ?_) (fun _ => Ev.now _))
  have h1 : impl_isLatticeTurn.f t = some (decide (0 ≤ t ∧ t ≤ 11)) := by unfold impl_isLatticeTurn.f; rw [within_eq]; rfl
  simp only [h1, Option.bind_some, decide_eq_true_eq]
  refine Ev.if_ (fun ht => ?_) (fun _ => Ev.now _)
  refine Ev.bind (implHexForm_ev l t ht.1 hl (shape_pos h)) (Ev.bind (implIsShape_ev _ ?_) (Ev.if_ (fun _ => Ev.now _) (fun _ => Ev.now _)))
  unfold small; rw [normalL_len, latL_len]; omega
structure Src (cs : List Int) (a s : Int) : Prop where
  at0 : 0 ≤ a
  at1 : a ≤ (cs.length : Int)
  sd0 : 0 ≤ s
  sd1 : s < 2147483647
  len : cs.length ≤ 1000000000000000000
  byte : ∀ x ∈ cs, 0 ≤ x ∧ x ≤ 255
theorem rd_byte {cs : List Int} {a s : Int} (h : Src cs a s) (i : Int) (h0 : 0 ≤ i) (h1 : i < (cs.length : Int)) : 0 ≤ rd cs i ∧ rd cs i ≤ 255 := by
  unfold rd
  obtain ⟨n, rfl⟩ : ∃ n : Nat, i = (n : Int) := ⟨i.toNat, by omega⟩
  have hn : n < cs.length := by omega
  have e : cs.getD (n : Int).toNat 0 = cs[n] := by simp [List.getD, hn]
  rw [e]
  exact h.byte _ (List.getElem_mem hn)
theorem next_ex {cs : List Int} {a s : Int} (h : Src cs a s) (n : Int) (hn : n ≤ 1000000000000) : ∃ v a' s', spec_l01Next.f cs a s n = some (v, a', s') ∧ Src cs a' s' ∧ 0 ≤ v ∧ (1 ≤ n → v < n) := by
  have ⟨h0, h1, h2, h3, h4, h5⟩ := h
  unfold spec_l01Next.f
  by_cases hn1 : n ≤ 1
  · rw [if_pos hn1]
    exact ⟨_, _, _, rfl, h, by omega, by omega⟩
  · rw [if_neg hn1]
    have ew : wrap64 ((wrap64 (s * 48271)) + 29) = s * 48271 + 29 := by rw [w64 (n := s * 48271) (by omega) (by omega), w64 (by omega) (by omega)]
    have em : Int.tmod (s * 48271 + 29) 2147483647 = (s * 48271 + 29) % 2147483647 := Int.tmod_eq_emod_of_nonneg (by omega)
    have hs0 : 0 ≤ (s * 48271 + 29) % 2147483647 := Int.emod_nonneg _ (by omega)
    have hs1 : (s * 48271 + 29) % 2147483647 < 2147483647 := Int.emod_lt_of_pos _ (by omega)
    rw [ew, em]
    generalize (s * 48271 + 29) % 2147483647 = s' at hs0 hs1 ⊢
    have et : Int.tdiv s' 31 = s' / 31 := Int.tdiv_eq_ediv_of_nonneg hs0
    rw [et, w64 (n := s' / 31) (by omega) (by omega)]
    have tm (x : Int) (hx : 0 ≤ x) : 0 ≤ Int.tmod x n ∧ Int.tmod x n < n := by
      rw [Int.tmod_eq_emod_of_nonneg hx]
      exact ⟨Int.emod_nonneg _ (by omega), Int.emod_lt_of_pos _ (by omega)⟩
    by_cases ha : a < (cs.length : Int)
    · have ea : wrap64 (a + 1) = a + 1 := w64 (by omega) (by omega)
      have hr := rd_byte h a h0 ha
      have e1 : wrap64 (rd cs a) = rd cs a := w64 (by omega) (by omega)
      have e2 : wrap64 (a + 1 - 1) = a := by rw [w64 (by omega) (by omega)]; omega
      have e3 : wrap64 (s' / 31 + rd cs a) = s' / 31 + rd cs a := w64 (by omega) (by omega)
      have hS : Src cs (a + 1) s' := ⟨by omega, by omega, hs0, hs1, h4, h5⟩
      rw [if_pos ha, if_pos h0, ea, e1, e2, e1, e3, if_pos h0, if_pos ha, if_neg (by omega : ¬ n = 0)]
      repeat' split
      all_goals first
        | exact ⟨_, _, _, rfl, hS, (tm _ (by omega)).1, fun _ => (tm _ (by omega)).2⟩
        | omega
    · have hS : Src cs a s' := ⟨by omega, by omega, hs0, hs1, h4, h5⟩
      rw [if_neg ha, if_neg (by omega : ¬ n = 0)]
      have := tm (s' / 31) (by omega)
      exact ⟨_, _, _, rfl, hS, this.1, fun _ => this.2⟩
def Ex {α : Type} (g : Nat → Option α) (P : α → Prop) : Prop := ∃ r, Ev g r ∧ P r
theorem Ex.now {α : Type} {P : α → Prop} {r : α} (h : P r) : Ex (fun _ => some r) P := ⟨r, Ev.now _, h⟩
theorem Ex.mono {α : Type} {g : Nat → Option α} {P Q : α → Prop} (h : Ex g P) (hi : ∀ r, P r → Q r) : Ex g Q := by
  obtain ⟨r, h1, h2⟩ := h
  exact ⟨r, h1, hi r h2⟩
theorem Ex.bind {α β : Type} {g : Nat → Option α} {f : Nat → α → Option β} {P : α → Prop} {Q : β → Prop} (h : Ex g P) (k : ∀ a, P a → Ex (fun n => f n a) Q) : Ex (fun n => (g n).bind (f n)) Q := by
  obtain ⟨a, h1, h2⟩ := h
  obtain ⟨b, h3, h4⟩ := k a h2
  exact ⟨b, Ev.bind h1 h3, h4⟩
theorem Ex.bindE {α β : Type} {g : Nat → Option α} {f : Nat → α → Option β} {a : α} {Q : β → Prop} (h : Ev g a) (k : Ex (fun n => f n a) Q) : Ex (fun n => (g n).bind (f n)) Q := by
  obtain ⟨b, h3, h4⟩ := k
  exact ⟨b, Ev.bind h h3, h4⟩
theorem Ex.bind0 {α β : Type} {o : Option α} {f : Nat → α → Option β} {a : α} {Q : β → Prop} (h : o = some a) (k : Ex (fun n => f n a) Q) : Ex (fun n => o.bind (f n)) Q := by
  subst h
  exact k
theorem Ex.pos {α : Type} {c : Prop} [Decidable c] {f g : Nat → Option α} {P : α → Prop} (h : c) (e : Ex f P) : Ex (fun k => if c then f k else g k) P := by
  obtain ⟨r, h1, h2⟩ := e
  exact ⟨r, Ev.pos h h1, h2⟩
theorem Ex.neg {α : Type} {c : Prop} [Decidable c] {f g : Nat → Option α} {P : α → Prop} (h : ¬ c) (e : Ex g P) : Ex (fun k => if c then f k else g k) P := by
  obtain ⟨r, h1, h2⟩ := e
  exact ⟨r, Ev.neg h h1, h2⟩
theorem Ex.if_ {α : Type} {c : Prop} [Decidable c] {f g : Nat → Option α} {P : α → Prop} (h : c → Ex f P) (h' : ¬ c → Ex g P) : Ex (fun k => if c then f k else g k) P := by
  by_cases hc : c
  · exact Ex.pos hc (h hc)
  · exact Ex.neg hc (h' hc)
theorem Ex.succ {α : Type} {g : Nat → Option α} {P : α → Prop} (h : Ex (fun k => g (k + 1)) P) : Ex g P := by
  obtain ⟨r, h1, h2⟩ := h
  exact ⟨r, Ev.succ h1, h2⟩
theorem Ex.next {β : Type} {cs : List Int} {a s : Int} (h : Src cs a s) (n : Int) (hn : n ≤ 1000000000000) {f : Nat → Int × Int × Int → Option β} {Q : β → Prop}
    (k : ∀ v a' s', Src cs a' s' → 0 ≤ v → (1 ≤ n → v < n) → Ex (fun q => f q (v, a', s')) Q) : Ex (fun q => (spec_l01Next.f cs a s n).bind (f q)) Q := by
  obtain ⟨v, a', s', e, h1, h2, h3⟩ := next_ex h n hn
  exact Ex.bind0 e (k v a' s' h1 h2 h3)
theorem from_l (cs : List Int) (hl : cs.length ≤ 1000000000000000000) (hb : ∀ x ∈ cs, 0 ≤ x ∧ x ≤ 255) : ∀ (q i : Nat) (s : Int), i + q = min cs.length 64 → 0 ≤ s → s < 2147483647 →
    Ex (fun k => spec_l01From.l0 k cs (i : Int) cs 0 s) fun r => r.1 = cs ∧ r.2.1 = 0 ∧ Src cs 0 r.2.2
  | 0, i, s, hi, h0, h1 => by
    refine Ex.succ ?_
    simp only [spec_l01From.l0]
    have hS : Src cs 0 s := ⟨by omega, by omega, h0, h1, hl, hb⟩
    refine Ex.if_ (fun _ => Ex.neg (by omega) (Ex.now ⟨rfl, rfl, hS⟩)) (fun _ => Ex.now ⟨rfl, rfl, hS⟩)
  | q + 1, i, s, hi, h0, h1 => by
    refine Ex.succ ?_
    simp only [spec_l01From.l0]
    have hS : Src cs 0 s := ⟨by omega, by omega, h0, h1, hl, hb⟩
    have hr := rd_byte hS (i : Int) (by omega) (by omega)
    have ei : wrap64 ((i : Int) + 1) = ((i + 1 : Nat) : Int) := by rw [w64 (by omega) (by omega)]; omega
    have es : Int.tmod (wrap64 ((wrap64 (s * 47)) + (wrap64 (rd cs (i : Int))))) 2147483647 = (s * 47 + rd cs (i : Int)) % 2147483647 := by
      rw [w64 (n := s * 47) (by omega) (by omega), w64 (n := rd cs (i : Int)) (by omega) (by omega), w64 (by omega) (by omega), Int.tmod_eq_emod_of_nonneg (by omega)]
    rw [ei, es]
    exact Ex.pos (by omega) (Ex.pos (by omega) (Ex.pos (by omega) (from_l cs hl hb q (i + 1) _ (by omega) (Int.emod_nonneg _ (by omega)) (Int.emod_lt_of_pos _ (by omega)))))
theorem from_ex (cs : List Int) (hl : cs.length ≤ 1000000000000000000) (hb : ∀ x ∈ cs, 0 ≤ x ∧ x ≤ 255) : Ex (fun k => spec_l01From.f k cs) fun r => r.1 = cs ∧ r.2.1 = 0 ∧ Src cs 0 r.2.2 := by
  unfold spec_l01From.f
  exact from_l cs hl hb (min cs.length 64) 0 61003 (by omega) (by omega) (by omega)
theorem insAll_len (l : List Cell) : (insAll [] l).length = l.length := by
  have := (insAll_spec l [] List.Pairwise.nil).1.length_eq
  simpa using this
theorem around7 (k x y : Int) : ∃ L, spec_l07Around.f k x y = some L ∧ 1 ≤ L.length ∧ L.length ≤ 6 := by
  unfold spec_l07Around.f
  by_cases h : k = 1
  · rw [if_pos h]
    exact ⟨_, rfl, by simp, by simp⟩
  · rw [if_neg h, l01Mod3]
    simp only [Option.bind_some]
    split
    · exact ⟨_, rfl, by simp, by simp⟩
    · exact ⟨_, rfl, by simp, by simp⟩
theorem draw7_l (cs : List Int) (kd : Int) : ∀ (q : Nat) (l : List Cell) (a s : Int), l.length + q ≤ 40 → 1 ≤ l.length → Src cs a s →
    Ex (fun k => spec_l07Draw.l0 k kd l (q : Int) cs a s) fun r => r.1.length ≤ 100 ∧ Src cs r.2.1 r.2.2
  | 0, l, a, s, hq, h1, hS => by
    refine Ex.succ ?_
    simp only [spec_l07Draw.l0]
    refine Ex.neg (by omega) (Ex.next hS 5 (by omega) fun v1 a1 s1 hS1 _ _ => Ex.next hS1 5 (by omega) fun v2 a2 s2 hS2 _ _ => ?_)
    refine Ex.bindE (specMove_ev l _ _ (by omega)) ?_
    have hml := moveL_len l (wrap64 ((wrap64 (3 * v1)) - 6)) (wrap64 ((wrap64 (3 * v2)) - 6))
    generalize moveL l (wrap64 ((wrap64 (3 * v1)) - 6)) (wrap64 ((wrap64 (3 * v2)) - 6)) = t at hml ⊢
    refine Ex.next hS2 (t.length : Int) (by omega) fun v3 a3 s3 hS3 g0 g1 => Ex.next hS3 24 (by omega) fun v4 a4 s4 hS4 _ _ => ?_
    have g2 := g1 (by omega)
    have ew : wrap64 ((t.length : Int) - 1) = (t.length : Int) - 1 := w64 (by omega) (by omega)
    simp only [ew]
    refine Ex.if_ (fun _ => Ex.pos g0 (Ex.pos g2 (Ex.now ⟨by simp; omega, hS4⟩))) (fun _ => ?_)
    refine Ex.if_ (fun _ => Ex.pos g0 (Ex.pos g2 (Ex.pos (by omega) (Ex.pos (by omega) (Ex.pos (by omega) (Ex.now ⟨by simp; omega, hS4⟩)))))) (fun _ => ?_)
    refine Ex.if_ (fun _ => Ex.now ⟨by simp, hS4⟩) (fun _ => ?_)
    refine Ex.if_ (fun _ => Ex.pos (by omega) (Ex.bindE (specMove_ev t _ _ (by omega)) (Ex.now ⟨by simp only [moveL_len]; omega, hS4⟩))) (fun _ => Ex.now ⟨by simp only; omega, hS4⟩)
  | q + 1, l, a, s, hq, h1, hS => by
    refine Ex.succ ?_
    simp only [spec_l07Draw.l0]
    have ew : wrap64 (((q + 1 : Nat) : Int) - 1) = (q : Int) := by rw [w64 (by omega) (by omega)]; omega
    simp only [ew]
    refine Ex.pos (by omega) (Ex.next hS (l.length : Int) (by omega) fun v1 a1 s1 hS1 g0 g1 => ?_)
    have g2 := g1 (by omega)
    obtain ⟨L, e, e1, e2⟩ := around7 kd (rd_T59 l v1).f0 (rd_T59 l v1).f1
    refine Ex.pos g0 (Ex.pos g2 (Ex.bind0 e (Ex.next hS1 (L.length : Int) (by omega) fun v2 a2 s2 hS2 p0 p1 => ?_)))
    have p2 := p1 (by omega)
    refine Ex.pos p0 (Ex.pos p2 (Ex.bindE (specIndex_ev l (rd_T59 L v2) (by unfold small; omega)) (Ex.if_ (fun _ => ?_) (fun _ => draw7_l cs kd q l a2 s2 (by omega) h1 hS2))))
    have hi := (insC_perm (rd_T59 L v2) l).length_eq
    rw [List.length_cons] at hi
    exact Ex.bindE (specInsert_ev l (rd_T59 L v2) (by omega)) (draw7_l cs kd q _ a2 s2 (by omega) (by omega) hS2)
theorem draw7_ex {cs : List Int} {a s : Int} (kd : Int) (h : Src cs a s) : Ex (fun k => spec_l07Draw.f k cs a s kd) fun r => r.1.length ≤ 100 ∧ Src cs r.2.1 r.2.2 := by
  unfold spec_l07Draw.f
  refine Ex.next h 2 (by omega) fun v1 a1 s1 h1 _ _ => Ex.bind0 rfl (Ex.pos (by simp only [List.length_cons, List.length_nil]; omega) (Ex.next h1 6 (by omega) fun v2 a2 s2 h2 g0 g1 => ?_))
  have := g1 (by omega)
  obtain ⟨q, rfl⟩ : ∃ q : Nat, v2 = (q : Int) := ⟨v2.toNat, by omega⟩
  exact draw7_l cs kd q _ a2 s2 (by simp; omega) (by simp) h2
theorem draw7Far_ex {cs : List Int} {a s : Int} (kd : Int) (h : Src cs a s) : Ex (fun k => spec_l07DrawFar.f k cs a s kd) fun r => r.1.length ≤ 100 ∧ Src cs r.2.1 r.2.2 := by
  unfold spec_l07DrawFar.f
  refine Ex.next h 24 (by omega) fun v1 a1 s1 h1 _ _ => Ex.if_ (fun _ => Ex.next h1 2 (by omega) fun v2 a2 s2 h2 _ _ => Ex.now ⟨by simp, h2⟩) (fun _ => ?_)
  refine Ex.next h1 24 (by omega) fun v2 a2 s2 h2 _ _ => Ex.if_ (fun _ => Ex.now ⟨by simp, h2⟩) (fun _ => ?_)
  exact Ex.bind (draw7_ex kd h2) fun r hr => Ex.now hr
theorem drawHs_l1 (X : List Cell) (st t : Int) (ht : 0 ≤ t) (hX : X.length ≤ 3) {Q : List Cell → Prop} : ∀ (suf pre O : List Cell), X = pre ++ suf → O.length + suf.length ≤ 1000 →
    (∀ O' : List Cell, O'.length ≤ O.length + suf.length → Ex (fun k => spec_DrawHexSymmetries.l0 k X O' st (wrap64 (t + st))) Q) → Ex (fun k => spec_DrawHexSymmetries.l1 k X O st t (pre.length : Int)) Q
  | [], pre, O, hx, hO, hc => by
    refine Ex.succ ?_
    have hp := congrArg List.length hx
    simp only [List.length_append, List.length_nil] at hp
    simp only [spec_DrawHexSymmetries.l1]
    exact Ex.neg (by omega) (hc O (by simp))
  | c :: suf, pre, O, hx, hO, hc => by
    refine Ex.succ ?_
    have hs : small X := by unfold small; omega
    simp only [List.length_cons] at hO hc
    have ih (O2 : List Cell) (h : O2.length ≤ O.length + 1) := drawHs_l1 X st t ht hX suf (pre ++ [c]) O2 (by rw [hx]; simp) (by omega) (fun O' h' => hc O' (by omega))
    simp only [List.length_append, List.length_singleton, Int.natCast_add] at ih
    simp only [spec_DrawHexSymmetries.l1, pre_lt hx, pre_0, if_true, at_pre hx, pre_w hx hs]
    refine Ex.bindE (specLat_ev c t ht) (Ex.bindE (specIndex_ev O ⟨(latC c t).1, (latC c t).2⟩ (by unfold small; omega)) (Ex.if_ (fun _ => Ex.pos (by omega) (ih _ (by simp))) (fun _ => ih O (by omega))))
theorem drawHs_l0 (X : List Cell) (st : Int) (hst : 1 ≤ st ∧ st ≤ 6) (hX : X.length ≤ 3) : ∀ (m : Nat) (t : Int) (O : List Cell), 12 ≤ t + (m : Int) → 0 ≤ t → (O.length : Int) ≤ 3 * t → t ≤ 20 →
    Ex (fun k => spec_DrawHexSymmetries.l0 k X O st t) fun r => r.length ≤ 100
  | 0, t, O, hm, h0, hO, ht => by
    refine Ex.succ ?_
    simp only [spec_DrawHexSymmetries.l0]
    refine Ex.neg (by omega) (Ex.bindE (specSortI_ev O (by omega)) (Ex.now ?_))
    rw [insAll_len]; omega
  | m + 1, t, O, hm, h0, hO, ht => by
    refine Ex.succ ?_
    simp only [spec_DrawHexSymmetries.l0]
    by_cases h : t < 12
    · refine Ex.pos h (drawHs_l1 X st t h0 hX X [] O rfl (by omega) fun O' hO' => ?_)
      rw [w64 (by omega) (by omega)]
      exact drawHs_l0 X st hst hX m (t + st) O' (by omega) (by omega) (by omega) (by omega)
    · refine Ex.neg h (Ex.bindE (specSortI_ev O (by omega)) (Ex.now ?_))
      rw [insAll_len]; omega
theorem drawHs_j0 {cs : List Int} {a s : Int} (l : List Cell) (b : Bool) (hl : l.length ≤ 100) (hb : b = false → 1 ≤ l.length ∧ l.length ≤ 3) (h : Src cs a s) : Ex (fun k => spec_DrawHexSymmetries.j0 k l b cs a s) fun r => r.length ≤ 100 := by
  refine Ex.succ ?_
  simp only [spec_DrawHexSymmetries.j0]
  cases b with
  | true => exact Ex.pos rfl (Ex.now hl)
  | false =>
    obtain ⟨g1, g2⟩ := hb rfl
    refine Ex.neg (by simp) (Ex.pos (by omega) (Ex.bindE (specMove_ev l _ _ (by omega)) (Ex.bind0 rfl (Ex.next h 4 (by omega) fun v a s h p0 p1 => ?_))))
    have p2 := p1 (by omega)
    have e4 : (([2, 3, 6, 1] : List Int).length : Int) = 4 := rfl
    refine Ex.pos p0 (Ex.pos (by rw [e4]; exact p2) (drawHs_l0 _ _ ?_ (by rw [moveL_len]; omega) 12 0 [] (by omega) (by omega) (by simp) (by omega)))
    have : v = 0 ∨ v = 1 ∨ v = 2 ∨ v = 3 := by omega
    rcases this with rfl | rfl | rfl | rfl <;> (simp only; decide)
theorem drawHexSym_ex (cs : List Int) (hl : cs.length ≤ 1000000000000000000) (hb : ∀ x ∈ cs, 0 ≤ x ∧ x ≤ 255) : Ex (fun k => spec_DrawHexSymmetries.f k cs) fun r => r.length ≤ 100 := by
  unfold spec_DrawHexSymmetries.f
  refine Ex.bind (from_ex cs hl hb) fun ⟨c1, a1, s1⟩ ⟨e1, e2, h1⟩ => ?_
  simp only at e1 e2 h1
  subst e1 e2
  refine Ex.next h1 2 (by omega) fun v a s h _ _ => Ex.if_ (fun _ => Ex.bind (draw7Far_ex 1 h) fun r hr => Ex.now hr.1) (fun _ => ?_)
  refine Ex.bind (draw7_ex 1 h) fun r ⟨hr, h2⟩ => ?_
  refine Ex.if_ (fun _ => drawHs_j0 _ _ hr (by simp) h2) (fun h0 => drawHs_j0 _ _ hr (fun hb => ?_) h2)
  have := of_decide_eq_false hb
  omega
def hexG (l : List Cell) (t : Int) : List Cell := normalL (latL l t)
theorem hexG_len (l : List Cell) (t : Int) : (hexG l t).length = l.length := by unfold hexG; rw [normalL_len, latL_len]
def hexGOk (l : List Cell) : Nat → Int → Bool
  | 0, _ => true
  | n + 1, t => shapeB (hexG l t) && hexGOk l n (t + 1)
def hexGS (l : List Cell) : Nat → Int → List (List Cell)
  | 0, _ => []
  | n + 1, t => hexG l t :: hexGS l n (t + 1)
theorem hexGS_len (l : List Cell) : ∀ (n : Nat) (t : Int), (hexGS l n t).length = n
  | 0, _ => rfl
  | n + 1, t => by unfold hexGS; rw [List.length_cons, hexGS_len l n]
theorem hexGS_mem (l : List Cell) : ∀ (n : Nat) (t : Int), ∀ x ∈ hexGS l n t, x.length = l.length
  | 0, _, x, h => by simp [hexGS] at h
  | n + 1, t, x, h => by
    unfold hexGS at h
    rcases List.mem_cons.1 h with rfl | h
    · exact hexG_len l t
    · exact hexGS_mem l n _ x h
theorem specForms1_l (l : List Cell) (hl : l.length ≤ 1048576) (h0 : 0 < l.length) : ∀ (n : Nat) (t : Int) (acc : List (List Cell)) (b : Bool), 0 ≤ t → t + (n : Int) = 12 → acc.length + n ≤ 12 → Ev (fun k => spec_l07Forms.l0 k 1 l acc b t) (acc ++ hexGS l n t, b && hexGOk l n t)
  | 0, t, acc, b, h1, h2, h3 => by
    refine Ev.succ ?_
    simp only [spec_l07Forms.l0]
    exact Ev.neg (by omega) (Ev.of_eq (Ev.now _) (by simp [hexGS, hexGOk]))
  | n + 1, t, acc, b, h1, h2, h3 => by
    refine Ev.succ ?_
    simp only [spec_l07Forms.l0]
    have ew : wrap64 (t + 1) = t + 1 := w64 (by omega) (by omega)
    refine Ev.pos (by omega) (Ev.bind (specForm1_ev l t h1 hl h0) ?_)
    have hf : small (normalL (latL l t)) := by have := hexG_len l t; unfold hexG at this; unfold small; omega
    simp only [ew]
    cases b
    · refine Ev.neg (by simp) (Ev.pos (by omega) (Ev.of_eq (specForms1_l l hl h0 n (t + 1) (acc ++ [hexG l t]) false (by omega) (by omega) (by simp; omega)) ?_))
      simp [hexGS]
    · refine Ev.pos rfl (Ev.bind (specIsShape_ev _ hf) (Ev.pos (by omega) (Ev.of_eq (specForms1_l l hl h0 n (t + 1) (acc ++ [hexG l t]) _ (by omega) (by omega) (by simp; omega)) ?_)))
      simp [hexGS, hexGOk, hexG]
theorem implLeast1_l (l : List Cell) (hl : l.length ≤ 1048576) (h0 : 0 < l.length) : ∀ (n : Nat) (t : Int) (acc : List (List Cell)), 0 ≤ t → t + (n : Int) = 12 → acc.length + n = 12 → (∀ x ∈ acc, small x) → Ev (fun k => impl_leastForm__impl_hexForm.l0 k l acc t) (if hexGOk l n t = true then (minA (acc ++ hexGS l n t), true) else ([], false))
  | 0, t, acc, h1, h2, h3, h4 => by
    obtain ⟨c, r, rfl⟩ : ∃ c r, acc = c :: r := by cases acc with | nil => simp at h3 | cons c r => exact ⟨c, r, rfl⟩
    refine Ev.succ ?_
    simp only [impl_leastForm__impl_hexForm.l0]
    refine Ev.neg (by omega) (Ev.bind (implMin_ev c r (by unfold small; omega) h4) (Ev.of_eq (Ev.now _) ?_))
    simp [hexGOk, hexGS, minA]
  | n + 1, t, acc, h1, h2, h3, h4 => by
    have ew : wrap64 (t + 1) = t + 1 := w64 (by omega) (by omega)
    have hf : small (normalL (latL l t)) := by have := hexG_len l t; unfold hexG at this; unfold small; omega
    by_cases hs : shapeB (normalL (latL l t)) = true
    · have hm := implLeast1_l l hl h0 n (t + 1) (acc ++ [normalL (latL l t)]) (by omega) (by omega) (by simp; omega) (fun x hx => by
        rcases List.mem_append.1 hx with hx | hx
        · exact h4 x hx
        · simp at hx; exact hx ▸ hf)
      refine Ev.succ ?_
      simp only [impl_leastForm__impl_hexForm.l0]
      refine Ev.pos (by omega) (Ev.bind (implHexForm_ev l t h1 hl h0) (Ev.bind (implIsShape_ev _ hf) (Ev.pos hs (Ev.pos (by omega) ?_))))
      simp only [ew]
      refine Ev.of_eq hm ?_
      simp [hexGOk, hexGS, hexG, hs]
    · refine Ev.succ ?_
      simp only [impl_leastForm__impl_hexForm.l0]
      refine Ev.pos (by omega) (Ev.bind (implHexForm_ev l t h1 hl h0) (Ev.bind (implIsShape_ev _ hf) (Ev.neg hs (Ev.of_eq (Ev.now _) ?_))))
      simp [hexGOk, hexG, hs]
def hexGMin (l : List Cell) : List Cell := minS (hexG l 0) (hexGS l 11 1)
theorem hexGMin_len (l : List Cell) : (hexGMin l).length = l.length := by
  have h := minS_mem (hexGS l 11 1) (hexG l 0)
  rcases List.mem_cons.1 h with h | h
  · unfold hexGMin; rw [h, hexG_len]
  · exact hexGS_mem l 11 1 _ h
end Go.Proofs.Ytlnliahadgmbcaa.L
end
section
namespace Go.Proofs.Ytlnliahadgmbcaa.L
open Go.RowKit Go.Proofs.YtlnliahadgmbcaaW.PrintWords Go.Proofs.YtlnliahadgmbcaaW.PrintLast Go.Proofs.YtlnliahadgmbcaaW.PrintMore Go.Proofs.Ytlnliahadgmbcaa.F
set_option linter.unusedVariables false
set_option linter.unusedSimpArgs false
def hexGFree (l : List Cell) : List Cell × Int := if shapeB l = true then (if hexGOk l 12 0 = true then (hexGMin l, 0) else ([], 3)) else ([], 1)
theorem hexGFree_len (l : List Cell) : (hexGFree l).1.length ≤ l.length := by
  unfold hexGFree
  split
  · split
    · rw [hexGMin_len]; exact Nat.le_refl _
    · simp
  · simp
theorem specHexFree_ev (l : List Cell) (hl : l.length ≤ 1048576) : Ev (fun k => spec_HexFree.f k l) (hexGFree l) := by
  have hs : small l := by unfold small; omega
  unfold spec_HexFree.f
  refine Ev.bind (a := hexGFree l) ?_ (Ev.now _)
  unfold spec_l07FreeCode.f hexGFree
  refine Ev.bind (specShape1_ev l hs) (Ev.if_ (fun h => ?_) (fun _ => Ev.now _))
  have hp : 0 < l.length := shape_pos h
  have hF : Ev (fun k => spec_l07Forms.f k 1 l) (hexGS l 12 0, hexGOk l 12 0) := by
    unfold spec_l07Forms.f
    exact Ev.of_eq (specForms1_l l hl hp 12 0 [] true (by omega) (by omega) (by simp)) (by simp)
  refine Ev.bind hF (Ev.if_ (fun _ => ?_) (fun _ => Ev.now _))
  simp only [Option.bind_some, List.nil_append, List.length_nil]
  have e12 : hexGS l 12 0 = hexG l 0 :: hexGS l 11 1 := rfl
  have hmem : ∀ x ∈ hexG l 0 :: hexGS l 11 1, small x := by
    intro x hx
    rw [← e12] at hx
    have := hexGS_mem l 12 0 x hx
    unfold small; omega
  simp only [e12]
  refine Ev.bind (specLeastS_ev _ _ (by unfold small; rw [List.length_cons, hexGS_len]; omega) hmem) ?_
  have hml := hexGMin_len l
  unfold hexGMin at hml
  exact Ev.pos (by omega) (Ev.of_eq (Ev.now _) rfl)
theorem implHexFree_ev (l : List Cell) (hl : l.length ≤ 1048576) : Ev (fun k => impl_HexFree.f k l) (hexGFree l) := by
  have hs : small l := by unfold small; omega
  unfold impl_HexFree.f hexGFree
  refine Ev.bind (implIsShape_ev l hs) (Ev.if_ (fun h => ?_) (fun _ => Ev.now _))
  have hp : 0 < l.length := shape_pos h
  have hL : Ev (fun k => impl_leastForm__impl_hexForm.f k l) (if hexGOk l 12 0 = true then (minA (hexGS l 12 0), true) else ([], false)) := by
    unfold impl_leastForm__impl_hexForm.f
    exact Ev.of_eq (implLeast1_l l hl hp 12 0 [] (by omega) (by omega) (by simp) (fun x hx => by simp at hx)) (by simp)
  by_cases ho : hexGOk l 12 0 = true
  · rw [if_pos ho] at hL ⊢
    exact Ev.bind hL (Ev.pos rfl (Ev.of_eq (Ev.now _) rfl))
  · rw [if_neg ho] at hL ⊢
    exact Ev.bind hL (Ev.neg (by simp) (Ev.now _))
end Go.Proofs.Ytlnliahadgmbcaa.L
end
section
namespace Go.Proofs.Ytlnliahadgmbcaa.L
open Go.RowKit Go.Proofs.YtlnliahadgmbcaaW.PrintWords Go.Proofs.YtlnliahadgmbcaaW.PrintLast Go.Proofs.YtlnliahadgmbcaaW.PrintMore Go.Proofs.Ytlnliahadgmbcaa.F
set_option linter.unusedVariables false
set_option linter.unusedSimpArgs false
theorem equalC_ev (a b : List Cell) (ha : small a) : Ev (fun k => impl_Cell_67.f k a b) (decide (a = b)) := by
  unfold impl_Cell_67.f
  by_cases hl : a.length = b.length
  · refine Ev.pos (by omega) ?_
    refine loop_list a (fun k i (_ : Unit) => impl_Cell_67.l0 k a b (a.length : Int) i) (fun pre suf _ => decide (suf = b.drop pre.length)) (fun _ _ => True) ?_ ?_ () trivial
    · intro _ _
      simp only [impl_Cell_67.l0, len_lt, if_false]
      refine Ev.of_eq (Ev.now _) ?_
      rw [hl, List.drop_length]
      simp
    · intro pre c suf _ hx _ ih
      have hp := pre_len hx
      have hpb : pre.length < b.length := by omega
      have hlt : ((pre.length : Int) < (b.length : Int)) = True := by simp; omega
      have eb : rd_T59 b (pre.length : Int) = b[pre.length] := by
        unfold rd_T59
        rw [List.getD_eq_getElem?_getD, Int.toNat_natCast, List.getElem?_eq_getElem hpb]
        rfl
      simp only [impl_Cell_67.l0, pre_lt hx, pre_0, if_true, hlt, at_pre hx, pre_w hx ha, eb]
      rw [List.drop_eq_getElem_cons hpb]
      by_cases he : c = b[pre.length]
      · refine Ev.neg (by rw [← he]; simp) (Ev.of_eq (ih () trivial) ?_)
        rw [List.length_append, List.length_singleton]
        generalize b.drop (pre.length + 1) = R
        rw [← he]
        simp only [List.cons.injEq, true_and]
      · refine Ev.pos ?_ (Ev.of_eq (Ev.now _) ?_)
        · refine Decidable.byContradiction fun h => he ?_
          generalize b[pre.length] = d at h
          obtain ⟨c0, c1⟩ := c
          obtain ⟨d0, d1⟩ := d
          simp at h
          simp [h]
        · generalize b.drop (pre.length + 1) = R
          simp only [List.cons.injEq, he, false_and, decide_false]
  · refine Ev.neg (by omega) (Ev.of_eq (Ev.now _) ?_)
    have : a ≠ b := fun e => hl (by rw [e])
    simp [this]
end Go.Proofs.Ytlnliahadgmbcaa.L
end
section
namespace Go.Proofs.Ytlnliahadgmbcaa.L
open Go.RowKit Go.Proofs.YtlnliahadgmbcaaW.PrintWords Go.Proofs.YtlnliahadgmbcaaW.PrintLast Go.Proofs.YtlnliahadgmbcaaW.PrintMore Go.Proofs.Ytlnliahadgmbcaa.F
set_option linter.unusedVariables false
set_option linter.unusedSimpArgs false
def hexF (l : List Cell) (t : Int) : List Cell := normalL (latL l t)
theorem hexF_len (l : List Cell) (t : Int) : (hexF l t).length = l.length := by unfold hexF; rw [normalL_len, latL_len]
def okF (l : List Cell) : Nat → Int → Bool
  | 0, _ => true
  | n + 1, t => shapeB (hexF l t) && okF l n (t + 1)
def formsF (l : List Cell) : Nat → Int → List (List Cell)
  | 0, _ => []
  | n + 1, t => hexF l t :: formsF l n (t + 1)
theorem formsF_get (l : List Cell) : ∀ (n : Nat) (t : Int) (j : Nat), j < n → (formsF l n t)[j]? = some (hexF l (t + (j : Int)))
  | 0, t, j, h => by omega
  | n + 1, t, 0, h => by simp [formsF]
  | n + 1, t, j + 1, h => by
    unfold formsF
    rw [List.getElem?_cons_succ, formsF_get l n (t + 1) j (by omega)]
    congr 2; omega
theorem formsF_len (l : List Cell) : ∀ (n : Nat) (t : Int), (formsF l n t).length = n
  | 0, _ => rfl
  | n + 1, t => by unfold formsF; rw [List.length_cons, formsF_len l n]
def symH (l : List Cell) : Nat → Int → List Int
  | 0, _ => []
  | n + 1, t => if hexF l t = hexF l 0 then t :: symH l n (t + 1) else symH l n (t + 1)
theorem symH_len (l : List Cell) : ∀ (n : Nat) (t : Int), (symH l n t).length ≤ n
  | 0, _ => Nat.le_refl _
  | n + 1, t => by
    have := symH_len l n (t + 1)
    unfold symH
    split
    · rw [List.length_cons]; omega
    · omega
theorem specForms_l (l : List Cell) (hl : l.length ≤ 1048576) (h0 : 0 < l.length) : ∀ (n : Nat) (t : Int) (acc : List (List Cell)) (b : Bool), 0 ≤ t → t + (n : Int) = 12 → acc.length + n ≤ 12 → Ev (fun k => spec_l07Forms.l0 k 1 l acc b t) (acc ++ formsF l n t, b && okF l n t)
  | 0, t, acc, b, h1, h2, h3 => by
    refine Ev.succ ?_
    simp only [spec_l07Forms.l0]
    exact Ev.neg (by omega) (Ev.of_eq (Ev.now _) (by simp [formsF, okF]))
  | n + 1, t, acc, b, h1, h2, h3 => by
    refine Ev.succ ?_
    simp only [spec_l07Forms.l0]
    have ew : wrap64 (t + 1) = t + 1 := w64 (by omega) (by omega)
    refine Ev.pos (by omega) (Ev.bind (specForm1_ev l t h1 hl h0) ?_)
    have hf : small (normalL (latL l t)) := by have := hexF_len l t; unfold hexF at this; unfold small; omega
    simp only [ew]
    cases b
    · refine Ev.neg (by simp) (Ev.pos (by omega) (Ev.of_eq (specForms_l l hl h0 n (t + 1) (acc ++ [hexF l t]) false (by omega) (by omega) (by simp; omega)) ?_))
      simp [formsF]
    · refine Ev.pos rfl (Ev.bind (specIsShape_ev _ hf) (Ev.pos (by omega) (Ev.of_eq (specForms_l l hl h0 n (t + 1) (acc ++ [hexF l t]) _ (by omega) (by omega) (by simp; omega)) ?_)))
      simp [formsF, okF, hexF]
theorem implLeast_l (l : List Cell) (hl : l.length ≤ 1048576) (h0 : 0 < l.length) : ∀ (n : Nat) (t : Int) (acc : List (List Cell)), 0 ≤ t → t + (n : Int) = 12 → acc.length + n = 12 → (∀ x ∈ acc, small x) → ∃ m, Ev (fun k => impl_leastForm__impl_hexForm.l0 k l acc t) (m, okF l n t)
  | 0, t, acc, h1, h2, h3, h4 => by
    obtain ⟨c, r, rfl⟩ : ∃ c r, acc = c :: r := by cases acc with | nil => simp at h3 | cons c r => exact ⟨c, r, rfl⟩
    refine ⟨minS c r, Ev.succ ?_⟩
    simp only [impl_leastForm__impl_hexForm.l0]
    exact Ev.neg (by omega) (Ev.bind (implMin_ev c r (by unfold small; omega) h4) (Ev.now _))
  | n + 1, t, acc, h1, h2, h3, h4 => by
    have ew : wrap64 (t + 1) = t + 1 := w64 (by omega) (by omega)
    have hf : small (normalL (latL l t)) := by have := hexF_len l t; unfold hexF at this; unfold small; omega
    by_cases hs : shapeB (normalL (latL l t)) = true
    · obtain ⟨m, hm⟩ := implLeast_l l hl h0 n (t + 1) (acc ++ [normalL (latL l t)]) (by omega) (by omega) (by simp; omega) (fun x hx => by
        rcases List.mem_append.1 hx with hx | hx
        · exact h4 x hx
        · simp at hx; exact hx ▸ hf)
      refine ⟨m, Ev.succ ?_⟩
      simp only [impl_leastForm__impl_hexForm.l0]
      refine Ev.pos (by omega) (Ev.bind (implHexForm_ev l t h1 hl h0) (Ev.bind (implIsShape_ev _ hf) (Ev.pos hs (Ev.pos (by omega) ?_))))
      simp only [ew]
      refine Ev.of_eq hm ?_
      simp [okF, hexF, hs]
    · refine ⟨[], Ev.succ ?_⟩
      simp only [impl_leastForm__impl_hexForm.l0]
      refine Ev.pos (by omega) (Ev.bind (implHexForm_ev l t h1 hl h0) (Ev.bind (implIsShape_ev _ hf) (Ev.neg hs (Ev.of_eq (Ev.now _) ?_))))
      simp [okF, hexF, hs]
theorem specHSym_l (l : List Cell) (hl : l.length ≤ 1048576) : ∀ (n : Nat) (t : Int) (s : List Int), 0 ≤ t → t + (n : Int) = 12 → s.length + n ≤ 12 → Ev (fun k => spec_HexSymmetries.l0 k (formsF l 12 0) s t) (s ++ symH l n t, (0 : Int))
  | 0, t, s, h1, h2, h3 => by
    refine Ev.succ ?_
    simp only [spec_HexSymmetries.l0]
    exact Ev.neg (by omega) (Ev.of_eq (Ev.now _) (by simp [symH]))
  | n + 1, t, s, h1, h2, h3 => by
    refine Ev.succ ?_
    simp only [spec_HexSymmetries.l0]
    have ew : wrap64 (t + 1) = t + 1 := w64 (by omega) (by omega)
    have hlen := formsF_len l 12 0
    have e1 : rd_L2 (formsF l 12 0) t = hexF l t := by
      unfold rd_L2
      rw [List.getD_eq_getElem?_getD, formsF_get l 12 0 t.toNat (by omega)]
      show hexF l (0 + (t.toNat : Int)) = _
      congr 1; omega
    have e0 : rd_L2 (formsF l 12 0) 0 = hexF l 0 := by
      unfold rd_L2
      rw [List.getD_eq_getElem?_getD, formsF_get l 12 0 (0 : Int).toNat (by decide)]
      rfl
    have hf : small (hexF l t) := by unfold small; rw [hexF_len]; omega
    simp only [e1, e0, ew]
    refine Ev.pos (by omega) (Ev.pos h1 (Ev.pos (by omega) (Ev.pos (by omega) (Ev.bind (specCompare_ev _ _ hf) ?_))))
    unfold symH
    by_cases h : hexF l t = hexF l 0
    · rw [if_pos h]
      exact Ev.pos ((cmpS_zero _ _).2 h) (Ev.pos (by omega) (Ev.of_eq (specHSym_l l hl n (t + 1) (s ++ [t]) (by omega) (by omega) (by simp; omega)) (by simp)))
    · rw [if_neg h]
      exact Ev.neg (fun e => h ((cmpS_zero _ _).1 e)) (specHSym_l l hl n (t + 1) s (by omega) (by omega) (by omega))
theorem implHSym_l (l : List Cell) (hl : l.length ≤ 1048576) (h0 : 0 < l.length) : ∀ (n : Nat) (t : Int) (s : List Int), 0 ≤ t → t + (n : Int) = 12 → s.length + n ≤ 12 → Ev (fun k => impl_HexSymmetries.l0 k l s (hexF l 0) t) (s ++ symH l n t, (0 : Int))
  | 0, t, s, h1, h2, h3 => by
    refine Ev.succ ?_
    simp only [impl_HexSymmetries.l0]
    exact Ev.neg (by omega) (Ev.of_eq (Ev.now _) (by simp [symH]))
  | n + 1, t, s, h1, h2, h3 => by
    refine Ev.succ ?_
    simp only [impl_HexSymmetries.l0]
    have ew : wrap64 (t + 1) = t + 1 := w64 (by omega) (by omega)
    have hf : small (normalL (latL l t)) := by have := hexF_len l t; unfold hexF at this; unfold small; omega
    refine Ev.pos (by omega) (Ev.bind (implHexForm_ev l t h1 hl h0) (Ev.bind (equalC_ev _ _ hf) ?_))
    simp only [ew, decide_eq_true_eq]
    unfold symH
    by_cases h : hexF l t = hexF l 0
    · rw [if_pos h]
      exact Ev.pos h (Ev.pos (by omega) (Ev.of_eq (implHSym_l l hl h0 n (t + 1) (s ++ [t]) (by omega) (by omega) (by simp; omega)) (by simp)))
    · rw [if_neg h]
      exact Ev.neg h (implHSym_l l hl h0 n (t + 1) s (by omega) (by omega) (by omega))
def hsymR (l : List Cell) : List Int × Int := if shapeB l = true then (if okF l 12 0 = true then (symH l 12 0, 0) else ([], 3)) else ([], 1)
theorem hsymR_len (l : List Cell) : (hsymR l).1.length ≤ 12 := by
  unfold hsymR
  split
  · split
    · exact symH_len l 12 0
    · simp
  · simp
theorem specHSymR_ev (l : List Cell) (hl : l.length ≤ 1048576) : Ev (fun k => spec_HexSymmetries.f k l) (hsymR l) := by
  have hs : small l := by unfold small; omega
  unfold spec_HexSymmetries.f hsymR
  refine Ev.bind (specIsShape_ev l hs) (Ev.if_ (fun hr => ?_) (fun _ => Ev.now _))
  have hF : Ev (fun k => spec_l07Forms.f k 1 l) (formsF l 12 0, okF l 12 0) := by
    unfold spec_l07Forms.f
    exact Ev.of_eq (specForms_l l hl (shape_pos hr) 12 0 [] true (by omega) (by omega) (by simp)) (by simp)
  exact Ev.bind hF (Ev.if_ (fun _ => Ev.of_eq (specHSym_l l hl 12 0 [] (by omega) (by omega) (by simp)) (by simp)) (fun _ => Ev.now _))
theorem hexF0 {l : List Cell} (h : shapeB l = true) : hexF l 0 = normalL l := by
  unfold hexF latL
  have e : l.map (latD 0) = l := by
    have : latD 0 = id := by funext c; rfl
    rw [this, List.map_id]
  rw [e, sortC_id ((shapeB_iff.1 h).2.1.imp fun {a b} hab hba => ltC_irrefl a (ltC_trans hab hba))]
theorem implHSymR_ev (l : List Cell) (hl : l.length ≤ 1048576) : Ev (fun k => impl_HexSymmetries.f k l) (hsymR l) := by
  have hs : small l := by unfold small; omega
  unfold impl_HexSymmetries.f hsymR
  refine Ev.bind (implIsShape_ev l hs) (Ev.if_ (fun hr => ?_) (fun _ => Ev.now _))
  obtain ⟨m, hm⟩ := implLeast_l l hl (shape_pos hr) 12 0 [] (by omega) (by omega) (by simp) (fun x hx => by simp at hx)
  have hL : Ev (fun k => impl_leastForm__impl_hexForm.f k l) (m, okF l 12 0) := by
    unfold impl_leastForm__impl_hexForm.f
    exact hm
  refine Ev.bind hL (Ev.if_ (fun _ => ?_) (fun _ => Ev.now _))
  refine Ev.bind (Ev.of_eq (implNormal_ev l hl (shape_pos hr)) (hexF0 hr).symm) ?_
  exact Ev.of_eq (implHSym_l l hl (shape_pos hr) 12 0 [] (by omega) (by omega) (by simp)) (by simp)
end Go.Proofs.Ytlnliahadgmbcaa.L
end
section
namespace Go.Proofs.Ytlnliahadgmbcaa.L
open Go.RowKit Go.Proofs.YtlnliahadgmbcaaW.PrintWords Go.Proofs.YtlnliahadgmbcaaW.PrintLast Go.Proofs.YtlnliahadgmbcaaW.PrintMore Go.Proofs.Ytlnliahadgmbcaa.F
set_option linter.unusedVariables false
set_option linter.unusedSimpArgs false
set_option linter.unusedSectionVars false
def cells (l : List Cell) (h : List Int) : List Cell := h.map fun j => rd_T59 l j
def Sim (l : List Cell) (o h : List Int) : Prop := ∀ j : Int, 0 ≤ j → j < (l.length : Int) → (j ∈ h ↔ 0 ≤ rd o j)
theorem idxC_rd {l : List Cell} {d : Cell} (h : idxC l d ≥ 0) : rd_T59 l (idxC l d) = d := by
  rcases idxC_spec l d with ⟨h1, _⟩ | ⟨j, h1, h2, h3, _⟩
  · omega
  · rw [h2]
    unfold rd_T59
    rw [List.getD_eq_getElem?_getD, Int.toNat_natCast, h3]
    rfl
theorem rd_inj {l : List Cell} (hn : l.Nodup) {i j : Int} (hi : 0 ≤ i ∧ i < (l.length : Int)) (hj : 0 ≤ j ∧ j < (l.length : Int)) (h : rd_T59 l i = rd_T59 l j) : i = j := by
  unfold rd_T59 at h
  rw [List.getD_eq_getElem?_getD, List.getD_eq_getElem?_getD, List.getElem?_eq_getElem (show i.toNat < l.length by omega), List.getElem?_eq_getElem (show j.toNat < l.length by omega)] at h
  have h' : l[i.toNat]'(by omega) = l[j.toNat]'(by omega) := h
  have key := List.pairwise_iff_getElem.1 hn
  rcases Nat.lt_trichotomy i.toNat j.toNat with e | e | e
  · exact absurd h' (key _ _ _ _ e)
  · omega
  · exact absurd h'.symm (key _ _ _ _ e)
theorem kept_iff {l : List Cell} (hn : l.Nodup) {o h : List Int} (hs : Sim l o h) (hr : ∀ j ∈ h, 0 ≤ j ∧ j < (l.length : Int)) {d : Cell} (hd : idxC l d ≥ 0) : idxC (cells l h) d < 0 ↔ rd o (idxC l d) < 0 := by
  have hlt := idxC_lt l d
  have h1 : idxC (cells l h) d ≥ 0 ↔ 0 ≤ rd o (idxC l d) := by
    rw [idxC_mem, ← hs _ hd hlt]
    unfold cells
    rw [List.mem_map]
    constructor
    · rintro ⟨j, hj, e⟩
      have := rd_inj hn (hr j hj) ⟨hd, hlt⟩ (e.trans (idxC_rd hd).symm)
      exact this ▸ hj
    · intro hj
      exact ⟨_, hj, idxC_rd hd⟩
  omega
theorem visit1_sim {l : List Cell} {i : Int} (hi : 0 ≤ i) {s : List Int × List Int} (hf : Fine l s.1 s.2) (p : List Int) (hs : Sim l s.1 (p ++ s.2)) (d : Cell) : Sim l (visit1 l i s d).1 (p ++ (visit1 l i s d).2) := by
  unfold visit1
  by_cases hc : idxC l d ≥ 0 ∧ rd s.1 (idxC l d) < 0
  · rw [if_pos hc]
    have hlt := idxC_lt l d
    have hln := hf.len
    intro j hj hj'
    simp only
    rw [rd_set _ _ _ _ (by omega), ← List.append_assoc, List.mem_append, hs j hj hj']
    by_cases e : j.toNat = (idxC l d).toNat
    · rw [if_pos e]
      have : j = idxC l d := by omega
      simp [this, hi]
    · rw [if_neg e]
      have : ¬ j = idxC l d := fun h => e (by rw [h])
      simp [this]
  · rw [if_neg hc]
    exact hs
theorem visit_sim {l : List Cell} {i : Int} (hi : 0 ≤ i) (p : List Int) : ∀ (ds : List Cell) {s : List Int × List Int}, Fine l s.1 s.2 → Sim l s.1 (p ++ s.2) → Sim l (visit l i ds s).1 (p ++ (visit l i ds s).2)
  | [], s, hf, hs => hs
  | d :: r, s, hf, hs => visit_sim hi p r (visit1_fine hi hf d).1 (visit1_sim hi hf p hs d)
theorem cells_len (l : List Cell) (h : List Int) : (cells l h).length = h.length := by simp [cells]
section
variable (K : Int) (nb : Cell → List Cell) (l : List Cell) (hnb : ∀ c ∈ l, spec_l07Around.f K c.f0 c.f1 = some (nb c)) (hlen : ∀ c, (nb c).length ≤ 16)
include hnb hlen
theorem gr_l1 (hl : l.length ≤ 1048576) (hn : l.Nodup) (xs : List Cell) (hx4 : xs.length ≤ 16) (o p q : List Int) (hf : Fine l o q) (hp : ∀ j ∈ p, 0 ≤ j ∧ j < (l.length : Int)) (hs : Sim l o (p ++ q)) (hb : negs o + (p ++ q).length ≤ l.length) (at_ : Int) {r : Bool}
    (hc : Ev (fun k => spec_l07Connected.l0 k K l (cells l (p ++ (visit l 0 xs (o, q)).2)) (wrap64 (at_ + 1))) r) :
    Ev (fun k => spec_l07Connected.l1 k K l (cells l (p ++ q)) at_ xs 0) r := by
  have hsm : small xs := by unfold small; omega
  have hls : small l := by unfold small; omega
  refine loop_list xs (fun k j (s : List Int × List Int) => spec_l07Connected.l1 k K l (cells l (p ++ s.2)) at_ xs j) (fun _ _ _ => r) (fun pre s => s = visit l 0 pre (o, q)) ?_ ?_ (o, q) rfl
  · rintro s rfl
    simp only [spec_l07Connected.l1, len_lt, if_false]
    exact hc
  · rintro pre d suf s hx rfl ih
    obtain ⟨h1, h2, h3, _⟩ := visit_fine (i := 0) (by omega) pre (s := (o, q)) hf
    have h4 := visit_sim (i := 0) (by omega) p pre (s := (o, q)) hf hs
    simp only at h2 h3
    have hln := h1.len
    have hq : (p ++ (visit l 0 pre (o, q)).2).length ≤ l.length := by
      rw [List.length_append] at hb ⊢
      omega
    simp only [spec_l07Connected.l1, pre_lt hx, pre_0, if_true, at_pre hx, pre_w hx hsm]
    refine Ev.bind (specIndex_ev l d hls) ?_
    by_cases hg : idxC l d ≥ 0
    · refine Ev.pos hg (Ev.bind (specIndex_ev _ d (by unfold small; rw [cells_len]; omega)) ?_)
      have hk := kept_iff hn h4 (fun j hj => by
        rcases List.mem_append.1 hj with hj | hj
        · exact hp j hj
        · exact h1.rng j hj) hg
      by_cases hr : rd (visit l 0 pre (o, q)).1 (idxC l d) < 0
      · refine Ev.pos (hk.2 hr) (Ev.pos (by rw [cells_len]; omega) ?_)
        have e : visit1 l 0 (visit l 0 pre (o, q)) d = ((visit l 0 pre (o, q)).1.set (idxC l d).toNat 0, (visit l 0 pre (o, q)).2 ++ [idxC l d]) := by
          unfold visit1; rw [if_pos ⟨hg, hr⟩]
        have h := ih ((visit l 0 pre (o, q)).1.set (idxC l d).toNat 0, (visit l 0 pre (o, q)).2 ++ [idxC l d]) (by rw [visit_snoc, e])
        have e2 : cells l (p ++ ((visit l 0 pre (o, q)).2 ++ [idxC l d])) = cells l (p ++ (visit l 0 pre (o, q)).2) ++ [(⟨d.f0, d.f1⟩ : Cell)] := by
          unfold cells
          rw [← List.append_assoc, List.map_append (l₂ := [idxC l d])]
          simp [idxC_rd hg]
        rw [← e2]
        exact h
      · refine Ev.neg (fun h => hr (hk.1 h)) (ih _ ?_)
        rw [visit_snoc]
        unfold visit1
        rw [if_neg fun h => hr h.2]
    · refine Ev.neg hg (ih _ ?_)
      rw [visit_snoc]
      unfold visit1
      rw [if_neg fun h => hg h.1]
theorem gr_l0 (hl : l.length ≤ 1048576) (hn : l.Nodup) : ∀ (n : Nat) (o p q : List Int), Fine l o q → (∀ j ∈ p, 0 ≤ j ∧ j < (l.length : Int)) → Sim l o (p ++ q) → negs o + (p ++ q).length = l.length → negs o + q.length ≤ n →
    Ev (fun k => spec_l07Connected.l0 k K l (cells l (p ++ q)) (p.length : Int)) (decide (negs (bfs nb l 0 n o q) = 0)) := by
  intro n
  have done : ∀ (n : Nat) (o p : List Int), negs o + p.length = l.length → Ev (fun k => spec_l07Connected.l0 k K l (cells l (p ++ [])) (p.length : Int)) (decide (negs (bfs nb l 0 n o []) = 0)) := by
    intro n o p hb
    refine Ev.succ ?_
    simp only [spec_l07Connected.l0, List.append_nil, cells_len, bfs_nil]
    refine Ev.neg (by omega) (Ev.of_eq (Ev.now _) ?_)
    rw [Bool.eq_iff_iff, beq_iff_eq, decide_eq_true_eq]
    omega
  induction n with
  | zero =>
    intro o p q hf hp hs hb hm
    obtain rfl : q = [] := List.length_eq_zero_iff.1 (by omega)
    exact done 0 o p (by simpa using hb)
  | succ n ih =>
    intro o p q hf hp hs hb hm
    cases q with
    | nil => exact done (n + 1) o p (by simpa using hb)
    | cons c q =>
      refine Ev.succ ?_
      have hr := hf.rng c List.mem_cons_self
      have hlen' : (p ++ c :: q).length = p.length + (q.length + 1) := by simp
      have e1 : rd_T59 (cells l (p ++ c :: q)) (p.length : Int) = rd_T59 l c := by
        unfold cells
        rw [List.map_append, List.map_cons]
        have := getD_at (p.map fun j => rd_T59 l j) (q.map fun j => rd_T59 l j) (rd_T59 l c) z59
        rw [List.length_map] at this
        exact this
      simp only [spec_l07Connected.l0, e1, cells_len]
      refine Ev.pos (by rw [hlen']; omega) (Ev.pos (by omega) ?_)
      have hmem : rd_T59 l c ∈ l := by
        unfold rd_T59
        rw [List.getD_eq_getElem?_getD, List.getElem?_eq_getElem (show c.toNat < l.length by omega)]
        exact List.getElem_mem _
      simp only [hnb _ hmem, Option.bind_some]
      have hf' : Fine l o q := ⟨hf.len, fun j hj => hf.rng j (List.mem_cons_of_mem _ hj)⟩
      obtain ⟨h1, h2, h3, _⟩ := visit_fine (i := 0) (by omega) (nb (rd_T59 l c)) (s := (o, q)) hf'
      simp only at h2 h3
      have ea : p ++ c :: q = (p ++ [c]) ++ q := by simp
      have ew : wrap64 ((p.length : Int) + 1) = ((p ++ [c]).length : Int) := by
        rw [w64 (by omega) (by omega)]; simp
      rw [ea] at hb hs ⊢
      have hp' : ∀ j ∈ p ++ [c], 0 ≤ j ∧ j < (l.length : Int) := by
        intro j hj
        rcases List.mem_append.1 hj with hj | hj
        · exact hp j hj
        · simp at hj; exact hj ▸ hr
      refine gr_l1 K nb l hnb hlen hl hn _ (hlen _) o (p ++ [c]) q hf' hp' hs (by omega) _ ?_
      rw [ew]
      refine ih _ _ _ h1 hp' (visit_sim (i := 0) (by omega) (p ++ [c]) _ (s := (o, q)) hf' hs) ?_ ?_
      · simp only [List.length_append, List.length_singleton] at hb ⊢
        omega
      · simp only [List.length_cons] at hm
        omega
theorem gr_ev (hl : l.length ≤ 1048576) (h0 : l ≠ []) (hn : l.Nodup) : Ev (fun k => spec_l07Connected.f k K l) (oneB (partsR nb l)) := by
  rw [oneB_first nb l h0]
  unfold spec_l07Connected.f
  have hp := List.length_pos_iff.2 h0
  obtain ⟨hf, hb⟩ := first_fine l h0
  refine Ev.pos (by omega) ?_
  have hs : Sim l ((List.replicate l.length (-1 : Int)).set 0 0) ([] ++ [0]) := by
    intro j hj hj'
    rw [rd_set _ _ _ _ (by simpa using hp)]
    obtain ⟨m, rfl⟩ := Int.eq_ofNat_of_zero_le hj
    rw [rd_rep (by omega)]
    by_cases e : m = 0
    · subst e; simp
    · rw [if_neg (by simpa using e)]; simp [e]
  exact gr_l0 K nb l hnb hlen hl hn l.length _ [] [0] hf (fun j hj => by simp at hj) hs (by simpa using hb) (by simp; omega)
end
end Go.Proofs.Ytlnliahadgmbcaa.L
end
section
namespace Go.Proofs.Ytlnliahadgmbcaa.L
open Go.RowKit Go.Proofs.YtlnliahadgmbcaaW.PrintWords Go.Proofs.Ytlnliahadgmbcaa.F
set_option linter.unusedVariables false
def hexC (c : Cell) : List Cell := [⟨c.f0, wrap64 (c.f1 - 1)⟩, ⟨wrap64 (c.f0 + 1), wrap64 (c.f1 - 1)⟩, ⟨wrap64 (c.f0 - 1), c.f1⟩, ⟨wrap64 (c.f0 + 1), c.f1⟩, ⟨wrap64 (c.f0 - 1), wrap64 (c.f1 + 1)⟩, ⟨c.f0, wrap64 (c.f1 + 1)⟩]
theorem implHex_eq (c : Cell) : impl_hexAround.f c.f0 c.f1 = some (hexC c) := rfl
theorem specHex_eq (c : Cell) : spec_l07Around.f 1 c.f0 c.f1 = some (hexC c) := rfl
theorem hexC_len (c : Cell) : (hexC c).length ≤ 16 := by simp [hexC]
theorem hexC_wf {c : Cell} (h : wfC c = true) : ∀ d ∈ hexC c, wfC d = true := by
  unfold wfC at h
  rw [Bool.and_eq_true] at h
  intro d hd
  simp only [hexC, List.mem_cons, List.not_mem_nil, or_false] at hd
  rcases hd with rfl | rfl | rfl | rfl | rfl | rfl <;> simp [wfC, h.1, h.2, wf_wrap]
end Go.Proofs.Ytlnliahadgmbcaa.L
end
section
namespace Go.Proofs.Ytlnliahadgmbcaa.L
open Go.RowKit Go.Proofs.YtlnliahadgmbcaaW.PrintWords Go.Proofs.YtlnliahadgmbcaaW.PrintLast Go.Proofs.YtlnliahadgmbcaaW.PrintMore Go.Proofs.Ytlnliahadgmbcaa.F
set_option linter.unusedVariables false
set_option linter.unusedSimpArgs false
theorem max_ev (l : List Int) (hs : small l) (h0 : 0 < l.length) (hp : ∀ x ∈ l, 0 ≤ x) : Ev (fun k => slices_Max_int64_int64.f k l) (l.foldl mx 0) := by
  unfold slices_Max_int64_int64.f
  obtain ⟨c, r, rfl⟩ : ∃ c r, l = c :: r := by cases l with | nil => simp at h0 | cons c r => exact ⟨c, r, rfl⟩
  refine Ev.neg (by omega) (Ev.pos (by omega) ?_)
  have h1 : rd (c :: r) 0 = c := rfl
  rw [h1]
  have := loop_tail c r (fun k i (s : Int) => slices_Max_int64_int64.l0 k (c :: r) s i) (fun _ suf s => suf.foldl mx s) (fun _ _ => True) ?_ ?_ c trivial
  · refine Ev.of_eq this ?_
    have hc := hp c List.mem_cons_self
    have : mx 0 c = c := by unfold mx; split <;> omega
    simp [this]
  · rintro s _
    simp only [slices_Max_int64_int64.l0, len_lt, if_false]
    exact Ev.now _
  · rintro pre d suf s hx _ _ ih
    simp only [slices_Max_int64_int64.l0, pre_lt hx, pre_0, if_true, at_preI hx, pre_w hx hs]
    exact ih (mx s d) trivial
theorem foldl_mx : ∀ (l : List Int) (a : Int), 0 ≤ a → (∀ x ∈ l, 0 ≤ x) → 0 ≤ l.foldl mx a ∧ (l.foldl mx a = 0 ↔ a = 0 ∧ oneB l = true)
  | [], a, ha, _ => ⟨ha, by simp [oneB]⟩
  | c :: r, a, ha, h => by
    have hc := h c List.mem_cons_self
    have h1 : 0 ≤ mx a c := by unfold mx; split <;> omega
    obtain ⟨h2, h3⟩ := foldl_mx r (mx a c) h1 (fun x hx => h x (List.mem_cons_of_mem _ hx))
    refine ⟨h2, h3.trans ?_⟩
    have h4 : mx a c = 0 ↔ a = 0 ∧ c = 0 := by unfold mx; split <;> omega
    rw [h4]
    simp [oneB, and_assoc]
theorem ph_l3 (l : List Cell) (hl : l.length ≤ 1048576) (hn : l.Nodup) (i : Int) (hi : 0 ≤ i) (xs : List Cell) (hx4 : xs.length ≤ 16) (hwx : ∀ d ∈ xs, wfC d = true) (o p q : List Int) (hf : Fine l o q) (hb : negs o + (p ++ q).length ≤ l.length) (at_ len_ n_ : Int) {r : List Int}
    (hc : Ev (fun k => impl_parts__impl_hexAround.l2 k l (visit l i xs (o, q)).1 i (p ++ (visit l i xs (o, q)).2) (wrap64 (at_ + 1)) len_ n_) r) :
    Ev (fun k => impl_parts__impl_hexAround.l3 k l o i (p ++ q) at_ len_ n_ xs (xs.length : Int) 0) r := by
  have hsm : small xs := by unfold small; omega
  refine loop_list xs (fun k j (s : List Int × List Int) => impl_parts__impl_hexAround.l3 k l s.1 i (p ++ s.2) at_ len_ n_ xs (xs.length : Int) j) (fun _ _ _ => r) (fun pre s => s = visit l i pre (o, q)) ?_ ?_ (o, q) rfl
  · rintro s rfl
    simp only [impl_parts__impl_hexAround.l3, len_lt, if_false]
    exact hc
  · rintro pre d suf s hx rfl ih
    obtain ⟨h1, h2, h3, _⟩ := visit_fine hi pre (s := (o, q)) hf
    simp only at h2 h3
    have hln := h1.len
    have hd : wfC d = true := hwx d (by rw [hx]; simp)
    simp only [impl_parts__impl_hexAround.l3, pre_lt hx, pre_0, if_true, at_pre hx, pre_w hx hsm, look_eq l d hn hd, Option.bind_some]
    have hlt := idxC_lt l d
    have hq : (p ++ (visit l i pre (o, q)).2).length ≤ l.length := by
      rw [List.length_append] at hb ⊢
      omega
    by_cases hg : idxC l d ≥ 0
    · simp only [hg, if_true]
      refine Ev.pos (by omega) ?_
      by_cases hr : rd (visit l i pre (o, q)).1 (idxC l d) < 0
      · refine Ev.pos hr (Ev.pos (by omega) ?_)
        have e : visit1 l i (visit l i pre (o, q)) d = ((visit l i pre (o, q)).1.set (idxC l d).toNat i, (visit l i pre (o, q)).2 ++ [idxC l d]) := by
          unfold visit1; rw [if_pos ⟨hg, hr⟩]
        have h := ih ((visit l i pre (o, q)).1.set (idxC l d).toNat i, (visit l i pre (o, q)).2 ++ [idxC l d]) (by rw [visit_snoc, e])
        rw [List.append_assoc]
        exact h
      · refine Ev.neg hr (ih _ ?_)
        rw [visit_snoc]
        unfold visit1
        rw [if_neg fun h => hr h.2]
    · simp only [hg, if_false, Bool.false_eq_true]
      refine ih _ ?_
      rw [visit_snoc]
      unfold visit1
      rw [if_neg fun h => hg h.1]
theorem ph_l2 (l : List Cell) (hl : l.length ≤ 1048576) (hn : l.Nodup) (hw : l.all wfC = true) (i : Int) (hi : 0 ≤ i) (len_ n_ : Int) {r : List Int} : ∀ (n : Nat) (o p q : List Int), Fine l o q → negs o + (p ++ q).length ≤ l.length → negs o + q.length ≤ n →
    Ev (fun k => impl_parts__impl_hexAround.l1 k l (bfs hexC l i n o q) len_ (wrap64 (n_ + 1))) r → Ev (fun k => impl_parts__impl_hexAround.l2 k l o i (p ++ q) (p.length : Int) len_ n_) r := by
  intro n
  induction n with
  | zero =>
    intro o p q hf hb hm hc
    obtain rfl : q = [] := List.length_eq_zero_iff.1 (by omega)
    refine Ev.succ ?_
    simp only [impl_parts__impl_hexAround.l2, List.append_nil, len_lt, if_false]
    exact hc
  | succ n ih =>
    intro o p q hf hb hm hc
    refine Ev.succ ?_
    cases q with
    | nil =>
      simp only [impl_parts__impl_hexAround.l2, List.append_nil, len_lt, if_false]
      exact hc
    | cons c q =>
      have hr := hf.rng c List.mem_cons_self
      have hlen : (p ++ c :: q).length = p.length + (q.length + 1) := by simp
      have e1 : rd (p ++ c :: q) (p.length : Int) = c := by unfold rd; exact getD_at p q c _
      simp only [impl_parts__impl_hexAround.l2, e1]
      refine Ev.pos (by rw [hlen]; omega) (Ev.pos (by omega) (Ev.pos hr.1 (Ev.pos hr.2 ?_)))
      simp only [implHex_eq, Option.bind_some]
      have hf' : Fine l o q := ⟨hf.len, fun j hj => hf.rng j (List.mem_cons_of_mem _ hj)⟩
      have hwc : wfC (rd_T59 l c) = true := by
        refine List.all_eq_true.1 hw _ ?_
        unfold rd_T59
        rw [List.getD_eq_getElem?_getD, List.getElem?_eq_getElem (show c.toNat < l.length by omega)]
        exact List.getElem_mem _
      obtain ⟨h1, h2, h3, _⟩ := visit_fine hi (hexC (rd_T59 l c)) (s := (o, q)) hf'
      have ea : p ++ c :: q = (p ++ [c]) ++ q := by simp
      have ew : wrap64 ((p.length : Int) + 1) = ((p ++ [c]).length : Int) := by
        rw [w64 (by omega) (by omega)]; simp
      rw [ea] at hb ⊢
      refine ph_l3 l hl hn i hi (hexC (rd_T59 l c)) (hexC_len _) (hexC_wf hwc) o (p ++ [c]) q hf' hb _ _ _ ?_
      rw [ew]
      refine ih _ _ _ h1 ?_ ?_ hc
      · simp only [List.length_append, List.length_singleton] at hb ⊢
        simp only at h2 h3
        omega
      · simp only [List.length_cons] at hm
        simp only at h2
        omega
theorem ph_ev (l : List Cell) (hl : l.length ≤ 1048576) (hn : l.Nodup) (hw : l.all wfC = true) : Ev (fun k => impl_parts__impl_hexAround.f k l) (partsR hexC l) := by
  have hs : small l := by unfold small; omega
  unfold impl_parts__impl_hexAround.f
  refine Ev.pos hw (Ev.pos (by omega) (Ev.pos (by omega) ?_))
  have hz := loop_list l (fun k i (s : List Int) => impl_parts__impl_hexAround.l0 k l s l (l.length : Int) i) (fun _ _ _ => partsR hexC l) (fun pre s => s = List.replicate pre.length (-1) ++ List.replicate (l.length - pre.length) 0) ?_ ?_ (List.replicate (l.length : Int).toNat 0) (by simp)
  · exact hz
  · rintro s rfl
    simp only [impl_parts__impl_hexAround.l0, len_lt, if_false, Nat.sub_self, List.replicate_zero, List.append_nil]
    have := loop_list l (fun k i (s : List Int) => impl_parts__impl_hexAround.l1 k l s (l.length : Int) i) (fun pre suf s => partsF hexC l (pre.length : Int) suf s) (fun pre s => s.length = l.length ∧ ∀ j : Nat, j < pre.length → 0 ≤ rd s (j : Int)) ?_ ?_ (List.replicate l.length (-1)) ⟨by simp, fun j hj => by simp at hj⟩
    · exact this
    · rintro s _
      simp only [impl_parts__impl_hexAround.l1, len_lt, if_false]
      exact Ev.now _
    · rintro pre c suf s hx ⟨h1, h2⟩ ih
      have hp := pre_len hx
      obtain ⟨h3, h4⟩ := step_next (nb := hexC) (l := l) (o := s) (i := pre.length) h1 hp h2
      have hlt : ((pre.length : Int) < (s.length : Int)) = True := by rw [h1]; exact pre_lt hx
      simp only [impl_parts__impl_hexAround.l1, pre_lt hx, pre_0, if_true, hlt, pre_w hx hs, Int.toNat_natCast]
      have hih := ih _ ⟨h3, by simpa using h4⟩
      unfold partsF
      rw [Int.toNat_natCast]
      have ee : ((pre ++ [c]).length : Int) = (pre.length : Int) + 1 := by simp
      rw [ee] at hih
      by_cases hg : rd s (pre.length : Int) ≥ 0
      · rw [if_pos hg] at hih ⊢
        exact Ev.pos hg hih
      · rw [if_neg hg] at hih ⊢
        refine Ev.neg hg ?_
        obtain ⟨h5, h6⟩ := step_fine h1 hp hg
        have e0 : ([(pre.length : Int)] : List Int) = [] ++ [(pre.length : Int)] := rfl
        have := ph_l2 l hl hn hw (pre.length : Int) (by omega) (l.length : Int) (pre.length : Int) (r := partsF hexC l ((pre.length : Int) + 1) suf (bfs hexC l (pre.length : Int) l.length (s.set pre.length (pre.length : Int)) [(pre.length : Int)])) l.length (s.set pre.length (pre.length : Int)) [] [(pre.length : Int)] h5 (by simpa using h6) (by simpa using h6) (by
          rw [pre_w hx hs]; exact hih)
        exact this
  · rintro pre c suf s hx rfl ih
    have hp := pre_len hx
    have hlt : ((pre.length : Int) < ((List.replicate pre.length (-1 : Int) ++ List.replicate (l.length - pre.length) 0).length : Int)) = True := by simp; omega
    simp only [impl_parts__impl_hexAround.l0, pre_lt hx, pre_0, if_true, hlt, pre_w hx hs, Int.toNat_natCast]
    refine ih _ ?_
    have e : l.length - pre.length = (l.length - (pre.length + 1)) + 1 := by omega
    simp only [List.length_append, List.length_singleton]
    rw [e, List.replicate_succ, List.set_append_right _ _ (by simp)]
    simp [List.replicate_succ', List.append_assoc]
theorem ph_conn (l : List Cell) (hl : l.length ≤ 1048576) (h0 : l ≠ []) (hn : l.Nodup) (hw : l.all wfC = true) : Ev (fun k => impl_connected__impl_hexAround.f k l) (oneB (partsR hexC l)) := by
  unfold impl_connected__impl_hexAround.f
  have hln := partsR_len hexC l
  have hp := partsR_pos hexC l
  have hpos : 0 < (partsR hexC l).length := by rw [hln]; exact List.length_pos_iff.2 h0
  refine Ev.bind (ph_ev l hl hn hw) (Ev.bind (max_ev _ (by unfold small; omega) hpos hp) (Ev.of_eq (Ev.now _) ?_))
  have h := (foldl_mx (partsR hexC l) 0 (Int.le_refl _) hp).2
  rw [Bool.eq_iff_iff, beq_iff_eq, h]
  simp
end Go.Proofs.Ytlnliahadgmbcaa.L
end
section
namespace Go.Proofs.Ytlnliahadgmbcaa.L
open Go.RowKit Go.Proofs.YtlnliahadgmbcaaW.PrintWords Go.Proofs.YtlnliahadgmbcaaW.PrintLast Go.Proofs.YtlnliahadgmbcaaW.PrintMore Go.Proofs.Ytlnliahadgmbcaa.F
set_option linter.unusedVariables false
set_option linter.unusedSimpArgs false
theorem shape_fine {l : List Cell} (h : shapeB l = true) : l ≠ [] ∧ l.Nodup ∧ l.all wfC = true ∧ l.length ≤ 1048576 := by
  obtain ⟨h1, h2, h3, h4⟩ := shapeB_iff.1 h
  refine ⟨shape_ne h, h2.imp fun {a b} hab e => ?_, List.all_eq_true.2 fun c hc => wfC_ok (h1 c hc), by omega⟩
  subst e
  unfold ltC at hab
  omega
def hexB (l : List Cell) : Bool := shapeB l && oneB (partsR hexC l)
theorem specHexConn_ev (l : List Cell) (hs : small l) : Ev (fun k => spec_IsHexConnected.f k l) (hexB l) := by
  unfold spec_IsHexConnected.f hexB
  refine Ev.bind (specIsShape_ev l hs) ?_
  by_cases h : shapeB l = true
  · obtain ⟨h1, h2, h3, h4⟩ := shape_fine h
    refine Ev.pos h (Ev.bind (gr_ev 1 hexC l (fun c _ => specHex_eq c) hexC_len h4 h1 h2) (Ev.of_eq (Ev.now _) ?_))
    simp [h]
  · exact Ev.neg h (Ev.of_eq (Ev.now _) (by simp [h]))
theorem implHexConn_ev (l : List Cell) (hs : small l) : Ev (fun k => impl_IsHexConnected.f k l) (hexB l) := by
  unfold impl_IsHexConnected.f hexB
  refine Ev.bind (implIsShape_ev l hs) ?_
  by_cases h : shapeB l = true
  · obtain ⟨h1, h2, h3, h4⟩ := shape_fine h
    refine Ev.pos h (Ev.bind (ph_conn l h4 h1 h2 h3) (Ev.of_eq (Ev.now _) ?_))
    simp [h]
  · exact Ev.neg h (Ev.of_eq (Ev.now _) (by simp [h]))
end Go.Proofs.Ytlnliahadgmbcaa.L
end
section
namespace Go.Proofs.Ytlnliahadgmbcaa.L
open Go.RowKit Go.Proofs.YtlnliahadgmbcaaW.PrintWords Go.Proofs.YtlnliahadgmbcaaW.PrintLast Go.Proofs.YtlnliahadgmbcaaW.PrintMore Go.Proofs.Ytlnliahadgmbcaa.F
set_option linter.unusedVariables false
set_option linter.unusedSimpArgs false
theorem okF_iff (l : List Cell) : ∀ (n : Nat) (t : Int), okF l n t = true ↔ ∀ j : Nat, j < n → shapeB (hexF l (t + (j : Int))) = true
  | 0, t => ⟨fun _ j hj => by omega, fun _ => rfl⟩
  | n + 1, t => by
    unfold okF
    rw [Bool.and_eq_true, okF_iff l n (t + 1)]
    constructor
    · rintro ⟨h1, h2⟩ j hj
      cases j with
      | zero => simpa using h1
      | succ j =>
        have := h2 j (by omega)
        rw [show t + ((j + 1 : Nat) : Int) = t + 1 + (j : Int) by omega]
        exact this
    · intro h
      refine ⟨by simpa using h 0 (by omega), fun j hj => ?_⟩
      have := h (j + 1) (by omega)
      rw [show t + ((j + 1 : Nat) : Int) = t + 1 + (j : Int) by omega] at this
      exact this
theorem symH_cnt (l : List Cell) : ∀ (n t : Nat), (symH l n (t : Int)).length = ((List.range n).map (t + ·)).countP (fun u : Nat => decide (hexF l (u : Int) = hexF l ((0 : Nat) : Int)))
  | 0, t => rfl
  | n + 1, t => by
    have ih := symH_cnt l n (t + 1)
    rw [List.range_succ_eq_map, List.map_cons, List.countP_cons, List.map_map]
    have e : (fun x => t + x) ∘ Nat.succ = fun x => t + 1 + x := by funext x; simp only [Function.comp]; omega
    rw [e, ← ih]
    have e1 : (t : Int) + 1 = ((t + 1 : Nat) : Int) := by omega
    have e2 : symH l (n + 1) (t : Int) = if hexF l (t : Int) = hexF l 0 then (t : Int) :: symH l n ((t : Int) + 1) else symH l n ((t : Int) + 1) := by
      by_cases h : hexF l (t : Int) = hexF l 0
      · simp only [symH, if_pos h]
      · simp only [symH, if_neg h]
    rw [e2, e1]
    by_cases h : hexF l (t : Int) = hexF l 0
    · rw [if_pos h, List.length_cons]
      have h' : hexF l ((t + 0 : Nat) : Int) = hexF l ((0 : Nat) : Int) := h
      rw [if_pos (decide_eq_true h')]
    · rw [if_neg h]
      have h' : ¬ hexF l ((t + 0 : Nat) : Int) = hexF l ((0 : Nat) : Int) := h
      rw [if_neg (by simpa using h')]; rfl
theorem hexC_adj {c d : Cell} (h : boxP 1000 (toP c)) : d ∈ hexC c ↔ adjH (toP c) (toP d) := by
  unfold boxP toP at h
  simp only at h
  have w (n : Int) (h0 : -2000 ≤ n) (h1 : n ≤ 2000) : wrap64 n = n := w64 (by omega) (by omega)
  unfold hexC adjH unitsH sub2 toP
  rw [w (c.f1 - 1) (by omega) (by omega), w (c.f0 + 1) (by omega) (by omega), w (c.f0 - 1) (by omega) (by omega), w (c.f1 + 1) (by omega) (by omega)]
  simp only [List.mem_cons, List.not_mem_nil, or_false, cellP_eq, Prod.mk.injEq]
  refine or_congr ?_ (or_congr ?_ (or_congr ?_ (or_congr ?_ (or_congr ?_ ?_)))) <;> omega
theorem hex_form {l : List Cell} (hs : shapeB l = true) {t : Nat} (ht : t < 12) (hx : shapeB (hexF l (t : Int)) = true) : hexB (hexF l (t : Int)) = hexB l := by
  obtain ⟨w, φ, hw, hm, hφ⟩ := lform_move normalL_nf hs t
  have hA := mat2_mem ht
  have hb (s : List Cell) (h : shapeB s = true) (c : Cell) (hc : c ∈ s) : boxP 1000 (toP c) := box_le (shape_box h c hc) (by omega)
  have hmem (y : Cell) : y ∈ hexF l (t : Int) ↔ ∃ c ∈ l, φ c = y := hm.mem y
  have hsym (s : List Cell) (h : shapeB s = true) : ∀ c ∈ s, ∀ d ∈ s, d ∈ hexC c → c ∈ hexC d := fun c hc d hd hcd =>
    (hexC_adj (hb s h d hd)).2 (adjH_sym ((hexC_adj (hb s h c hc)).1 hcd))
  unfold hexB
  rw [hs, hx, Bool.true_and, Bool.true_and]
  rw [Bool.eq_iff_iff, oneB_conn (shape_ne hx) (shape_nodup hx) (hsym _ hx), oneB_conn (shape_ne hs) (shape_nodup hs) (hsym l hs)]
  refine (conn_map (hm.inj hA) (fun c hc d hd => ?_) hmem).symm
  rw [hexC_adj (hb l hs c hc), hexC_adj (hb _ hx _ ((hmem _).2 ⟨c, hc, rfl⟩)), mats2_adjH hA, hm.val c hc, hm.val d hd]
  unfold adjH sub2 add2
  simp only
  have e (a b c : Int) : a + c - (b + c) = a - b := by omega
  rw [e, e]
theorem likeG_ev (a b : List Cell) (hs : small a) : Ev (fun k => laws_likeCells.f k a b) (decide (a = b)) := by
  unfold laws_likeCells.f
  by_cases hl : a.length = b.length
  · refine Ev.pos (by omega) ?_
    have := loop_list a (fun k i (_ : Unit) => laws_likeCells.l0 k a b i) (fun pre suf _ => decide (suf = b.drop pre.length)) (fun _ _ => True) ?_ ?_ () trivial
    · refine Ev.of_eq this ?_
      simp
    · intro _ _
      simp only [laws_likeCells.l0, len_lt, if_false]
      refine Ev.of_eq (Ev.now _) ?_
      rw [hl, List.drop_length]
      simp
    · intro pre d suf _ hx _ ih
      have hp := pre_len hx
      have hpb : pre.length < b.length := by omega
      have eb : rd_T59 b (pre.length : Int) = b[pre.length] := by
        unfold rd_T59
        rw [List.getD_eq_getElem?_getD, Int.toNat_natCast, List.getElem?_eq_getElem hpb]; rfl
      have hlt : ((pre.length : Int) < (b.length : Int)) = True := by simp; omega
      simp only [laws_likeCells.l0, pre_lt hx, pre_0, if_true, at_pre hx, pre_w hx hs, hlt, eb]
      rw [List.drop_eq_getElem_cons hpb]
      have hih := ih () trivial
      rw [List.length_append, List.length_singleton] at hih
      generalize b.drop (pre.length + 1) = R at hih ⊢
      generalize b[pre.length] = e at hih ⊢
      by_cases he : d = e
      · subst he
        exact Ev.neg (by simp) (Ev.of_eq hih (by simp))
      · refine Ev.pos ?_ (Ev.of_eq (Ev.now _) (by simp [he]))
        have : ¬ (d.f0 = e.f0 ∧ d.f1 = e.f1) := fun h => he (cellP_eq.2 h)
        by_cases h0 : d.f0 = e.f0
        · have h1 : d.f1 ≠ e.f1 := fun h => this ⟨h0, h⟩
          simp [h1]
        · simp [h0]
  · exact Ev.neg (by omega) (Ev.of_eq (Ev.now _) (by symm; rw [decide_eq_false_iff_not]; intro e; exact hl (by rw [e])))
theorem likeIS_ev (a : List Int) (hs : small a) : Ev (fun k => laws_likeInts.f k a a) true := by
  unfold laws_likeInts.f
  refine Ev.pos rfl ?_
  refine loop_list a (fun k i (_ : Unit) => laws_likeInts.l0 k a a i) (fun _ _ _ => true) (fun _ _ => True) ?_ ?_ () trivial
  · intro _ _
    simp only [laws_likeInts.l0, len_lt, if_false]
    exact Ev.now _
  · intro pre d suf _ hx _ ih
    simp only [laws_likeInts.l0, pre_lt hx, pre_0, if_true, pre_w hx hs]
    exact ih () trivial
theorem law_l1 (l : List Cell) (s : List Int) (D : List (List Cell)) (t : Int) (x : List Cell) (hD : D.length ≤ 12) (hsm : ∀ y ∈ D, small y) {r : Bool}
    (hc : Ev (fun k => laws_FnHexForms.l0 k l s (if x ∈ D then D else D ++ [x]) (wrap64 (t + 1))) r) : ∀ (suf pre : List (List Cell)) (b : Bool), D = pre ++ suf → (b = true ↔ x ∈ pre) →
    Ev (fun k => laws_FnHexForms.l1 k l s D t x b (pre.length : Int)) r
  | [], pre, b, hx, hb => by
    refine Ev.succ ?_
    have hp := congrArg List.length hx
    simp only [List.length_append, List.length_nil] at hp
    rw [List.append_nil] at hx
    subst hx
    simp only [laws_FnHexForms.l1]
    refine Ev.neg (by omega) ?_
    by_cases hm : x ∈ D
    · rw [if_pos hm] at hc
      exact Ev.pos (hb.2 hm) hc
    · rw [if_neg hm] at hc
      exact Ev.neg (fun h => hm (hb.1 h)) (Ev.pos (by omega) hc)
  | y :: suf, pre, b, hx, hb => by
    refine Ev.succ ?_
    have hs : small D := by unfold small; omega
    have ih (b' : Bool) (h : b' = true ↔ x ∈ pre ++ [y]) := law_l1 l s D t x hD hsm hc suf (pre ++ [y]) b' (by rw [hx]; simp) h
    simp only [List.length_append, List.length_singleton, Int.natCast_add] at ih
    have hr : rd_L2 D (pre.length : Int) = y := by rw [hx]; exact getD_at pre suf y _
    simp only [laws_FnHexForms.l1, pre_lt hx, pre_0, if_true, hr, pre_w hx hs]
    cases b with
    | true => exact Ev.pos rfl (ih true (by simp [hb.1 rfl]))
    | false =>
      have hn : x ∉ pre := fun h => by simpa using hb.2 h
      refine Ev.neg (by simp) (Ev.bind (likeG_ev y x (hsm y (by rw [hx]; simp))) (ih _ ?_))
      rw [decide_eq_true_eq, List.mem_append, List.mem_singleton]
      constructor
      · intro h; exact .inr h.symm
      · rintro (h | h)
        · exact absurd h hn
        · exact h.symm
theorem law_l0 (l : List Cell) (hl : l.length ≤ 100) (hs : shapeB l = true) (hok : okF l 12 0 = true) (s : List Int) (hsl : s.length ≤ 12) (hfin : ((distF (fun u : Nat => hexF l (u : Int)) 12).length : Int) * (s.length : Int) = 12) : ∀ (q t : Nat), t + q = 12 →
    Ev (fun k => laws_FnHexForms.l0 k l s (distF (fun u : Nat => hexF l (u : Int)) t) (t : Int)) true
  | 0, t, ht => by
    refine Ev.succ ?_
    have e : t = 12 := by omega
    subst e
    simp only [laws_FnHexForms.l0]
    refine Ev.neg (by omega) (Ev.of_eq (Ev.now _) ?_)
    rw [hfin, w64 (by omega) (by omega)]; rfl
  | q + 1, t, ht => by
    refine Ev.succ ?_
    have ht12 : t < 12 := by omega
    have hx : shapeB (hexF l (t : Int)) = true := by
      have := (okF_iff l 12 0).1 hok t ht12
      rwa [show (0 : Int) + (t : Int) = (t : Int) by omega] at this
    have hr : hexR l (t : Int) = (hexF l (t : Int), 0) := by
      unfold hexR formR
      have hx' : shapeB (normalL (latL l (t : Int))) = true := hx
      rw [if_pos hs, if_pos (by omega), if_pos hx']
      rfl
    have hxl := hexF_len l (t : Int)
    have hxs : small (hexF l (t : Int)) := by unfold small; omega
    have hlen := distF_len (fun u : Nat => hexF l (u : Int)) t
    simp only [laws_FnHexForms.l0]
    refine Ev.pos (by omega) (Ev.bind (Ev.of_eq (implHexFormC_ev l (t : Int) (by omega)) hr) (Ev.bind (Ev.of_eq (specHexForm_ev l (t : Int) (by omega)) hr) (Ev.pos rfl (Ev.bind (likeCC_ev _ hxs) (Ev.pos rfl (Ev.bind (implHexConn_ev _ hxs) (Ev.bind (implHexConn_ev l (by unfold small; omega)) ?_)))))))
    rw [hex_form hs ht12 hx]
    refine Ev.step (fun k => laws_FnHexForms.j2.eq_2 _ _ _ _ _ _ _) (Ev.neg (by simp) ?_)
    refine law_l1 l s (distF (fun u : Nat => hexF l (u : Int)) t) (t : Int) (hexF l (t : Int)) (by omega) (fun y hy => ?_) ?_ (distF (fun u : Nat => hexF l (u : Int)) t) [] false rfl (by simp)
    · obtain ⟨j, _, rfl⟩ := (distF_mem _ t y).1 hy
      have := hexF_len l (j : Int)
      show (hexF l (j : Int)).length ≤ _
      omega
    · have ih := law_l0 l hl hs hok s hsl hfin q (t + 1) (by omega)
      have ew : wrap64 ((t : Int) + 1) = ((t + 1 : Nat) : Int) := by rw [w64 (by omega) (by omega)]; omega
      rw [ew]
      have e : distF (fun u : Nat => hexF l (u : Int)) (t + 1) = if hexF l (t : Int) ∈ distF (fun u : Nat => hexF l (u : Int)) t then distF (fun u : Nat => hexF l (u : Int)) t else distF (fun u : Nat => hexF l (u : Int)) t ++ [hexF l (t : Int)] := by
        by_cases h : hexF l (t : Int) ∈ distF (fun u : Nat => hexF l (u : Int)) t
        · simp only [distF, if_pos h]
        · simp only [distF, if_neg h]
      rw [e] at ih
      exact ih
end Go.Proofs.Ytlnliahadgmbcaa.L
namespace Go.Proofs.Ytlnliahadgmbcaa.Pure
open Go.RowKit Go.Proofs.YtlnliahadgmbcaaW.PrintWords Go.Proofs.Ytlnliahadgmbcaa.F Go.Proofs.Ytlnliahadgmbcaa.L
set_option linter.unusedVariables false
theorem FnHexForms (l0 : List Int) (hv0 : l0.length ≤ 9223372036854775807 ∧ ∀ x ∈ l0, (Lit.int .u8 x).wf = true) : ∃ k, laws_FnHexForms.f k l0 = some true := by
  refine Ev.rounds ?_
  obtain ⟨hm, hv⟩ := hv0
  have hb : ∀ x ∈ l0, 0 ≤ x ∧ x ≤ 255 := fun x hx => by
    have := hv x hx
    have m0 : IntKind.u8.min = 0 := by decide
    have m1 : IntKind.u8.max = 255 := by decide
    simp [Lit.wf, m0, m1] at this
    omega
  unfold laws_FnHexForms.f
  refine Ev.bind0 rfl ?_
  by_cases hbig : (l0.length : Int) > 4096
  · exact Ev.pos (by simpa using hbig) (Ev.now _)
  refine Ev.neg (by simpa using hbig) ?_
  obtain ⟨l, e1, q1⟩ := drawHexSym_ex l0 (by omega) hb
  have hs : small l := by unfold small; omega
  have c1 : small (hsymR l).1 := by have := hsymR_len l; unfold small; omega
  have c2 : small (hexGFree l).1 := by have := hexGFree_len l; unfold small; omega
  refine Ev.bind e1 (Ev.bind (implHSymR_ev l (by omega)) (Ev.bind (specHSymR_ev l (by omega)) (Ev.bind (implHexFree_ev l (by omega)) (Ev.bind (specHexFree_ev l (by omega)) ?_))))
  refine Ev.pos rfl (Ev.bind (likeIS_ev _ c1) (Ev.pos rfl (Ev.pos rfl (Ev.bind (likeCC_ev _ c2) (Ev.pos rfl (Ev.bind (implHexConn_ev l hs) (Ev.bind (specHexConn_ev l hs) ?_)))))))
  refine Ev.step (fun k => laws_FnHexForms.j0.eq_2 _ _ _ _ _) (Ev.neg (by simp) ?_)
  by_cases hz : (hsymR l).2 = 0
  · refine Ev.pos hz ?_
    have hfacts : shapeB l = true ∧ okF l 12 0 = true := by
      unfold hsymR at hz
      by_cases h1 : shapeB l = true
      · rw [if_pos h1] at hz
        by_cases h2 : okF l 12 0 = true
        · exact ⟨h1, h2⟩
        · rw [if_neg h2] at hz; simp at hz
      · rw [if_neg h1] at hz; simp at hz
    obtain ⟨h1, h2⟩ := hfacts
    have hr : (hsymR l).1 = symH l 12 0 := by unfold hsymR; rw [if_pos h1, if_pos h2]
    rw [hr]
    have hok (u : Nat) (hu : u < 12) : shapeB (hexF l (u : Int)) = true := by
      have := (okF_iff l 12 0).1 h2 u hu
      rwa [show (0 : Int) + (u : Int) = (u : Int) by omega] at this
    have htw := twelve (fun u : Nat => hexF l (u : Int)) (fun s x => normalL (latL x (s : Int))) (fun s t u hs12 ht12 hu12 e => by
      exact (lform_form normalL_nf h1 hs12 (hok t ht12) e).symm)
    have hc := symH_cnt l 12 0
    have e0 : (List.range 12).map (0 + ·) = List.range 12 := by decide
    rw [e0] at hc
    refine law_l0 l q1 h1 h2 (symH l 12 0) (symH_len l 12 0) ?_ 12 0 rfl
    have hc' : (symH l 12 0).length = (List.range 12).countP (fun u : Nat => decide (hexF l (u : Int) = hexF l ((0 : Nat) : Int))) := hc
    rw [hc']
    exact htw
  · exact Ev.neg hz (Ev.now _)
end Go.Proofs.Ytlnliahadgmbcaa.Pure
end
