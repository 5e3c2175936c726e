/- The row of FnHoles, with what it needs: text 11 of 12. -/
import Derived.Test.YtaecheolnpofeaaJ9
set_option maxHeartbeats 8000000
set_option maxRecDepth 100000
section
namespace Go.Proofs.Ytaecheolnpofeaa.L
open Go.RowKit Go.Proofs.YtaecheolnpofeaaW.PrintWords Go.Proofs.YtaecheolnpofeaaW.PrintLast Go.Proofs.YtaecheolnpofeaaW.PrintMore Go.Proofs.Ytaecheolnpofeaa.F
set_option linter.unusedVariables false
set_option linter.unusedSimpArgs false
theorem impl_hl3 (l : List Cell) (p : List Int) (m : Nat) (hm : m ≤ 1048576) : Ev (fun k => impl_holes.l3 k l [] p ((rootsI p m).drop 1) (((rootsI p m).drop 1).length : Int) 0) (partsBut l p m) := by
  have hln : ((rootsI p m).drop 1).length ≤ 1048576 := by have := rootsI_len p m; rw [List.length_drop]; omega
  have hmem : ∀ x ∈ (rootsI p m).drop 1, 0 ≤ x ∧ x < (m : Int) := fun x hx => rootsI_mem (List.mem_of_mem_drop hx)
  unfold partsBut
  generalize (rootsI p m).drop 1 = y at *
  have hs : small y := by unfold small; omega
  have := loop_list y (fun k i (s : List (List Cell)) => impl_holes.l3 k l s p y (y.length : Int) i) (fun _ _ _ => y.map fun r => grp l p p.length r) (fun pre s => s = pre.map fun r => grp l p p.length r) ?_ ?_ [] rfl
  · exact this
  · rintro s rfl
    simp only [impl_holes.l3, len_lt, if_false]
    exact Ev.now _
  · rintro pre c suf s hx rfl ih
    have hc := hmem c (by rw [hx]; simp)
    have hp := pre_len hx
    have hrow : impl_holesRow.f l p c = some (grp l p p.length c) := by
      unfold impl_holesRow.f
      rw [if_pos (wf64 (by omega) (by omega))]
    simp only [impl_holes.l3, pre_lt hx, pre_0, if_true, pre_w hx hs, rd_pre hx]
    refine Ev.bind0 hrow (Ev.pos (by rw [List.length_map]; omega) (ih _ (by simp)))
theorem impl_hl2 {l : List Cell} {p : List Int} (h : Marks l p) (h0 : 0 < l.length) (hl : l.length ≤ 1048576) : Ev (fun k => impl_holes.l2 k l [] p (p.length : Int) 0) (partsBut l p l.length) := by
  have hpl := h.len
  have hs : small p := by unfold small; omega
  have := loop_list p (fun k i (s : List Int) => impl_holes.l2 k l s p (p.length : Int) i) (fun _ _ _ => partsBut l p l.length) (fun pre s => s = rootsI p pre.length) ?_ ?_ [] rfl
  · exact this
  · rintro s rfl
    rw [hpl]
    obtain ⟨m, hm⟩ : ∃ m, l.length = m + 1 := ⟨l.length - 1, by omega⟩
    obtain ⟨r, hr⟩ := rootsI_first h m h0
    have h1 : (1 : Int) ≤ ((rootsI p l.length).length : Int) := by rw [hm, hr, List.length_cons]; omega
    have hlt : ((l.length : Int) < (l.length : Int)) = False := by simp
    simp only [impl_holes.l2, hlt, if_false]
    exact Ev.pos h1 (Ev.bind0 rfl (impl_hl3 l p l.length hl))
  · rintro pre c suf s hx rfl ih
    have hp := pre_len hx
    have hi : pre.length < l.length := by omega
    obtain ⟨r1, r2, r3⟩ := h.root pre.length hi
    have hc : rd p (pre.length : Int) = c := rd_pre hx
    have hlenf : impl_holesLen.f l p (pre.length : Int) c = some ((grp l p pre.length c).length : Int) := by
      unfold impl_holesLen.f
      rw [if_pos ⟨wf64 (by omega) (by omega), by omega, by omega, by omega⟩, Int.toNat_natCast]
    have hz := grp_zero h pre.length hi
    rw [rd_nat] at hc
    rw [hc] at hz
    have hc' : rd p (pre.length : Int) = c := rd_pre hx
    simp only [impl_holes.l2, pre_lt hx, pre_0, if_true, pre_w hx hs, hc']
    refine Ev.bind0 hlenf ?_
    have hl9 := rootsI_len p pre.length
    by_cases e : (grp l p pre.length c).length = 0
    · refine Ev.pos (by omega) (Ev.pos (by omega) (ih _ ?_))
      rw [List.length_append, List.length_singleton, rootsI_succ, hc, if_pos (hz.1 e), hz.1 e]
    · refine Ev.neg (by omega) (ih _ ?_)
      rw [List.length_append, List.length_singleton, rootsI_succ, hc, if_neg (fun e2 => e (hz.2 e2)), List.append_nil]
theorem spec_hl3 {l : List Cell} {p : List Int} (h : Marks l p) (hl : l.length ≤ 1048576) (root : Int) (out : List (List Cell)) (ho : out.length ≤ 1048576) {r : List (List Cell)} (hk : Ev (fun k => spec_l06Holes.l2 k l p (out ++ [grp l p p.length root]) (wrap64 (root + 1))) r) :
    ∀ (suf pre : List Cell), l = pre ++ suf → Ev (fun k => spec_l06Holes.l3 k l p out root (grp l p pre.length root) (pre.length : Int)) r := by
  have hs : small l := by unfold small; omega
  intro suf
  induction suf with
  | nil =>
    intro pre hx
    rw [List.append_nil] at hx
    subst hx
    refine Ev.succ ?_
    simp only [spec_l06Holes.l3, len_lt, if_false]
    rw [← h.len]
    exact Ev.pos (by omega) hk
  | cons c suf ih =>
    intro pre hx
    refine Ev.succ ?_
    have hp := pre_len hx
    have hlt : ((pre.length : Int) < (p.length : Int)) = True := by rw [h.len]; exact pre_lt hx
    have ih' := ih (pre ++ [c]) (by rw [hx]; simp)
    have ee : ((pre ++ [c]).length : Int) = (pre.length : Int) + 1 := by simp
    have e1 : (pre ++ [c]).length = pre.length + 1 := by simp
    rw [ee, e1, grp_succ] at ih'
    have hg := grp_len l p pre.length root
    have hat : l.getD pre.length z44 = c := by rw [hx]; simp [List.getD]
    simp only [spec_l06Holes.l3, pre_lt hx, pre_0, if_true, pre_w hx hs, hlt, at_pre hx, rd_nat]
    rw [hat] at ih'
    by_cases e : p.getD pre.length 0 = root
    · rw [if_pos e] at ih'
      exact Ev.pos e (Ev.pos (by omega) ih')
    · rw [if_neg e, List.append_nil] at ih'
      exact Ev.neg e ih'
theorem spec_hl2 {c : Cell} {r : List Cell} {p : List Int} (h : Marks (c :: r) p) (hl : (c :: r).length ≤ 1048576) : Ev (fun k => spec_l06Holes.l2 k (c :: r) p [] 1) (partsBut (c :: r) p (c :: r).length) := by
  have hs : small (c :: r) := by unfold small; omega
  have h0 : 0 < (c :: r).length := by simp
  have := loop_tail c r (fun k i (s : List (List Cell)) => spec_l06Holes.l2 k (c :: r) p s i) (fun _ _ _ => partsBut (c :: r) p (c :: r).length) (fun pre s => s = partsBut (c :: r) p pre.length) ?_ ?_ [] ?_
  · exact this
  · rintro s rfl
    simp only [spec_l06Holes.l2, len_lt, if_false]
    exact Ev.now _
  · rintro pre d suf s hx hne rfl ih
    have hp := pre_len hx
    have hp0 : 0 < pre.length := List.length_pos_iff.2 hne
    have hlt : ((pre.length : Int) < (p.length : Int)) = True := by rw [h.len]; exact pre_lt hx
    obtain ⟨m, hm⟩ : ∃ m, pre.length = m + 1 := ⟨pre.length - 1, by omega⟩
    obtain ⟨t, ht⟩ := rootsI_first h m h0
    rw [← hm] at ht
    have hbut : partsBut (c :: r) p (pre.length + 1) = partsBut (c :: r) p pre.length ++ (if p.getD pre.length 0 = (pre.length : Int) then [grp (c :: r) p p.length (pre.length : Int)] else []) := by
      unfold partsBut
      rw [rootsI_succ, ht, List.cons_append, List.drop_one, List.drop_one, List.tail_cons, List.tail_cons, List.map_append]
      by_cases e : p.getD pre.length 0 = (pre.length : Int)
      · rw [if_pos e, if_pos e]; rfl
      · rw [if_neg e, if_neg e]; rfl
    have e1 : (pre ++ [d]).length = pre.length + 1 := by simp
    have hlb : (partsBut (c :: r) p pre.length).length ≤ 1048576 := by
      unfold partsBut
      have := rootsI_len p pre.length
      rw [List.length_map, List.length_drop]
      omega
    simp only [spec_l06Holes.l2, pre_lt hx, pre_0, if_true, hlt, rd_nat]
    by_cases e : p.getD pre.length 0 = (pre.length : Int)
    · refine Ev.pos e ?_
      have hz := spec_hl3 h hl (pre.length : Int) (partsBut (c :: r) p pre.length) hlb (r := partsBut (c :: r) p (c :: r).length) (by rw [pre_w hx hs]; exact ih _ (by rw [e1, hbut, if_pos e])) (d :: suf) pre hx
      rw [grp_none h pre.length hp e] at hz
      exact hz
    · refine Ev.neg e ?_
      rw [pre_w hx hs]
      exact ih _ (by rw [e1, hbut, if_neg e, List.append_nil])
  · show [] = partsBut (c :: r) p 1
    unfold partsBut
    rw [rootsI_one h h0]
    rfl
theorem implIndex_ev (l : List Cell) (c : Cell) (hs : small l) : Ev (fun k => impl_Cell_57.f k l c.f0 c.f1) (idxC l c) := by
  unfold impl_Cell_57.f
  refine loop_list l (fun k i (_ : Unit) => impl_Cell_57.l0 k l (l.length : Int) i c.f0 c.f1) (fun pre suf _ => idxF suf c (pre.length : Int)) (fun _ _ => True) ?_ ?_ () trivial
  · intro _ _
    simp only [impl_Cell_57.l0, len_lt, if_false]
    exact Ev.now _
  · intro pre d suf _ hx _ ih
    simp only [impl_Cell_57.l0, pre_lt hx, pre_0, if_true, at_pre hx, pre_w hx hs, idxF]
    have e : (c.f0 == d.f0 && c.f1 == d.f1) = sameC d c := by
      rw [Bool.eq_iff_iff]
      simp only [sameC, Bool.and_eq_true, beq_iff_eq, decide_eq_true_eq]
      constructor <;> (rintro ⟨h, h'⟩; exact ⟨h.symm, h'.symm⟩)
    rw [e]
    refine Ev.if_ (fun _ => Ev.now _) (fun _ => Ev.of_eq (ih () trivial) ?_)
    simp
theorem implContains_ev (l : List Cell) (c : Cell) (hs : small l) : Ev (fun k => impl_Cell_36.f k l c.f0 c.f1) (decide (idxC l c ≥ 0)) := by
  unfold impl_Cell_36.f
  exact Ev.bind (implIndex_ev l c hs) (Ev.now _)
def rowF (l : List Cell) (y : Int) : Nat → Int → List Cell
  | 0, _ => []
  | n + 1, x => (if idxC l ⟨x, y⟩ < 0 then [⟨x, y⟩] else []) ++ rowF l y n (x + 1)
def boxF (l : List Cell) (x0 : Int) (w : Nat) : Nat → Int → List Cell
  | 0, _ => []
  | n + 1, y => rowF l y w x0 ++ boxF l x0 w n (y + 1)
def freeL (l : List Cell) : List Cell := boxF l ((leastOf l).1 - 1) ((reachOf l).1 - (leastOf l).1 + 3).toNat ((reachOf l).2 - (leastOf l).2 + 3).toNat ((leastOf l).2 - 1)
def holesL (l : List Cell) : List (List Cell) := holesP (freeL l)
theorem rowF_in (l : List Cell) (y : Int) : ∀ (n : Nat) (x : Int), ∀ c ∈ rowF l y n x, c.f1 = y ∧ x ≤ c.f0 ∧ c.f0 < x + n
  | 0, x, c, h => by cases h
  | n + 1, x, c, h => by
    unfold rowF at h
    rcases List.mem_append.1 h with h | h
    · by_cases e : idxC l ⟨x, y⟩ < 0
      · rw [if_pos e] at h
        obtain rfl := List.mem_singleton.1 h
        exact ⟨rfl, by show x ≤ x; omega, by show x < x + _; omega⟩
      · rw [if_neg e] at h
        cases h
    · have := rowF_in l y n (x + 1) c h
      exact ⟨this.1, by omega, by omega⟩
theorem rowF_len (l : List Cell) (y : Int) : ∀ (n : Nat) (x : Int), (rowF l y n x).length ≤ n
  | 0, x => Nat.le_refl _
  | n + 1, x => by
    unfold rowF
    rw [List.length_append]
    have := rowF_len l y n (x + 1)
    split <;> simp <;> omega
theorem rowF_nodup (l : List Cell) (y : Int) : ∀ (n : Nat) (x : Int), (rowF l y n x).Nodup
  | 0, x => List.nodup_nil
  | n + 1, x => by
    unfold rowF
    have h := rowF_nodup l y n (x + 1)
    by_cases e : idxC l ⟨x, y⟩ < 0
    · rw [if_pos e]
      refine List.nodup_cons.2 ⟨fun hm => ?_, h⟩
      have := (rowF_in l y n (x + 1) _ hm).2.1
      have h2 : x + 1 ≤ x := this
      omega
    · rw [if_neg e]
      exact h
theorem boxF_in (l : List Cell) (x0 : Int) (w : Nat) : ∀ (n : Nat) (y : Int), ∀ c ∈ boxF l x0 w n y, y ≤ c.f1 ∧ c.f1 < y + n ∧ x0 ≤ c.f0 ∧ c.f0 < x0 + w
  | 0, y, c, h => by cases h
  | n + 1, y, c, h => by
    unfold boxF at h
    rcases List.mem_append.1 h with h | h
    · have := rowF_in l y w x0 c h
      exact ⟨by omega, by omega, by omega, by omega⟩
    · have := boxF_in l x0 w n (y + 1) c h
      exact ⟨by omega, by omega, by omega, by omega⟩
theorem boxF_len (l : List Cell) (x0 : Int) (w : Nat) : ∀ (n : Nat) (y : Int), (boxF l x0 w n y).length ≤ n * w
  | 0, y => by simp [boxF]
  | n + 1, y => by
    unfold boxF
    rw [List.length_append, Nat.succ_mul]
    have := rowF_len l y w x0
    have := boxF_len l x0 w n (y + 1)
    omega
theorem boxF_nodup (l : List Cell) (x0 : Int) (w : Nat) : ∀ (n : Nat) (y : Int), (boxF l x0 w n y).Nodup
  | 0, y => List.nodup_nil
  | n + 1, y => by
    unfold boxF
    refine List.nodup_append.2 ⟨rowF_nodup l y w x0, boxF_nodup l x0 w n (y + 1), fun a ha b hb e => ?_⟩
    have h1 := (rowF_in l y w x0 a ha).1
    have h2 := (boxF_in l x0 w n (y + 1) b hb).1
    rw [← e] at h2
    omega
theorem box_bd {l : List Cell} (h : shapeB l = true) : -100 ≤ (leastOf l).1 ∧ (leastOf l).1 ≤ (reachOf l).1 ∧ (reachOf l).1 ≤ 100 ∧ -100 ≤ (leastOf l).2 ∧ (leastOf l).2 ≤ (reachOf l).2 ∧ (reachOf l).2 ≤ 100 := by
  have h0 := shape_ne h
  obtain ⟨ho, _, _, _⟩ := shapeB_iff.1 h
  obtain ⟨⟨a, ha, ea⟩, ⟨b, hb, eb⟩⟩ := least_mem h0
  obtain ⟨⟨c, hc, ec⟩, ⟨d, hd, ed⟩⟩ := reach_mem h0
  have h1 := ho a ha
  have h2 := ho b hb
  have h3 := ho c hc
  have h4 := ho d hd
  have h5 := least_le hc
  have h6 := least_le hd
  unfold okC ok1 at h1 h2 h3 h4
  omega
theorem freeL_ok {l : List Cell} (h : shapeB l = true) : freeL l ≠ [] ∧ (freeL l).length ≤ 1000000 ∧ (freeL l).Nodup ∧ (freeL l).all wfC = true := by
  have hb := box_bd h
  refine ⟨?_, ?_, boxF_nodup _ _ _ _ _, ?_⟩
  · unfold freeL
    obtain ⟨w, hw⟩ : ∃ w, ((reachOf l).1 - (leastOf l).1 + 3).toNat = w + 1 := ⟨((reachOf l).1 - (leastOf l).1 + 2).toNat, by omega⟩
    obtain ⟨n, hn⟩ : ∃ n, ((reachOf l).2 - (leastOf l).2 + 3).toNat = n + 1 := ⟨((reachOf l).2 - (leastOf l).2 + 2).toNat, by omega⟩
    rw [hw, hn]
    unfold boxF rowF
    have hlt : idxC l ⟨(leastOf l).1 - 1, (leastOf l).2 - 1⟩ < 0 := by
      rcases idxC_spec l ⟨(leastOf l).1 - 1, (leastOf l).2 - 1⟩ with ⟨e, _⟩ | ⟨j, h1, h2, h3, _⟩
      · omega
      · have := least_le (List.mem_of_getElem? h3)
        have h4 : (leastOf l).1 ≤ (leastOf l).1 - 1 := this.1
        omega
    rw [if_pos hlt]
    simp
  · unfold freeL
    refine Nat.le_trans (boxF_len _ _ _ _ _) (Nat.le_trans (Nat.mul_le_mul (show _ ≤ 203 by omega) (show _ ≤ 203 by omega)) (by decide))
  · refine List.all_eq_true.2 fun c hc => ?_
    have := boxF_in l _ _ _ _ c hc
    unfold wfC
    rw [wf64 (by omega) (by omega), wf64 (by omega) (by omega)]
    rfl
theorem spec_hr (l : List Cell) (hs : small l) (x3 x4 x5 x6 y : Int) (hx : -1000 ≤ x3 + x5 ∧ x3 + x5 ≤ 1000) {r : List (List Cell)} : ∀ (n : Nat) (x : Int) (acc : List Cell), x + n = x3 + x5 + 1 → acc.length + n ≤ 2000000 → n ≤ 1000 →
    Ev (fun k => spec_l06Holes.l0 k l x3 x4 x5 x6 (acc ++ rowF l y n x) (wrap64 (y + 1))) r → Ev (fun k => spec_l06Holes.l1 k l x3 x4 x5 x6 acc y x) r
  | 0, x, acc, h, ha, hn, hk => by
    refine Ev.succ ?_
    have hw : wrap64 (x3 + x5) = x3 + x5 := w64 (by omega) (by omega)
    have hc : (x ≤ x3 + x5) = False := by simp; omega
    simp only [spec_l06Holes.l1, hw, hc, if_false]
    have : acc ++ rowF l y 0 x = acc := by simp [rowF]
    rw [this] at hk
    exact hk
  | n + 1, x, acc, h, ha, hn, hk => by
    refine Ev.succ ?_
    have hw : wrap64 (x3 + x5) = x3 + x5 := w64 (by omega) (by omega)
    have hc : (x ≤ x3 + x5) = True := by simp; omega
    have hw1 : wrap64 (x + 1) = x + 1 := w64 (by omega) (by omega)
    simp only [spec_l06Holes.l1, hw, hc, if_true, hw1]
    refine Ev.bind (specIndex_ev l ⟨x, y⟩ hs) ?_
    unfold rowF at hk
    by_cases e : idxC l ⟨x, y⟩ < 0
    · rw [if_pos e, ← List.append_assoc] at hk
      exact Ev.pos e (Ev.pos (by omega) (spec_hr l hs x3 x4 x5 x6 y hx n (x + 1) _ (by omega) (by rw [List.length_append, List.length_singleton]; omega) (by omega) hk))
    · rw [if_neg e, List.nil_append] at hk
      exact Ev.neg e (spec_hr l hs x3 x4 x5 x6 y hx n (x + 1) _ (by omega) (by omega) (by omega) hk)
theorem spec_hb (l : List Cell) (hs : small l) (x3 x4 x5 x6 : Int) (w : Nat) (hw0 : x3 - 1 + w = x3 + x5 + 1) (hw1 : w ≤ 1000) (hx : -1000 ≤ x3 + x5 ∧ x3 + x5 ≤ 1000 ∧ -1000 ≤ x3 ∧ x3 ≤ 1000) (hy : -1000 ≤ x4 + x6 ∧ x4 + x6 ≤ 1000) {r : List (List Cell)} : ∀ (n : Nat) (y : Int) (acc : List Cell), y + n = x4 + x6 + 1 → acc.length + n * w ≤ 1000000 → n ≤ 1000 →
    Ev (fun k => (spec_l02Parts.f k (acc ++ boxF l (x3 - 1) w n y)).bind fun t => spec_l06Holes.l2 k (acc ++ boxF l (x3 - 1) w n y) t [] 1) r → Ev (fun k => spec_l06Holes.l0 k l x3 x4 x5 x6 acc y) r
  | 0, y, acc, h, ha, hn, hk => by
    refine Ev.succ ?_
    have hw : wrap64 (x4 + x6) = x4 + x6 := w64 (by omega) (by omega)
    have hc : (y ≤ x4 + x6) = False := by simp; omega
    simp only [spec_l06Holes.l0, hw, hc, if_false]
    have : acc ++ boxF l (x3 - 1) w 0 y = acc := by simp [boxF]
    rw [this] at hk
    exact hk
  | n + 1, y, acc, h, ha, hn, hk => by
    refine Ev.succ ?_
    have hw : wrap64 (x4 + x6) = x4 + x6 := w64 (by omega) (by omega)
    have hc : (y ≤ x4 + x6) = True := by simp; omega
    have hw1 : wrap64 (x3 - 1) = x3 - 1 := w64 (by omega) (by omega)
    have hw2 : wrap64 (y + 1) = y + 1 := w64 (by omega) (by omega)
    rw [Nat.succ_mul] at ha
    simp only [spec_l06Holes.l0, hw, hc, if_true, hw1]
    unfold boxF at hk
    rw [← List.append_assoc] at hk
    have hl := rowF_len l y w (x3 - 1)
    refine spec_hr l hs x3 x4 x5 x6 y ⟨hx.1, hx.2.1⟩ w (x3 - 1) acc hw0 (by omega) (by omega) ?_
    rw [hw2]
    exact spec_hb l hs x3 x4 x5 x6 w hw0 (by omega) hx hy n (y + 1) _ (by omega) (by rw [List.length_append]; omega) (by omega) hk
theorem parts_spec {l : List Cell} (h0 : l ≠ []) (hl : l.length ≤ 1048576) : Ev (fun k => (spec_l02Parts.f k l).bind fun t => spec_l06Holes.l2 k l t [] 1) (holesP l) := by
  refine Ev.bind (ps_ev l hl) ?_
  cases l with
  | nil => exact absurd rfl h0
  | cons c r => exact spec_hl2 (marksR _) hl
theorem specHoles_ev {l : List Cell} (h : shapeB l = true) : Ev (fun k => spec_l06Holes.f k l) (holesL l) := by
  obtain ⟨ho, h1, h2, h3⟩ := shapeB_iff.1 h
  have hs : small l := by unfold small; omega
  have hb := box_bd h
  obtain ⟨f0, f1, f2, f3⟩ := freeL_ok h
  unfold spec_l06Holes.f
  refine Ev.bind (specLeast_ev l hs (by omega)) (Ev.bind (specSize_ev l hs (shape_ne h) ho) ?_)
  have hw : wrap64 ((leastOf l).2 - 1) = (leastOf l).2 - 1 := w64 (by omega) (by omega)
  rw [hw]
  have e1 : (sizeOf_ l).1 = (reachOf l).1 - (leastOf l).1 + 1 := rfl
  have e2 : (sizeOf_ l).2 = (reachOf l).2 - (leastOf l).2 + 1 := rfl
  have hmul := Nat.mul_le_mul (show ((reachOf l).2 - (leastOf l).2 + 3).toNat ≤ 203 by omega) (show ((reachOf l).1 - (leastOf l).1 + 3).toNat ≤ 203 by omega)
  refine spec_hb l hs _ _ _ _ ((reachOf l).1 - (leastOf l).1 + 3).toNat (by rw [e1]; omega) (by omega) (by rw [e1]; omega) (by rw [e2]; omega) ((reachOf l).2 - (leastOf l).2 + 3).toNat _ [] (by rw [e2]; omega) (by simp only [List.length_nil]; omega) (by omega) ?_
  exact parts_spec (l := freeL l) f0 (by omega)
theorem impl_hr (l : List Cell) (hs : small l) (a b c d y : Int) (hx : -1000 ≤ c ∧ c ≤ 1000) {r : List (List Cell)} : ∀ (n : Nat) (x : Int) (acc : List Cell), x + n = c + 2 → acc.length + n ≤ 2000000 → n ≤ 1000 →
    Ev (fun k => impl_holes.l0 k l (acc ++ rowF l y n x) (wrap64 (y + 1)) a b c d) r → Ev (fun k => impl_holes.l1 k l acc y x a b c d) r
  | 0, x, acc, h, ha, hn, hk => by
    refine Ev.succ ?_
    have hw : wrap64 (c + 1) = c + 1 := w64 (by omega) (by omega)
    have hc : (x ≤ c + 1) = False := by simp; omega
    simp only [impl_holes.l1, hw, hc, if_false]
    have : acc ++ rowF l y 0 x = acc := by simp [rowF]
    rw [this] at hk
    exact hk
  | n + 1, x, acc, h, ha, hn, hk => by
    refine Ev.succ ?_
    have hw : wrap64 (c + 1) = c + 1 := w64 (by omega) (by omega)
    have hc : (x ≤ c + 1) = True := by simp; omega
    have hw1 : wrap64 (x + 1) = x + 1 := w64 (by omega) (by omega)
    simp only [impl_holes.l1, hw, hc, if_true, hw1]
    refine Ev.bind (implContains_ev l ⟨x, y⟩ hs) ?_
    unfold rowF at hk
    by_cases e : idxC l ⟨x, y⟩ < 0
    · rw [if_pos e, ← List.append_assoc] at hk
      exact Ev.neg (by simp; omega) (Ev.pos (by omega) (impl_hr l hs a b c d y hx n (x + 1) _ (by omega) (by rw [List.length_append, List.length_singleton]; omega) (by omega) hk))
    · rw [if_neg e, List.nil_append] at hk
      exact Ev.pos (by simp; omega) (impl_hr l hs a b c d y hx n (x + 1) _ (by omega) (by omega) (by omega) hk)
theorem impl_hb (l : List Cell) (hs : small l) (a b c d : Int) (w : Nat) (hw0 : a - 1 + w = c + 2) (hw1 : w ≤ 1000) (hx : -1000 ≤ c ∧ c ≤ 1000 ∧ -1000 ≤ a ∧ a ≤ 1000) (hy : -1000 ≤ d ∧ d ≤ 1000) {r : List (List Cell)} : ∀ (n : Nat) (y : Int) (acc : List Cell), y + n = d + 2 → acc.length + n * w ≤ 1000000 → n ≤ 1000 →
    Ev (fun k => (impl_parts__impl_around.f k (acc ++ boxF l (a - 1) w n y)).bind fun t => impl_holes.l2 k (acc ++ boxF l (a - 1) w n y) [] t (t.length : Int) 0) r → Ev (fun k => impl_holes.l0 k l acc y a b c d) r
  | 0, y, acc, h, ha, hn, hk => by
    refine Ev.succ ?_
    have hw : wrap64 (d + 1) = d + 1 := w64 (by omega) (by omega)
    have hc : (y ≤ d + 1) = False := by simp; omega
    simp only [impl_holes.l0, hw, hc, if_false]
    have : acc ++ boxF l (a - 1) w 0 y = acc := by simp [boxF]
    rw [this] at hk
    exact hk
  | n + 1, y, acc, h, ha, hn, hk => by
    refine Ev.succ ?_
    have hw : wrap64 (d + 1) = d + 1 := w64 (by omega) (by omega)
    have hc : (y ≤ d + 1) = True := by simp; omega
    have hw1 : wrap64 (a - 1) = a - 1 := w64 (by omega) (by omega)
    have hw2 : wrap64 (y + 1) = y + 1 := w64 (by omega) (by omega)
    rw [Nat.succ_mul] at ha
    simp only [impl_holes.l0, hw, hc, if_true, hw1]
    unfold boxF at hk
    rw [← List.append_assoc] at hk
    have hl := rowF_len l y w (a - 1)
    refine impl_hr l hs a b c d y ⟨hx.1, hx.2.1⟩ w (a - 1) acc hw0 (by omega) (by omega) ?_
    rw [hw2]
    exact impl_hb l hs a b c d w hw0 (by omega) hx hy n (y + 1) _ (by omega) (by rw [List.length_append]; omega) (by omega) hk
theorem parts_impl {l : List Cell} (h0 : l ≠ []) (hl : l.length ≤ 1048576) (hn : l.Nodup) (hw : l.all wfC = true) : Ev (fun k => (impl_parts__impl_around.f k l).bind fun t => impl_holes.l2 k l [] t (t.length : Int) 0) (holesP l) :=
  Ev.bind (pa_ev l hl hn hw) (impl_hl2 (marksR l) (List.length_pos_iff.2 h0) hl)
theorem implHoles_ev {l : List Cell} (h : shapeB l = true) : Ev (fun k => impl_holes.f k l) (holesL l) := by
  obtain ⟨ho, h1, h2, h3⟩ := shapeB_iff.1 h
  have hs : small l := by unfold small; omega
  have hb := box_bd h
  obtain ⟨f0, f1, f2, f3⟩ := freeL_ok h
  unfold impl_holes.f
  refine Ev.bind (implCorner_ev l hs (by omega)) (Ev.bind (implReach_ev l hs (by omega)) ?_)
  have hw : wrap64 ((leastOf l).2 - 1) = (leastOf l).2 - 1 := w64 (by omega) (by omega)
  rw [hw]
  have hmul := Nat.mul_le_mul (show ((reachOf l).2 - (leastOf l).2 + 3).toNat ≤ 203 by omega) (show ((reachOf l).1 - (leastOf l).1 + 3).toNat ≤ 203 by omega)
  refine impl_hb l hs _ _ _ _ ((reachOf l).1 - (leastOf l).1 + 3).toNat (by omega) (by omega) (by omega) (by omega) ((reachOf l).2 - (leastOf l).2 + 3).toNat _ [] (by omega) (by simp only [List.length_nil]; omega) (by omega) ?_
  exact parts_impl (l := freeL l) f0 (by omega) f2 f3
end Go.Proofs.Ytaecheolnpofeaa.L
end
section
namespace Go.Proofs.Ytaecheolnpofeaa.L
set_option linter.unusedVariables false
section
variable {α β : Type} {nb : α → List α} {l : List α} {a b c d : α}
def Rch (nb : α → List α) (l : List α) (a b : α) : Prop := ∀ S : α → Prop, S a → (∀ c d, S c → d ∈ nb c → d ∈ l → S d) → S b
theorem Rch.refl : Rch nb l a a := fun S h _ => h
theorem Rch.step (h : Rch nb l a b) (hd : d ∈ nb b) (hl : d ∈ l) : Rch nb l a d := fun S h0 h1 => h1 b d (h S h0 h1) hd hl
theorem Rch.trans (h : Rch nb l a b) (h' : Rch nb l b c) : Rch nb l a c := fun S h0 h1 => h' S (h S h0 h1) h1
theorem nodup_subG : ∀ (o l : List α), o.Nodup → (∀ d ∈ o, d ∈ l) → o.length ≤ l.length
  | [], l, _, _ => Nat.zero_le _
  | a :: o, l, hn, hs => by
    obtain ⟨h1, h2⟩ := List.nodup_cons.1 hn
    obtain ⟨s, t, rfl⟩ := List.append_of_mem (hs a List.mem_cons_self)
    have := nodup_subG o (s ++ t) h2 fun c hc => by
      have h3 := hs c (List.mem_cons_of_mem _ hc)
      have h4 : c ≠ a := fun e => h1 (e ▸ hc)
      simp only [List.mem_append, List.mem_cons] at h3 ⊢
      rcases h3 with h3 | h3 | h3
      · exact .inl h3
      · exact absurd h3 h4
      · exact .inr h3
    simp only [List.length_append, List.length_cons] at this ⊢
    omega
end
end Go.Proofs.Ytaecheolnpofeaa.L
end
section
namespace Go.Proofs.Ytaecheolnpofeaa.L
open Go.RowKit Go.Proofs.YtaecheolnpofeaaW.PrintWords Go.Proofs.YtaecheolnpofeaaW.PrintLast Go.Proofs.YtaecheolnpofeaaW.PrintMore Go.Proofs.Ytaecheolnpofeaa.F
set_option linter.unusedVariables false
set_option linter.unusedSimpArgs false
theorem idxC_inj {l : List Cell} {c d : Cell} (hc : c ∈ l) (h : idxC l c = idxC l d) : c = d := by
  rcases idxC_spec l c with ⟨h1, h2⟩ | ⟨j, h1, h2, h3, _⟩
  · exact absurd hc h2
  · rcases idxC_spec l d with ⟨g1, g2⟩ | ⟨i, g1, g2, g3, _⟩
    · omega
    · have : j = i := by omega
      subst this
      exact Option.some.inj (h3.symm.trans g3)
theorem idxC_at {l : List Cell} (hn : l.Nodup) {j : Nat} (hj : j < l.length) : idxC l l[j] = (j : Int) := by
  rcases idxC_spec l l[j] with ⟨h1, h2⟩ | ⟨i, h1, h2, h3, h4⟩
  · exact absurd (List.getElem_mem hj) h2
  · rw [h2]
    by_cases e : i < j
    · rw [List.getElem?_eq_getElem h1] at h3
      have h3' := Option.some.inj h3
      have := List.pairwise_iff_getElem.1 hn i j h1 hj e
      exact absurd h3' this
    · by_cases e2 : j < i
      · exact absurd (List.getElem?_eq_getElem hj) (h4 j e2)
      · have : i = j := by omega
        rw [this]
theorem rd_cell {l : List Cell} {j : Int} (h0 : 0 ≤ j) (h1 : j < (l.length : Int)) : rd_T44 l j = l[j.toNat]'(by omega) := by
  unfold rd_T44
  rw [List.getD_eq_getElem?_getD, List.getElem?_eq_getElem (by omega)]
  rfl
def Mk (l : List Cell) (o : List Int) (c : Cell) : Prop := c ∈ l ∧ 0 ≤ rd o (idxC l c)
theorem visit1_mk {l : List Cell} {i : Int} (hi : 0 ≤ i) {s : List Int × List Int} (h : Fine l s.1 s.2) (d c : Cell) :
    (Mk l (visit1 l i s d).1 c ↔ Mk l s.1 c ∨ (c = d ∧ d ∈ l)) ∧ (∀ j ∈ s.2, j ∈ (visit1 l i s d).2) ∧ (∀ c, Mk l (visit1 l i s d).1 c → ¬ Mk l s.1 c → idxC l c ∈ (visit1 l i s d).2) ∧ (∀ j ∈ (visit1 l i s d).2, j ∈ s.2 ∨ ∃ c, j = idxC l c ∧ Mk l (visit1 l i s d).1 c) := by
  unfold visit1
  have hln := h.len
  by_cases hc : idxC l d ≥ 0 ∧ rd s.1 (idxC l d) < 0
  · rw [if_pos hc]
    have hdl := (idxC_mem l d).1 hc.1
    have hlt := idxC_lt l d
    have key (c : Cell) : Mk l (s.1.set (idxC l d).toNat i) c ↔ Mk l s.1 c ∨ (c = d ∧ d ∈ l) := by
      unfold Mk
      rw [rd_set _ _ _ _ (by omega)]
      constructor
      · rintro ⟨h1, h2⟩
        have := (idxC_mem l c).2 h1
        by_cases e : (idxC l c).toNat = (idxC l d).toNat
        · exact .inr ⟨idxC_inj h1 (by omega), hdl⟩
        · rw [if_neg e] at h2
          exact .inl ⟨h1, h2⟩
      · rintro (⟨h1, h2⟩ | ⟨rfl, h2⟩)
        · refine ⟨h1, ?_⟩
          split
          · exact hi
          · exact h2
        · exact ⟨h2, by rw [if_pos rfl]; exact hi⟩
    refine ⟨key c, fun j hj => List.mem_append_left _ hj, fun c h1 h2 => ?_, fun j hj => ?_⟩
    · rcases (key c).1 h1 with h3 | ⟨rfl, _⟩
      · exact absurd h3 h2
      · simp
    · rcases List.mem_append.1 hj with hj | hj
      · exact .inl hj
      · simp at hj
        exact .inr ⟨d, hj, (key d).2 (.inr ⟨rfl, hdl⟩)⟩
  · rw [if_neg hc]
    refine ⟨⟨fun h => .inl h, fun h1 => ?_⟩, fun j hj => hj, fun c h1 h2 => absurd h1 h2, fun j hj => .inl hj⟩
    rcases h1 with h1 | ⟨rfl, h2⟩
    · exact h1
    · have h3 := (idxC_mem l c).2 h2
      exact ⟨h2, by
        refine Decidable.byContradiction fun h4 => hc ⟨h3, by omega⟩⟩
theorem visit_mk {l : List Cell} {i : Int} (hi : 0 ≤ i) : ∀ (ds : List Cell) {s : List Int × List Int}, Fine l s.1 s.2 →
    (∀ c, Mk l (visit l i ds s).1 c ↔ Mk l s.1 c ∨ (c ∈ ds ∧ c ∈ l)) ∧ (∀ j ∈ s.2, j ∈ (visit l i ds s).2) ∧ (∀ c, Mk l (visit l i ds s).1 c → ¬ Mk l s.1 c → idxC l c ∈ (visit l i ds s).2) ∧ (∀ j ∈ (visit l i ds s).2, j ∈ s.2 ∨ ∃ c, j = idxC l c ∧ Mk l (visit l i ds s).1 c)
  | [], s, h => ⟨fun c => by simp [visit], fun j hj => hj, fun c h1 h2 => absurd h1 h2, fun j hj => .inl hj⟩
  | d :: r, s, h => by
    have h1 := (visit1_fine hi h d).1
    obtain ⟨_, a2, a3, a4⟩ := visit1_mk hi h d d
    obtain ⟨b1, b2, b3, b4⟩ := visit_mk hi r h1
    have e : visit l i (d :: r) s = visit l i r (visit1 l i s d) := rfl
    rw [e]
    refine ⟨fun c => ?_, fun j hj => b2 j (a2 j hj), fun c h2 h3 => ?_, fun j hj => ?_⟩
    · rw [b1 c, (visit1_mk hi h d c).1]
      constructor
      · rintro ((h2 | ⟨rfl, h2⟩) | ⟨h2, h3⟩)
        · exact .inl h2
        · exact .inr ⟨List.mem_cons_self, h2⟩
        · exact .inr ⟨List.mem_cons_of_mem _ h2, h3⟩
      · rintro (h2 | ⟨h2, h3⟩)
        · exact .inl (.inl h2)
        · rcases List.mem_cons.1 h2 with rfl | h2
          · exact .inl (.inr ⟨rfl, h3⟩)
          · exact .inr ⟨h2, h3⟩
    · by_cases h4 : Mk l (visit1 l i s d).1 c
      · exact b2 _ (a3 c h4 h3)
      · exact b3 c h2 h4
    · rcases b4 j hj with h2 | h2
      · rcases a4 j h2 with h3 | ⟨c, rfl, h3⟩
        · exact .inl h3
        · exact .inr ⟨c, rfl, (b1 c).2 (.inl h3)⟩
      · exact .inr h2
theorem bfs_closed {nb : Cell → List Cell} {l : List Cell} {i : Int} {h : Cell} (hi : 0 ≤ i) (hn : l.Nodup) : ∀ (n : Nat) (o q : List Int), Fine l o q → negs o + q.length ≤ n →
    (∀ c, Mk l o c → Rch nb l h c) → (∀ c, Mk l o c → idxC l c ∉ q → ∀ d ∈ nb c, d ∈ l → Mk l o d) → (∀ j ∈ q, Mk l o (rd_T44 l j)) →
    (∀ c, Mk l (bfs nb l i n o q) c → Rch nb l h c) ∧ (∀ c, Mk l (bfs nb l i n o q) c → ∀ d ∈ nb c, d ∈ l → Mk l (bfs nb l i n o q) d) ∧ (∀ c, Mk l o c → Mk l (bfs nb l i n o q) c)
  | 0, o, q, hf, hm, h1, h2, h3 => by
    have hq : q = [] := List.length_eq_zero_iff.1 (by omega)
    subst hq
    exact ⟨h1, fun c hc d hd hl => h2 c hc (by simp) d hd hl, fun c hc => hc⟩
  | n + 1, o, [], hf, hm, h1, h2, h3 => ⟨h1, fun c hc d hd hl => h2 c hc (by simp) d hd hl, fun c hc => hc⟩
  | n + 1, o, j :: q, hf, hm, h1, h2, h3 => by
    have hf' : Fine l o q := ⟨hf.len, fun j hj => hf.rng j (List.mem_cons_of_mem _ hj)⟩
    obtain ⟨g1, g2, _, _⟩ := visit_fine hi (nb (rd_T44 l j)) (s := (o, q)) hf'
    obtain ⟨m1, m2, m3, m4⟩ := visit_mk hi (nb (rd_T44 l j)) (s := (o, q)) hf'
    have hj := hf.rng j List.mem_cons_self
    have hx := h3 j List.mem_cons_self
    have hix : idxC l (rd_T44 l j) = j := by
      rw [rd_cell hj.1 hj.2, idxC_at hn]
      omega
    simp only [List.length_cons] at hm
    have ih := bfs_closed (nb := nb) (h := h) hi hn n _ _ g1 (by simp only at g2; omega) (fun c hc => by
      rcases (m1 c).1 hc with hc | ⟨hc, hcl⟩
      · exact h1 c hc
      · exact (h1 _ hx).step hc hcl) (fun c hc hcq d hd hl => by
      by_cases ho : Mk l o c
      · by_cases e : idxC l c = j
        · have : c = rd_T44 l j := idxC_inj ho.1 (e.trans hix.symm)
          subst this
          exact (m1 d).2 (.inr ⟨hd, hl⟩)
        · refine (m1 d).2 (.inl (h2 c ho ?_ d hd hl))
          intro hmem
          rcases List.mem_cons.1 hmem with h4 | h4
          · exact e h4
          · exact hcq (m2 _ h4)
      · exact absurd (m3 c hc ho) hcq) (fun i' hi' => by
      rcases m4 i' hi' with h4 | ⟨c, rfl, h4⟩
      · exact (m1 _).2 (.inl (h3 i' (List.mem_cons_of_mem _ h4)))
      · have hc := (idxC_mem l c).2 h4.1
        have : rd_T44 l (idxC l c) = c := by
          rcases idxC_spec l c with ⟨q1, q2⟩ | ⟨k, q1, q2, q3, _⟩
          · exact absurd h4.1 q2
          · rw [q2, rd_cell (by omega) (by omega)]
            have := List.getElem?_eq_getElem q1
            rw [this] at q3
            simpa using q3
        rw [this]
        exact h4)
    exact ⟨ih.1, ih.2.1, fun c hc => ih.2.2 c ((m1 c).2 (.inl hc))⟩
theorem partsF_late {nb : Cell → List Cell} {l : List Cell} (j : Int) (hj : 0 ≤ j) (m : Int) : ∀ (r pre : List Cell) (o : List Int), l = pre ++ r → o.length = l.length → m ≤ (pre.length : Int) → rd (partsF nb l (pre.length : Int) r o) j = rd o j ∨ m ≤ rd (partsF nb l (pre.length : Int) r o) j
  | [], pre, o, h, hl, hm => .inl rfl
  | c :: r, pre, o, h, hl, hm => by
    have hp : pre.length < l.length := by rw [h]; simp
    have e : (rd (if rd o (pre.length : Int) ≥ 0 then o else bfs nb l (pre.length : Int) l.length (o.set pre.length (pre.length : Int)) [(pre.length : Int)]) j = rd o j ∨ m ≤ rd (if rd o (pre.length : Int) ≥ 0 then o else bfs nb l (pre.length : Int) l.length (o.set pre.length (pre.length : Int)) [(pre.length : Int)]) j) ∧ (if rd o (pre.length : Int) ≥ 0 then o else bfs nb l (pre.length : Int) l.length (o.set pre.length (pre.length : Int)) [(pre.length : Int)]).length = l.length := by
      by_cases hg : rd o (pre.length : Int) ≥ 0
      · rw [if_pos hg]; exact ⟨.inl rfl, hl⟩
      · rw [if_neg hg]
        obtain ⟨h1, _⟩ := step_fine hl hp hg
        refine ⟨?_, (bfs_fine (by omega) l.length _ _ h1).1⟩
        rcases (bfs_stable (nb := nb) (i := (pre.length : Int)) (by omega) j hj l.length _ _ h1).2 with h2 | h2
        · rw [rd_set _ _ _ _ (by omega)] at h2
          by_cases ej : j.toNat = pre.length
          · rw [if_pos ej] at h2
            exact .inr (by omega)
          · rw [if_neg ej] at h2
            exact .inl h2
        · exact .inr (by omega)
    have := partsF_late (nb := nb) j hj m r (pre ++ [c]) _ (by rw [h]; simp) e.2 (by rw [List.length_append]; omega)
    unfold partsF
    rw [Int.toNat_natCast]
    have hl2 : ((pre ++ [c]).length : Int) = (pre.length : Int) + 1 := by simp
    rw [hl2] at this
    rcases this with h3 | h3
    · rcases e.1 with h4 | h4
      · exact .inl (h3.trans h4)
      · exact .inr (by rw [h3]; exact h4)
    · exact .inr h3
theorem partsR_first (nb : Cell → List Cell) (l : List Cell) (h0 : l ≠ []) : ∃ (c : Cell) (r : List Cell), l = [c] ++ r ∧ partsR nb l = partsF nb l (([c] : List Cell).length : Int) r (first nb l) := by
  have hp := List.length_pos_iff.2 h0
  obtain ⟨c, r, hcr⟩ : ∃ c r, l = c :: r := by cases l with | nil => exact absurd rfl h0 | cons c r => exact ⟨c, r, rfl⟩
  refine ⟨c, r, hcr, ?_⟩
  unfold partsR
  have : ∀ (o : List Int), rd o 0 < 0 → partsF nb l 0 (c :: r) o = partsF nb l 1 r (bfs nb l 0 l.length (o.set 0 0) [0]) := by
    intro o ho
    rw [partsF, if_neg (by omega)]
    rfl
  rw [show partsF nb l 0 l (List.replicate l.length (-1)) = partsF nb l 0 (c :: r) (List.replicate l.length (-1)) from by rw [← hcr]]
  rw [this _ (by have := rd_rep (n := l.length) (j := 0) hp; rw [Int.natCast_zero] at this; omega)]
  rfl
theorem first_iff {nb : Cell → List Cell} {l : List Cell} (h0 : l ≠ []) (hn : l.Nodup) {b : Cell} (hb : b ∈ l) : rd (partsR nb l) (idxC l b) = 0 ↔ Rch nb l (l[0]'(List.length_pos_iff.2 h0)) b := by
  have hp := List.length_pos_iff.2 h0
  obtain ⟨hf, hneg⟩ := first_fine l h0
  have h0l : l[0] ∈ l := List.getElem_mem hp
  have hi0 : idxC l l[0] = 0 := idxC_at hn hp
  have hrd : rd_T44 l 0 = l[0] := rd_cell (by omega) (by omega)
  have hmk (c : Cell) : Mk l ((List.replicate l.length (-1 : Int)).set 0 0) c ↔ c = l[0] := by
    unfold Mk
    rw [rd_set _ _ _ _ (by simpa using hp)]
    constructor
    · rintro ⟨h1, h2⟩
      by_cases e : (idxC l c).toNat = 0
      · have := (idxC_mem l c).2 h1
        exact idxC_inj h1 (by omega)
      · rw [if_neg e] at h2
        have h3 := (idxC_mem l c).2 h1
        have h4 := idxC_lt l c
        have h5 := rd_rep (n := l.length) (j := (idxC l c).toNat) (by omega)
        rw [Int.toNat_of_nonneg h3] at h5
        omega
    · rintro rfl
      exact ⟨h0l, by rw [hi0, if_pos (by simp)]; omega⟩
  obtain ⟨r1, r2, r3⟩ := bfs_closed (nb := nb) (h := l[0]) (i := 0) (by omega) hn l.length _ _ hf (by simp only [List.length_singleton]; omega) (fun c hc => by rw [(hmk c).1 hc]; exact Rch.refl) (fun c hc hcq => by
    rw [(hmk c).1 hc, hi0] at hcq
    exact absurd (by simp) hcq) (fun j hj => by
    simp at hj
    subst hj
    rw [hrd]
    exact (hmk _).2 rfl)
  have hfl : (first nb l).length = l.length := (bfs_fine (nb := nb) (i := 0) (by omega) l.length _ _ hf).1
  have hib := (idxC_mem l b).2 hb
  have hlb := idxC_lt l b
  obtain ⟨c, r, hcr, hpf⟩ := partsR_first nb l h0
  have hval : rd (first nb l) (idxC l b) = -1 ∨ rd (first nb l) (idxC l b) = 0 := by
    rcases (bfs_stable (nb := nb) (i := 0) (by omega) (idxC l b) hib l.length _ _ hf).2 with h | h
    · have h' : rd (first nb l) (idxC l b) = rd ((List.replicate l.length (-1 : Int)).set 0 0) (idxC l b) := h
      rw [rd_set _ _ _ _ (by simpa using hp)] at h'
      by_cases e0 : (idxC l b).toNat = 0
      · rw [if_pos e0] at h'; exact .inr h'
      · rw [if_neg e0] at h'
        have h5 := rd_rep (n := l.length) (j := (idxC l b).toNat) (by omega)
        rw [Int.toNat_of_nonneg hib] at h5
        exact .inl (h'.trans h5)
    · exact .inr h
  have hpos : 0 ≤ rd (partsR nb l) (idxC l b) := by
    have := (partsF_fine (nb := nb) (l := l) l [] (List.replicate l.length (-1)) rfl (by simp) (fun j hj => by simp at hj)).2 (idxC l b).toNat (by omega)
    rw [Int.toNat_of_nonneg hib] at this
    exact this
  constructor
  · intro h
    refine r1 b ⟨hb, ?_⟩
    rcases hval with hv | hv
    · exfalso
      have := partsF_late (nb := nb) (l := l) (idxC l b) hib 1 r [c] (first nb l) hcr hfl (by simp)
      rw [← hpf] at this
      omega
    · show 0 ≤ rd (first nb l) (idxC l b)
      omega
  · intro h
    have hr := h (fun c => Mk l (first nb l) c) (r3 _ ((hmk _).2 rfl)) (fun c d hc hd hl => r2 c hc d hd hl)
    have h2 : 0 ≤ rd (first nb l) (idxC l b) := hr.2
    have h3 := partsF_stable (nb := nb) (l := l) (idxC l b) hib r [c] (first nb l) hcr hfl h2
    rw [← hpf] at h3
    rw [h3]
    omega
theorem cell_eq9 {c : Cell} {x y : Int} (h0 : c.f0 = x) (h1 : c.f1 = y) : (⟨x, y⟩ : Cell) = c := by
  subst h0
  subst h1
  rfl
theorem idxC_neg {l : List Cell} {c : Cell} : idxC l c < 0 ↔ c ∉ l := by
  rcases idxC_spec l c with ⟨e, h⟩ | ⟨j, h1, h2, h3, _⟩
  · exact ⟨fun _ => h, fun _ => by omega⟩
  · exact ⟨fun h => by omega, fun h => absurd (List.mem_of_getElem? h3) h⟩
theorem mem_rowF (l : List Cell) (y : Int) : ∀ (n : Nat) (x : Int) (c : Cell), c ∈ rowF l y n x ↔ c.f1 = y ∧ x ≤ c.f0 ∧ c.f0 < x + n ∧ c ∉ l
  | 0, x, c => by
    unfold rowF
    constructor
    · intro h
      cases h
    · rintro ⟨h1, h2, h3, h4⟩
      omega
  | n + 1, x, c => by
    unfold rowF
    rw [List.mem_append, mem_rowF l y n (x + 1) c]
    constructor
    · rintro (h | h)
      · by_cases e : idxC l ⟨x, y⟩ < 0
        · rw [if_pos e] at h
          obtain rfl := List.mem_singleton.1 h
          exact ⟨rfl, by show x ≤ x; omega, by show x < x + _; omega, idxC_neg.1 e⟩
        · rw [if_neg e] at h
          cases h
      · exact ⟨h.1, by omega, by omega, h.2.2.2⟩
    · rintro ⟨h1, h2, h3, h4⟩
      by_cases e : c.f0 = x
      · have hc := cell_eq9 e h1
        left
        rw [hc, if_pos (idxC_neg.2 h4)]
        exact List.mem_singleton.2 rfl
      · exact .inr ⟨h1, by omega, by omega, h4⟩
theorem mem_boxF (l : List Cell) (x0 : Int) (w : Nat) : ∀ (n : Nat) (y : Int) (c : Cell), c ∈ boxF l x0 w n y ↔ y ≤ c.f1 ∧ c.f1 < y + n ∧ x0 ≤ c.f0 ∧ c.f0 < x0 + w ∧ c ∉ l
  | 0, y, c => by
    unfold boxF
    constructor
    · intro h
      cases h
    · rintro ⟨h1, h2, h3, h4⟩
      omega
  | n + 1, y, c => by
    unfold boxF
    rw [List.mem_append, mem_rowF, mem_boxF l x0 w n (y + 1) c]
    constructor
    · rintro (h | h)
      · exact ⟨by omega, by omega, by omega, by omega, h.2.2.2⟩
      · exact ⟨by omega, by omega, by omega, by omega, h.2.2.2.2⟩
    · rintro ⟨h1, h2, h3, h4, h5⟩
      by_cases e : c.f1 = y
      · exact .inl ⟨e, h3, h4, h5⟩
      · exact .inr ⟨by omega, by omega, h3, h4, h5⟩
theorem mem_freeL {l : List Cell} (h : shapeB l = true) (c : Cell) : c ∈ freeL l ↔ (leastOf l).1 - 1 ≤ c.f0 ∧ c.f0 ≤ (reachOf l).1 + 1 ∧ (leastOf l).2 - 1 ≤ c.f1 ∧ c.f1 ≤ (reachOf l).2 + 1 ∧ c ∉ l := by
  have hb := box_bd h
  unfold freeL
  rw [mem_boxF]
  constructor
  · rintro ⟨h1, h2, h3, h4, h5⟩
    exact ⟨by omega, by omega, by omega, by omega, h5⟩
  · rintro ⟨h1, h2, h3, h4, h5⟩
    exact ⟨by omega, by omega, by omega, by omega, h5⟩
theorem freeL_head {l : List Cell} (h : shapeB l = true) : (freeL l)[0]'(List.length_pos_iff.2 (freeL_ok h).1) = ⟨(leastOf l).1 - 1, (leastOf l).2 - 1⟩ := by
  have hb := box_bd h
  have key : ∃ r, freeL l = ⟨(leastOf l).1 - 1, (leastOf l).2 - 1⟩ :: r := by
    unfold freeL
    obtain ⟨w, hw⟩ : ∃ w, ((reachOf l).1 - (leastOf l).1 + 3).toNat = w + 1 := ⟨((reachOf l).1 - (leastOf l).1 + 2).toNat, by omega⟩
    obtain ⟨n, hn⟩ : ∃ n, ((reachOf l).2 - (leastOf l).2 + 3).toNat = n + 1 := ⟨((reachOf l).2 - (leastOf l).2 + 2).toNat, by omega⟩
    rw [hw, hn]
    unfold boxF rowF
    have hlt : idxC l ⟨(leastOf l).1 - 1, (leastOf l).2 - 1⟩ < 0 := idxC_neg.2 fun hm => by
      have h4 : (leastOf l).1 ≤ (leastOf l).1 - 1 := (least_le hm).1
      omega
    rw [if_pos hlt]
    exact ⟨_, rfl⟩
  obtain ⟨r, hr⟩ := key
  simp only [hr, List.getElem_cons_zero]
theorem walkX {F : List Cell} {a y : Int} (ha : -1000 ≤ a ∧ a ≤ 1000) : ∀ (n : Nat), n ≤ 1000 → (∀ x : Int, a < x → x ≤ a + n → (⟨x, y⟩ : Cell) ∈ F) → Rch aroundC F ⟨a, y⟩ ⟨a + n, y⟩
  | 0, hn, h => by
    have : a + ((0 : Nat) : Int) = a := by omega
    rw [this]
    exact Rch.refl
  | n + 1, hn, h => by
    have ih := walkX (F := F) (y := y) ha n (by omega) (fun x h1 h2 => h x h1 (by omega))
    refine ih.step ?_ (h _ (by omega) (by omega))
    unfold aroundC
    have hw : wrap64 (a + (n : Int) + 1) = a + ((n + 1 : Nat) : Int) := by rw [w64 (by omega) (by omega)]; omega
    simp only [hw]
    simp
theorem walkY {F : List Cell} {a x : Int} (ha : -1000 ≤ a ∧ a ≤ 1000) : ∀ (n : Nat), n ≤ 1000 → (∀ y : Int, a < y → y ≤ a + n → (⟨x, y⟩ : Cell) ∈ F) → Rch aroundC F ⟨x, a⟩ ⟨x, a + n⟩
  | 0, hn, h => by
    have : a + ((0 : Nat) : Int) = a := by omega
    rw [this]
    exact Rch.refl
  | n + 1, hn, h => by
    have ih := walkY (F := F) (x := x) ha n (by omega) (fun y h1 h2 => h y h1 (by omega))
    refine ih.step ?_ (h _ (by omega) (by omega))
    unfold aroundC
    have hw : wrap64 (a + (n : Int) + 1) = a + ((n + 1 : Nat) : Int) := by rw [w64 (by omega) (by omega)]; omega
    simp only [hw]
    simp
theorem ring_rch {l : List Cell} (h : shapeB l = true) {c : Cell} (hc : c ∈ freeL l) (hr : c.f0 = (leastOf l).1 - 1 ∨ c.f0 = (reachOf l).1 + 1 ∨ c.f1 = (leastOf l).2 - 1 ∨ c.f1 = (reachOf l).2 + 1) : Rch aroundC (freeL l) ⟨(leastOf l).1 - 1, (leastOf l).2 - 1⟩ c := by
  have hb := box_bd h
  have hm := (mem_freeL h c).1 hc
  have hfree : ∀ x y : Int, (leastOf l).1 - 1 ≤ x → x ≤ (reachOf l).1 + 1 → (leastOf l).2 - 1 ≤ y → y ≤ (reachOf l).2 + 1 → (x = (leastOf l).1 - 1 ∨ x = (reachOf l).1 + 1 ∨ y = (leastOf l).2 - 1 ∨ y = (reachOf l).2 + 1) → (⟨x, y⟩ : Cell) ∈ freeL l := fun x y h1 h2 h3 h4 h5 => (mem_freeL h _).2 ⟨h1, h2, h3, h4, fun hl => by
    have g1 : (leastOf l).1 ≤ x ∧ (leastOf l).2 ≤ y := least_le hl
    have g2 : x ≤ (reachOf l).1 ∧ y ≤ (reachOf l).2 := reach_ge hl
    omega⟩
  have toX : ∀ (y x x' : Int), (y = (leastOf l).2 - 1 ∨ y = (reachOf l).2 + 1) → x = (leastOf l).1 - 1 → (leastOf l).1 - 1 ≤ x' → x' ≤ (reachOf l).1 + 1 → Rch aroundC (freeL l) ⟨x, y⟩ ⟨x', y⟩ := fun y x x' hy hx h1 h2 => by
    have := walkX (F := freeL l) (a := x) (y := y) (by omega) (x' - x).toNat (by omega) (fun z h3 h4 => hfree z y (by omega) (by omega) (by omega) (by omega) (by omega))
    have e : x + ((x' - x).toNat : Int) = x' := by omega
    rw [e] at this
    exact this
  have toY : ∀ (x y y' : Int), (x = (leastOf l).1 - 1 ∨ x = (reachOf l).1 + 1) → y = (leastOf l).2 - 1 → (leastOf l).2 - 1 ≤ y' → y' ≤ (reachOf l).2 + 1 → Rch aroundC (freeL l) ⟨x, y⟩ ⟨x, y'⟩ := fun x y y' hx hy h1 h2 => by
    have := walkY (F := freeL l) (a := y) (x := x) (by omega) (y' - y).toNat (by omega) (fun z h3 h4 => hfree x z (by omega) (by omega) (by omega) (by omega) (by omega))
    have e : y + ((y' - y).toNat : Int) = y' := by omega
    rw [e] at this
    exact this
  have hcc : (⟨c.f0, c.f1⟩ : Cell) = c := rfl
  rw [← hcc]
  rcases hr with hr | hr | hr | hr
  · rw [hr]; exact toY _ _ _ (.inl rfl) rfl (by omega) (by omega)
  · rw [hr]; exact (toX _ _ ((reachOf l).1 + 1) (.inl rfl) rfl (by omega) (by omega)).trans (toY _ _ _ (.inr rfl) rfl (by omega) (by omega))
  · rw [hr]; exact toX _ _ _ (.inl rfl) rfl (by omega) (by omega)
  · rw [hr]; exact (toY _ _ ((reachOf l).2 + 1) (.inl rfl) rfl (by omega) (by omega)).trans (toX _ _ _ (.inr rfl) rfl (by omega) (by omega))
theorem other_in {l : List Cell} (h : shapeB l = true) {c : Cell} (hc : c ∈ freeL l) (hp : rd (partsR aroundC (freeL l)) (idxC (freeL l) c) ≠ 0) : (leastOf l).1 ≤ c.f0 ∧ c.f0 ≤ (reachOf l).1 ∧ (leastOf l).2 ≤ c.f1 ∧ c.f1 ≤ (reachOf l).2 := by
  obtain ⟨f0, f1, f2, f3⟩ := freeL_ok h
  have hm := (mem_freeL h c).1 hc
  have hn : ¬ (c.f0 = (leastOf l).1 - 1 ∨ c.f0 = (reachOf l).1 + 1 ∨ c.f1 = (leastOf l).2 - 1 ∨ c.f1 = (reachOf l).2 + 1) := fun hr => hp ((first_iff f0 f2 hc).2 (by rw [freeL_head h]; exact ring_rch h hc hr))
  omega
def moveL (l : List Cell) (x y : Int) : List Cell := l.map fun c => ⟨wrap64 (c.f0 + x), wrap64 (c.f1 + y)⟩
theorem moveL_len (l : List Cell) (x y : Int) : (moveL l x y).length = l.length := by simp [moveL]
theorem specMove_ev (l : List Cell) (x y : Int) (hl : l.length ≤ 1048576) : Ev (fun k => spec_l02Move.f k l x y) (moveL l x y) := by
  have hs : small l := by unfold small; omega
  unfold spec_l02Move.f
  have := loop_list l (fun k i (s : List Cell) => spec_l02Move.l0 k l x y s i) (fun pre suf s => s ++ moveL suf x y) (fun pre s => s.length = pre.length) ?_ ?_ [] rfl
  · simpa using this
  · intro s _
    simp only [spec_l02Move.l0, len_lt, if_false]
    exact Ev.of_eq (Ev.now _) (by simp [moveL])
  · intro pre c suf s hx hi ih
    have hp := pre_len hx
    simp only [spec_l02Move.l0, pre_lt hx, pre_0, if_true, at_pre hx, pre_w hx hs]
    refine Ev.pos (by omega) (Ev.of_eq (ih _ (by simp [hi])) ?_)
    simp [moveL]
theorem implMoved_ev (l : List Cell) (x y : Int) (hl : l.length ≤ 1048576) : Ev (fun k => impl_moved.f k l x y) (moveL l x y) := by
  have hs : small l := by unfold small; omega
  unfold impl_moved.f
  refine Ev.pos (by omega) (Ev.pos (by omega) ?_)
  have := loop_list l (fun k i (s : List Cell) => impl_moved.l0 k x y s l (l.length : Int) i) (fun pre suf s => s ++ moveL suf x y) (fun pre s => s.length = pre.length) ?_ ?_ [] rfl
  · simpa using this
  · intro s _
    simp only [impl_moved.l0, len_lt, if_false]
    exact Ev.of_eq (Ev.now _) (by simp [moveL])
  · intro pre c suf s hx hi ih
    have hp := pre_len hx
    simp only [impl_moved.l0, pre_lt hx, pre_0, if_true, at_pre hx, pre_w hx hs]
    refine Ev.pos (by omega) (Ev.of_eq (ih _ (by simp [hi])) ?_)
    simp [moveL]
def normalL (l : List Cell) : List Cell := moveL l (wrap64 (-(leastOf l).1)) (wrap64 (-(leastOf l).2))
theorem normalL_len (l : List Cell) : (normalL l).length = l.length := moveL_len _ _ _
theorem specNormal_ev (l : List Cell) (hl : l.length ≤ 1048576) (h0 : 0 < l.length) : Ev (fun k => spec_l02Normal.f k l) (normalL l) := by
  unfold spec_l02Normal.f
  refine Ev.bind (specLeast_ev l (by unfold small; omega) h0) (Ev.bind (specMove_ev l _ _ hl) (Ev.now _))
theorem implNormal_ev (l : List Cell) (hl : l.length ≤ 1048576) (h0 : 0 < l.length) : Ev (fun k => impl_normal.f k l) (normalL l) := by
  unfold impl_normal.f
  refine Ev.bind (implCorner_ev l (by unfold small; omega) h0) (Ev.bind (implMoved_ev l _ _ hl) (Ev.now _))
def codeF (l : List Cell) : Int := if shapeB l = true then (if shapeB (normalL l) = true then 0 else 3) else 1
theorem codeF_shape {l : List Cell} (h : codeF l = 0) : shapeB l = true ∧ shapeB (normalL l) = true := by
  unfold codeF at h
  by_cases h1 : shapeB l = true
  · rw [if_pos h1] at h
    by_cases h2 : shapeB (normalL l) = true
    · exact ⟨h1, h2⟩
    · rw [if_neg h2] at h
      omega
  · rw [if_neg h1] at h
    omega
theorem implCode_ev (l : List Cell) (hs : l.length ≤ 1048576) : Ev (fun k => impl_shapeCode.f k l) (codeF l) := by
  have h1 : small l := by unfold small; omega
  unfold impl_shapeCode.f codeF
  refine Ev.bind (implIsShape_ev l h1) (Ev.if_ (fun h => ?_) (fun _ => Ev.now _))
  have h0 : 0 < l.length := List.length_pos_iff.2 (shape_ne h)
  refine Ev.bind (implNormal_ev l hs h0) (Ev.bind (implIsShape_ev _ (by unfold small; rw [normalL_len]; omega)) (Ev.if_ (fun _ => Ev.now _) (fun _ => Ev.now _)))
theorem specCode_ev (l : List Cell) (hs : l.length ≤ 1048576) : Ev (fun k => spec_l06Code.f k l) (codeF l) := by
  have h1 : small l := by unfold small; omega
  unfold spec_l06Code.f spec_l03Code.f codeF
  refine Ev.of_eq (Ev.bind (Ev.bind (specIsShape_ev l h1) (Ev.if_ (fun h => ?_) (fun _ => Ev.now _))) (Ev.now _)) rfl
  have h0 : 0 < l.length := List.length_pos_iff.2 (shape_ne h)
  refine Ev.bind (specNormal_ev l hs h0) (Ev.bind (specIsShape_ev _ (by unfold small; rw [normalL_len]; omega)) (Ev.if_ (fun _ => Ev.now _) (fun _ => Ev.now _)))
theorem sorted_le (x y : Cell) : (!Go.Proofs.ltOf cmpV y x) = decide (¬ ltC y x) := by
  rw [ltV]
  by_cases h : ltC y x
  · have h' : y.f1 < x.f1 ∨ y.f1 = x.f1 ∧ y.f0 < x.f0 := h
    simp [h, h']
  · have h' : ¬ (y.f1 < x.f1 ∨ y.f1 = x.f1 ∧ y.f0 < x.f0) := h
    simp only [h, h', decide_false]
    rfl
theorem sortC_perm (l : List Cell) : (sortC l).Perm l := List.mergeSort_perm _ _
theorem sortC_len (l : List Cell) : (sortC l).length = l.length := (sortC_perm l).length_eq
theorem sortC_sorted (l : List Cell) : (sortC l).Pairwise fun a b => ¬ ltC b a := by
  have := List.pairwise_mergeSort (le := fun x y : Cell => !Go.Proofs.ltOf cmpV y x) (fun a b c h1 h2 => by
    rw [sorted_le, decide_eq_true_eq] at *
    unfold ltC at *
    omega) (fun a b => by
    rw [sorted_le, sorted_le, Bool.or_eq_true, decide_eq_true_eq, decide_eq_true_eq]
    unfold ltC
    omega) l
  exact this.imp fun h => by rw [sorted_le, decide_eq_true_eq] at h; exact h
theorem eq_of_sorted : ∀ (l l' : List Cell), l.Perm l' → (l.Pairwise fun a b => ¬ ltC b a) → (l'.Pairwise fun a b => ¬ ltC b a) → l = l'
  | [], l', hp, _, _ => (List.Perm.nil_eq hp)
  | a :: r, [], hp, _, _ => absurd hp.symm (by simp)
  | a :: r, b :: s, hp, h1, h2 => by
    obtain ⟨h3, h4⟩ := List.pairwise_cons.1 h1
    obtain ⟨h5, h6⟩ := List.pairwise_cons.1 h2
    have hab : a = b := by
      have ha : a ∈ b :: s := hp.mem_iff.1 List.mem_cons_self
      have hb : b ∈ a :: r := hp.mem_iff.2 List.mem_cons_self
      have n1 : ¬ ltC b a := by
        rcases List.mem_cons.1 hb with e | e
        · rw [e]; unfold ltC; omega
        · exact h3 b e
      have n2 : ¬ ltC a b := by
        rcases List.mem_cons.1 ha with e | e
        · rw [e]; unfold ltC; omega
        · exact h5 a e
      obtain ⟨a0, a1⟩ := a
      obtain ⟨b0, b1⟩ := b
      unfold ltC at n1 n2
      simp only at n1 n2
      simp only [S44.mk.injEq]
      omega
    subst hab
    rw [eq_of_sorted r s (List.Perm.cons_inv hp) h4 h6]
theorem sortC_eq {l l' : List Cell} (hp : l'.Perm l) (hs : l'.Pairwise fun a b => ¬ ltC b a) : sortC l = l' :=
  eq_of_sorted _ _ ((sortC_perm l).trans hp.symm) (sortC_sorted l) hs
theorem implSorted_eq (l : List Cell) (h0 : 0 < l.length) (h1 : l.length ≤ 1000000000000) : impl_sorted.f l = some (sortC l) := by
  unfold impl_sorted.f impl_Cell_48.f impl_Cell_70__impl_compareCells.f
  rw [if_pos h1, Option.bind_some, if_pos ⟨h0, by omega⟩]
  rfl
def insC (c : Cell) : List Cell → List Cell
  | [] => [c]
  | a :: r => if ltC c a then c :: a :: r else a :: insC c r
theorem insC_perm (c : Cell) : ∀ l : List Cell, (insC c l).Perm (c :: l)
  | [] => List.Perm.refl _
  | a :: r => by
    unfold insC
    split
    · exact List.Perm.refl _
    · exact ((insC_perm c r).cons a).trans (List.Perm.swap c a r)
theorem insC_sorted (c : Cell) : ∀ l : List Cell, (l.Pairwise fun a b => ¬ ltC b a) → (insC c l).Pairwise fun a b => ¬ ltC b a
  | [], _ => by simp [insC]
  | a :: r, h => by
    obtain ⟨h1, h2⟩ := List.pairwise_cons.1 h
    unfold insC
    split
    · rename_i hc
      refine List.pairwise_cons.2 ⟨fun b hb => ?_, h⟩
      rcases List.mem_cons.1 hb with rfl | hb
      · unfold ltC at *; omega
      · have := h1 b hb
        unfold ltC at *; omega
    · rename_i hc
      refine List.pairwise_cons.2 ⟨fun b hb => ?_, insC_sorted c r h2⟩
      rcases List.mem_cons.1 ((insC_perm c r).mem_iff.1 hb) with rfl | hb
      · exact hc
      · exact h1 b hb
theorem specInsert_ev (l : List Cell) (c : Cell) (hl : l.length ≤ 1048576) : Ev (fun k => spec_l02Insert.f k l c.f0 c.f1) (insC c l) := by
  have hs : small l := by unfold small; omega
  unfold spec_l02Insert.f
  have := loop_list l (fun k i (s : List Cell × Bool) => spec_l02Insert.l0 k l s.1 s.2 i c.f0 c.f1) (fun pre suf s => if s.2 = true then s.1 ++ suf else s.1 ++ insC c suf) (fun pre s => s.1.length ≤ pre.length + 1 ∧ (s.2 = false → s.1.length = pre.length)) ?_ ?_ ([], false) ⟨by simp, fun _ => rfl⟩
  · simpa using this
  · rintro ⟨s, b⟩ ⟨h1, h2⟩
    simp only at h1 h2
    simp only [spec_l02Insert.l0, len_lt, if_false]
    cases b
    · refine Ev.neg (by simp) (Ev.pos (by omega) (Ev.of_eq (Ev.now _) ?_))
      simp [insC]
    · refine Ev.pos rfl (Ev.of_eq (Ev.now _) ?_)
      simp
  · rintro pre d suf ⟨s, b⟩ hx ⟨h1, h2⟩ ih
    have hp := pre_len hx
    simp only at h1 h2
    simp only [spec_l02Insert.l0, pre_lt hx, pre_0, if_true, at_pre hx, pre_w hx hs]
    cases b
    · refine Ev.neg (by simp) ?_
      simp only [l02Less_eq, Option.bind_some]
      have h2' := h2 rfl
      by_cases hd : ltC c d
      · have hd' : c.f1 < d.f1 ∨ c.f1 = d.f1 ∧ c.f0 < d.f0 := hd
        refine Ev.pos (by simpa using hd') (Ev.pos (by omega) ?_)
        refine Ev.pos (by simp; omega) (Ev.of_eq (ih ((s ++ [(⟨c.f0, c.f1⟩ : Cell)]) ++ [(⟨d.f0, d.f1⟩ : Cell)], true) ⟨by simp; omega, fun h => by cases h⟩) ?_)
        simp [insC, hd]
      · have hd' : ¬ (c.f1 < d.f1 ∨ c.f1 = d.f1 ∧ c.f0 < d.f0) := hd
        refine Ev.neg (by simpa using hd') (Ev.pos (by omega) (Ev.of_eq (ih (s ++ [(⟨d.f0, d.f1⟩ : Cell)], false) ⟨by simp; omega, fun _ => by simp; omega⟩) ?_))
        simp [insC, hd]
    · refine Ev.pos rfl (Ev.pos (by omega) (Ev.of_eq (ih (s ++ [(⟨d.f0, d.f1⟩ : Cell)], true) ⟨by simp; omega, fun h => by cases h⟩) ?_))
      simp
def insAll : List Cell → List Cell → List Cell
  | acc, [] => acc
  | acc, c :: r => insAll (insC c acc) r
theorem insAll_spec : ∀ (l acc : List Cell), (acc.Pairwise fun a b => ¬ ltC b a) → (insAll acc l).Perm (acc ++ l) ∧ (insAll acc l).Pairwise fun a b => ¬ ltC b a
  | [], acc, h => ⟨by simp [insAll], h⟩
  | c :: r, acc, h => by
    obtain ⟨h1, h2⟩ := insAll_spec r (insC c acc) (insC_sorted c acc h)
    refine ⟨h1.trans ?_, h2⟩
    refine ((insC_perm c acc).append_right r).trans ?_
    exact List.perm_middle.symm
theorem specSortI_ev (l : List Cell) (hl : l.length ≤ 1048576) : Ev (fun k => spec_l02Sort.f k l) (insAll [] l) := by
  have hs : small l := by unfold small; omega
  unfold spec_l02Sort.f
  refine loop_list l (fun k i (s : List Cell) => spec_l02Sort.l0 k l s i) (fun pre suf s => insAll s suf) (fun pre s => s.length = pre.length) ?_ ?_ [] rfl
  · intro s _
    simp only [spec_l02Sort.l0, len_lt, if_false]
    exact Ev.now _
  · intro pre c suf s hx hi ih
    have hp := pre_len hx
    simp only [spec_l02Sort.l0, pre_lt hx, pre_0, if_true, at_pre hx, pre_w hx hs]
    refine Ev.bind (specInsert_ev s c (by omega)) (ih _ ?_)
    rw [(insC_perm c s).length_eq]
    simp [hi]
theorem insAll_eq (l : List Cell) : insAll [] l = sortC l := by
  obtain ⟨h1, h2⟩ := insAll_spec l [] List.Pairwise.nil
  exact (sortC_eq (by simpa using h1) h2).symm
theorem specSort_ev (l : List Cell) (hl : l.length ≤ 1048576) : Ev (fun k => spec_l02Sort.f k l) (sortC l) := by
  rw [← insAll_eq]
  exact specSortI_ev l hl
theorem sort_ltF {l : List Cell} (h : l.Nodup) : (sortC l).Pairwise ltC := by
  have h1 := sortC_sorted l
  have h2 : (sortC l).Nodup := (sortC_perm l).nodup_iff.2 h
  have := h1.and h2
  refine this.imp fun {a b} hab => ?_
  obtain ⟨h3, h4⟩ := hab
  obtain ⟨a0, a1⟩ := a
  obtain ⟨b0, b1⟩ := b
  unfold ltC at *
  simp only [ne_eq, S44.mk.injEq] at *
  omega
theorem lt_nodF {l : List Cell} (h : l.Pairwise ltC) : l.Nodup := h.imp fun {a b} hab e => by subst e; unfold ltC at hab; omega
theorem grp_mem {l : List Cell} {p : List Int} {m : Nat} {k : Int} {c : Cell} : c ∈ grp l p m k ↔ ∃ j : Nat, j < m ∧ p.getD j 0 = k ∧ l.getD j z44 = c := by
  unfold grp
  rw [List.mem_map]
  constructor
  · rintro ⟨j, hj, e⟩
    obtain ⟨h1, h2⟩ := List.mem_filter.1 hj
    exact ⟨j, List.mem_range.1 h1, of_decide_eq_true h2, e⟩
  · rintro ⟨j, h1, h2, e⟩
    exact ⟨j, List.mem_filter.2 ⟨List.mem_range.2 h1, decide_eq_true h2⟩, e⟩
theorem idx_getD {l : List Cell} (hn : l.Nodup) {j : Nat} (hj : j < l.length) : idxC l (l.getD j z44) = (j : Int) := by
  have : l.getD j z44 = l[j] := by simp [List.getD, hj]
  rw [this]
  exact idxC_at hn hj
theorem grp_nodup {l : List Cell} {p : List Int} (hn : l.Nodup) {m : Nat} (hm : m ≤ l.length) (k : Int) : (grp l p m k).Nodup := by
  unfold grp
  refine List.pairwise_map.2 ((List.nodup_range.filter _).imp_of_mem fun {i j} hi hj hij e => hij ?_)
  have h1 := List.mem_range.1 (List.mem_filter.1 hi).1
  have h2 := List.mem_range.1 (List.mem_filter.1 hj).1
  have h3 := idx_getD hn (j := i) (by omega)
  have h4 := idx_getD hn (j := j) (by omega)
  rw [e, h4] at h3
  omega
theorem rootsI_nodup (p : List Int) (m : Nat) : (rootsI p m).Nodup := by
  unfold rootsI
  refine List.pairwise_map.2 ((List.nodup_range.filter _).imp fun {i j} hij e => hij ?_)
  omega
theorem rootsI_pos {l : List Cell} {p : List Int} (h : Marks l p) (m : Nat) (h0 : 0 < l.length) {x : Int} (hx : x ∈ (rootsI p (m + 1)).drop 1) : 1 ≤ x := by
  obtain ⟨r, hr⟩ := rootsI_first h m h0
  have hn := rootsI_nodup p (m + 1)
  rw [hr] at hn hx
  rw [List.drop_one, List.tail_cons] at hx
  have h1 := (List.nodup_cons.1 hn).1
  have h2 := rootsI_mem (p := p) (m := m + 1) (x := x) (by rw [hr]; exact List.mem_cons_of_mem _ hx)
  have h3 : x ≠ 0 := by rintro rfl; exact h1 hx
  omega
theorem holesP_mem {F : List Cell} (h0 : F ≠ []) (hn : F.Nodup) {c : Cell} : c ∈ (holesP F).flatten ↔ c ∈ F ∧ rd (partsR aroundC F) (idxC F c) ≠ 0 := by
  have hM := marksR F
  have hp := List.length_pos_iff.2 h0
  unfold holesP partsBut
  generalize partsR aroundC F = p at *
  obtain ⟨n, hn1⟩ : ∃ n, F.length = n + 1 := ⟨F.length - 1, by omega⟩
  have hpl := hM.len
  rw [List.mem_flatten]
  constructor
  · rintro ⟨g, hg, hc⟩
    obtain ⟨r, hr, rfl⟩ := List.mem_map.1 hg
    obtain ⟨j, h1, h2, h3⟩ := grp_mem.1 hc
    have hj : j < F.length := by omega
    have hx := idx_getD hn hj
    rw [h3] at hx
    rw [hn1] at hr
    have hr1 := rootsI_pos hM n hp hr
    refine ⟨?_, ?_⟩
    · have e : F.getD j z44 = F[j] := by simp [List.getD, hj]
      rw [← h3, e]
      exact List.getElem_mem hj
    · rw [hx, rd_nat, h2]
      omega
  · rintro ⟨hc, hne⟩
    have hi := (idxC_mem F c).2 hc
    have hl := idxC_lt F c
    obtain ⟨j, hj⟩ : ∃ j : Nat, idxC F c = (j : Int) := ⟨(idxC F c).toNat, by omega⟩
    rw [hj] at hne hl
    have hjl : j < F.length := by omega
    obtain ⟨r1, r2, r3⟩ := hM.root j hjl
    have hcj : F.getD j z44 = c := by
      have e : F.getD j z44 = F[j] := by simp [List.getD, hjl]
      rcases idxC_spec F c with ⟨e1, _⟩ | ⟨q, q1, q2, q3, _⟩
      · omega
      · have : q = j := by omega
        subst this
        rw [e]
        rw [List.getElem?_eq_getElem q1] at q3
        simpa using q3
    obtain ⟨v, hv⟩ : ∃ v : Nat, rd p (j : Int) = (v : Int) := ⟨(rd p (j : Int)).toNat, by omega⟩
    rw [hv] at r1 r2 r3 hne
    refine ⟨grp F p p.length (v : Int), List.mem_map.2 ⟨(v : Int), ?_, rfl⟩, grp_mem.2 ⟨j, by omega, by rw [← rd_nat]; exact hv, hcj⟩⟩
    have hvr : (v : Int) ∈ rootsI p F.length := by
      unfold rootsI
      refine List.mem_map.2 ⟨v, List.mem_filter.2 ⟨List.mem_range.2 (by omega), decide_eq_true ?_⟩, rfl⟩
      rw [← rd_nat]
      exact r3
    obtain ⟨t, ht⟩ := rootsI_first hM n hp
    rw [← hn1] at ht
    rw [ht] at hvr ⊢
    rw [List.drop_one, List.tail_cons]
    rcases List.mem_cons.1 hvr with h | h
    · exact absurd h hne
    · exact h
theorem holesP_nodup {F : List Cell} (hn : F.Nodup) : (holesP F).flatten.Nodup := by
  have hM := marksR F
  unfold holesP partsBut
  generalize partsR aroundC F = p at *
  have hpl := hM.len
  refine List.pairwise_flatten.2 ⟨fun g hg => ?_, List.pairwise_map.2 ?_⟩
  · obtain ⟨r, hr, rfl⟩ := List.mem_map.1 hg
    exact grp_nodup hn (by omega) r
  · refine (List.Pairwise.sublist (List.drop_sublist 1 (rootsI p F.length)) (rootsI_nodup p F.length)).imp fun {r s} hrs x hx y hy e => hrs ?_
    obtain ⟨i, h1, h2, h3⟩ := grp_mem.1 hx
    obtain ⟨j, h4, h5, h6⟩ := grp_mem.1 hy
    have h7 := idx_getD hn (j := i) (by omega)
    have h8 := idx_getD hn (j := j) (by omega)
    rw [h3, e, ← h6, h8] at h7
    have : j = i := by omega
    subst this
    rw [← h2, h5]
def fillL (l : List Cell) : List Cell := l ++ (holesL l).flatten
theorem fillL_ok {l : List Cell} (h : shapeB l = true) : (∀ c ∈ fillL l, okC c) ∧ (fillL l).Nodup ∧ 1 ≤ (fillL l).length ∧ (fillL l).length ≤ 1000040 := by
  obtain ⟨f0, f1, f2, f3⟩ := freeL_ok h
  obtain ⟨ho, hp, h3, h4⟩ := shapeB_iff.1 h
  have hb := box_bd h
  have hmem : ∀ c ∈ (holesL l).flatten, c ∈ freeL l ∧ c ∉ l ∧ okC c := fun c hc => by
    obtain ⟨h5, h6⟩ := (holesP_mem f0 f2).1 hc
    have h7 := other_in h h5 h6
    refine ⟨h5, ((mem_freeL h c).1 h5).2.2.2.2, ?_⟩
    unfold okC ok1
    omega
  have hfl := nodup_subG (holesL l).flatten (freeL l) (holesP_nodup f2) (fun c hc => (hmem c hc).1)
  unfold fillL
  refine ⟨fun c hc => ?_, ?_, ?_, ?_⟩
  · rcases List.mem_append.1 hc with h5 | h5
    · exact ho c h5
    · exact (hmem c h5).2.2
  · refine List.nodup_append.2 ⟨lt_nodF hp, holesP_nodup f2, fun a ha b hb e => ?_⟩
    exact (hmem b hb).2.1 (e ▸ ha)
  · rw [List.length_append]; omega
  · rw [List.length_append]; omega
theorem fill_shape {l : List Cell} (h : shapeB l = true) : shapeB (sortC (fillL l)) = decide ((fillL l).length ≤ 40) := by
  obtain ⟨h1, h2, h3, h4⟩ := fillL_ok h
  rw [Bool.eq_iff_iff, decide_eq_true_eq, shapeB_iff]
  constructor
  · rintro ⟨_, _, _, h5⟩
    rwa [sortC_len] at h5
  · intro h5
    refine ⟨fun c hc => h1 c ((sortC_perm _).mem_iff.1 hc), sort_ltF h2, ?_, ?_⟩
    · rw [sortC_len]; exact h3
    · rw [sortC_len]; exact h5
def fillR (l : List Cell) : List Cell × Int := if codeF l = 0 then (if (fillL l).length ≤ 40 then (sortC (fillL l), 0) else ([], 3)) else ([], codeF l)
theorem fillR_len (l : List Cell) : (fillR l).1.length ≤ 40 := by
  unfold fillR
  by_cases h : codeF l = 0
  · rw [if_pos h]
    by_cases h2 : (fillL l).length ≤ 40
    · rw [if_pos h2]
      show (sortC (fillL l)).length ≤ 40
      rw [sortC_len]
      exact h2
    · rw [if_neg h2]; simp
  · rw [if_neg h]; simp
def shiftC (a b : Int) (c : Cell) : Cell := ⟨c.f0 - a, c.f1 - b⟩
theorem normalL_shift {l : List Cell} (h0 : l ≠ []) (ho : ∀ c ∈ l, okC c) : normalL l = l.map (shiftC (leastOf l).1 (leastOf l).2) := by
  have hb := least_ok h0 ho
  unfold normalL moveL
  refine List.map_congr_left fun c hc => ?_
  have h := ho c hc
  unfold okC ok1 at h
  unfold ok1 at hb
  unfold shiftC
  rw [w64 (n := -(leastOf l).1) (by omega) (by omega), w64 (n := -(leastOf l).2) (by omega) (by omega), w64 (by omega) (by omega), w64 (by omega) (by omega)]
  simp only [S44.mk.injEq]
  omega
def fillS (l : List Cell) : List Cell := sortC (fillL l)
theorem fillS_mem {l : List Cell} (h : shapeB l = true) (c : Cell) : c ∈ fillS l ↔ c ∈ l ∨ (c ∈ freeL l ∧ rd (partsR aroundC (freeL l)) (idxC (freeL l) c) ≠ 0) := by
  obtain ⟨f0, f1, f2, f3⟩ := freeL_ok h
  unfold fillS fillL
  rw [(sortC_perm _).mem_iff, List.mem_append]
  exact or_congr Iff.rfl (holesP_mem f0 f2)
theorem fillS_box {l : List Cell} (h : shapeB l = true) : ∀ c ∈ fillS l, (leastOf l).1 ≤ c.f0 ∧ c.f0 ≤ (reachOf l).1 ∧ (leastOf l).2 ≤ c.f1 ∧ c.f1 ≤ (reachOf l).2 := fun c hc => by
  rcases (fillS_mem h c).1 hc with h1 | ⟨h1, h2⟩
  · have := least_le h1
    have := reach_ge h1
    omega
  · exact other_in h h1 h2
theorem fillS_least {l : List Cell} (h : shapeB l = true) : leastOf (fillS l) = leastOf l ∧ reachOf (fillS l) = reachOf l := by
  have h0 := shape_ne h
  have hsub : ∀ c ∈ l, c ∈ fillS l := fun c hc => (fillS_mem h c).2 (.inl hc)
  have hT0 : fillS l ≠ [] := fun e => by
    obtain ⟨c, hc⟩ := List.exists_mem_of_ne_nil l h0
    have := hsub c hc
    rw [e] at this
    cases this
  have hbox := fillS_box h
  obtain ⟨⟨a, ha, ea⟩, ⟨b, hb, eb⟩⟩ := least_mem h0
  obtain ⟨⟨c, hc, ec⟩, ⟨d, hd, ed⟩⟩ := reach_mem h0
  obtain ⟨⟨a', ha', ea'⟩, ⟨b', hb', eb'⟩⟩ := least_mem hT0
  obtain ⟨⟨c', hc', ec'⟩, ⟨d', hd', ed'⟩⟩ := reach_mem hT0
  have q1 := least_le (hsub a ha)
  have q2 := least_le (hsub b hb)
  have q3 := reach_ge (hsub c hc)
  have q4 := reach_ge (hsub d hd)
  have p1 := hbox a' ha'
  have p2 := hbox b' hb'
  have p3 := hbox c' hc'
  have p4 := hbox d' hd'
  exact ⟨Prod.ext (by omega) (by omega), Prod.ext (by omega) (by omega)⟩
theorem fillS_code {l : List Cell} (h : codeF l = 0) (hn : (fillL l).length ≤ 40) : codeF (fillS l) = 0 := by
  obtain ⟨h1, h2⟩ := codeF_shape h
  have hT : shapeB (fillS l) = true := (fill_shape h1).trans (decide_eq_true hn)
  obtain ⟨ho, hp, h3, h4⟩ := shapeB_iff.1 h1
  obtain ⟨To, Tp, T3, T4⟩ := shapeB_iff.1 hT
  have h0 := shape_ne h1
  obtain ⟨go, _⟩ := shapeB_iff.1 h2
  rw [normalL_shift h0 ho] at go
  obtain ⟨⟨c, hc, ec⟩, ⟨d, hd, ed⟩⟩ := reach_mem h0
  have g1 := go _ (List.mem_map.2 ⟨c, hc, rfl⟩)
  have g2 := go _ (List.mem_map.2 ⟨d, hd, rfl⟩)
  unfold okC ok1 shiftC at g1 g2
  simp only at g1 g2
  have hb := box_bd h1
  have hN : shapeB (normalL (fillS l)) = true := by
    rw [normalL_shift (shape_ne hT) To, (fillS_least h1).1]
    refine shapeB_iff.2 ⟨fun x hx => ?_, ?_, ?_, ?_⟩
    · obtain ⟨y, hy, rfl⟩ := List.mem_map.1 hx
      have := fillS_box h1 y hy
      unfold okC ok1 shiftC
      simp only
      omega
    · refine List.pairwise_map.2 (Tp.imp fun {a b} hab => ?_)
      unfold ltC shiftC at *
      simp only
      omega
    · rw [List.length_map]; exact T3
    · rw [List.length_map]; exact T4
  unfold codeF
  rw [if_pos hT, if_pos hN]
theorem holesP_none {F : List Cell} (h0 : F ≠ []) (h : ∀ j : Nat, j < F.length → rd (partsR aroundC F) (j : Int) = 0) : holesP F = [] := by
  have hM := marksR F
  have hp := List.length_pos_iff.2 h0
  unfold holesP partsBut
  generalize partsR aroundC F = p at *
  obtain ⟨n, hn⟩ : ∃ n, F.length = n + 1 := ⟨F.length - 1, by omega⟩
  obtain ⟨t, ht⟩ := rootsI_first hM n hp
  rw [← hn] at ht
  have hnd := rootsI_nodup p F.length
  rw [ht] at hnd ⊢
  cases t with
  | nil => rfl
  | cons x t =>
    exfalso
    have hx : x ∈ rootsI p F.length := by rw [ht]; simp
    unfold rootsI at hx
    obtain ⟨j, hj, rfl⟩ := List.mem_map.1 hx
    obtain ⟨h1, h2⟩ := List.mem_filter.1 hj
    have h3 := of_decide_eq_true h2
    have h4 := h j (List.mem_range.1 h1)
    rw [rd_nat, h3] at h4
    have := (List.nodup_cons.1 hnd).1
    rw [h4] at this
    exact this List.mem_cons_self
theorem fillS_none {l : List Cell} (h : shapeB l = true) (hn : (fillL l).length ≤ 40) : holesL (fillS l) = [] := by
  have hT : shapeB (fillS l) = true := (fill_shape h).trans (decide_eq_true hn)
  obtain ⟨e1, e2⟩ := fillS_least h
  obtain ⟨f0, f1, f2, f3⟩ := freeL_ok h
  obtain ⟨t0, t1, t2, t3⟩ := freeL_ok hT
  have hfree : ∀ c, c ∈ freeL (fillS l) ↔ c ∈ freeL l ∧ rd (partsR aroundC (freeL l)) (idxC (freeL l) c) = 0 := fun c => by
    rw [mem_freeL hT, mem_freeL h, e1, e2, fillS_mem h]
    constructor
    · rintro ⟨h1, h2, h3, h4, h5⟩
      have hl : c ∉ l := fun hc => h5 (.inl hc)
      have hF : c ∈ freeL l := (mem_freeL h c).2 ⟨h1, h2, h3, h4, hl⟩
      exact ⟨⟨h1, h2, h3, h4, hl⟩, Decidable.byContradiction fun hne => h5 (.inr ⟨hF, hne⟩)⟩
    · rintro ⟨⟨h1, h2, h3, h4, h5⟩, h6⟩
      refine ⟨h1, h2, h3, h4, ?_⟩
      rintro (h7 | h7)
      · exact h5 h7
      · exact h7.2 h6
  have hcorner : (⟨(leastOf l).1 - 1, (leastOf l).2 - 1⟩ : Cell) ∈ freeL l := by
    rw [← freeL_head h]
    exact List.getElem_mem _
  unfold holesL
  refine holesP_none t0 fun j hj => ?_
  have hc : (freeL (fillS l))[j] ∈ freeL (fillS l) := List.getElem_mem hj
  obtain ⟨h1, h2⟩ := (hfree _).1 hc
  have h3 := (first_iff f0 f2 h1).1 h2
  rw [freeL_head h] at h3
  have h4 : Rch aroundC (freeL (fillS l)) ⟨(leastOf l).1 - 1, (leastOf l).2 - 1⟩ (freeL (fillS l))[j] := (h3 (fun x => Rch aroundC (freeL l) ⟨(leastOf l).1 - 1, (leastOf l).2 - 1⟩ x ∧ Rch aroundC (freeL (fillS l)) ⟨(leastOf l).1 - 1, (leastOf l).2 - 1⟩ x) ⟨Rch.refl, Rch.refl⟩ (fun c d hcd hd hdl => by
    have h5 := hcd.1.step hd hdl
    refine ⟨h5, hcd.2.step hd ((hfree d).2 ⟨hdl, (first_iff f0 f2 hdl).2 ?_⟩)⟩
    rw [freeL_head h]
    exact h5)).2
  have h6 := (first_iff t0 t2 hc).2 (by rw [freeL_head hT, e1]; exact h4)
  rw [idxC_at t2 hj] at h6
  exact h6
theorem sum_flat : ∀ (y : List (List Cell)), (y.map (fun s => (s.length : Int))).sum = (y.flatten.length : Int)
  | [] => rfl
  | a :: r => by
    rw [List.map_cons, List.sum_cons, sum_flat r, List.flatten_cons, List.length_append]
    omega
structure Src (cs : List Int) (a s : Int) : Prop where
  at0 : 0 ≤ a
  at1 : a ≤ (cs.length : Int)
  sd0 : 0 ≤ s
  sd1 : s < 2147483647
  len : cs.length ≤ 1000000000000000000
  byte : ∀ x ∈ cs, 0 ≤ x ∧ x ≤ 255
theorem rd_byte {cs : List Int} {a s : Int} (h : Src cs a s) (i : Int) (h0 : 0 ≤ i) (h1 : i < (cs.length : Int)) : 0 ≤ rd cs i ∧ rd cs i ≤ 255 := by
  unfold rd
  obtain ⟨n, rfl⟩ : ∃ n : Nat, i = (n : Int) := ⟨i.toNat, by omega⟩
  have hn : n < cs.length := by omega
  have e : cs.getD (n : Int).toNat 0 = cs[n] := by simp [List.getD, hn]
  rw [e]
  exact h.byte _ (List.getElem_mem hn)
theorem next_ex {cs : List Int} {a s : Int} (h : Src cs a s) (n : Int) (hn : n ≤ 1000000000000) : ∃ v a' s', spec_l01Next.f cs a s n = some (v, a', s') ∧ Src cs a' s' ∧ 0 ≤ v ∧ (1 ≤ n → v < n) := by
  have ⟨h0, h1, h2, h3, h4, h5⟩ := h
  unfold spec_l01Next.f
  by_cases hn1 : n ≤ 1
  · rw [if_pos hn1]
    exact ⟨_, _, _, rfl, h, by omega, by omega⟩
  · rw [if_neg hn1]
    have ew : wrap64 ((wrap64 (s * 48271)) + 29) = s * 48271 + 29 := by rw [w64 (n := s * 48271) (by omega) (by omega), w64 (by omega) (by omega)]
    have em : Int.tmod (s * 48271 + 29) 2147483647 = (s * 48271 + 29) % 2147483647 := Int.tmod_eq_emod_of_nonneg (by omega)
    have hs0 : 0 ≤ (s * 48271 + 29) % 2147483647 := Int.emod_nonneg _ (by omega)
    have hs1 : (s * 48271 + 29) % 2147483647 < 2147483647 := Int.emod_lt_of_pos _ (by omega)
    rw [ew, em]
    generalize (s * 48271 + 29) % 2147483647 = s' at hs0 hs1 ⊢
    have et : Int.tdiv s' 31 = s' / 31 := Int.tdiv_eq_ediv_of_nonneg hs0
    rw [et, w64 (n := s' / 31) (by omega) (by omega)]
    have tm (x : Int) (hx : 0 ≤ x) : 0 ≤ Int.tmod x n ∧ Int.tmod x n < n := by
      rw [Int.tmod_eq_emod_of_nonneg hx]
      exact ⟨Int.emod_nonneg _ (by omega), Int.emod_lt_of_pos _ (by omega)⟩
    by_cases ha : a < (cs.length : Int)
    · have ea : wrap64 (a + 1) = a + 1 := w64 (by omega) (by omega)
      have hr := rd_byte h a h0 ha
      have e1 : wrap64 (rd cs a) = rd cs a := w64 (by omega) (by omega)
      have e2 : wrap64 (a + 1 - 1) = a := by rw [w64 (by omega) (by omega)]; omega
      have e3 : wrap64 (s' / 31 + rd cs a) = s' / 31 + rd cs a := w64 (by omega) (by omega)
      have hS : Src cs (a + 1) s' := ⟨by omega, by omega, hs0, hs1, h4, h5⟩
      rw [if_pos ha, if_pos h0, ea, e1, e2, e1, e3, if_pos h0, if_pos ha, if_neg (by omega : ¬ n = 0)]
      repeat' split
      all_goals first
        | exact ⟨_, _, _, rfl, hS, (tm _ (by omega)).1, fun _ => (tm _ (by omega)).2⟩
        | omega
    · have hS : Src cs a s' := ⟨by omega, by omega, hs0, hs1, h4, h5⟩
      rw [if_neg ha, if_neg (by omega : ¬ n = 0)]
      have := tm (s' / 31) (by omega)
      exact ⟨_, _, _, rfl, hS, this.1, fun _ => this.2⟩
def Ex {α : Type} (g : Nat → Option α) (P : α → Prop) : Prop := ∃ r, Ev g r ∧ P r
theorem Ex.now {α : Type} {P : α → Prop} {r : α} (h : P r) : Ex (fun _ => some r) P := ⟨r, Ev.now _, h⟩
theorem Ex.mono {α : Type} {g : Nat → Option α} {P Q : α → Prop} (h : Ex g P) (hi : ∀ r, P r → Q r) : Ex g Q := by
  obtain ⟨r, h1, h2⟩ := h
  exact ⟨r, h1, hi r h2⟩
theorem Ex.bind {α β : Type} {g : Nat → Option α} {f : Nat → α → Option β} {P : α → Prop} {Q : β → Prop} (h : Ex g P) (k : ∀ a, P a → Ex (fun n => f n a) Q) : Ex (fun n => (g n).bind (f n)) Q := by
  obtain ⟨a, h1, h2⟩ := h
  obtain ⟨b, h3, h4⟩ := k a h2
  exact ⟨b, Ev.bind h1 h3, h4⟩
theorem Ex.bindE {α β : Type} {g : Nat → Option α} {f : Nat → α → Option β} {a : α} {Q : β → Prop} (h : Ev g a) (k : Ex (fun n => f n a) Q) : Ex (fun n => (g n).bind (f n)) Q := by
  obtain ⟨b, h3, h4⟩ := k
  exact ⟨b, Ev.bind h h3, h4⟩
theorem Ex.bind0 {α β : Type} {o : Option α} {f : Nat → α → Option β} {a : α} {Q : β → Prop} (h : o = some a) (k : Ex (fun n => f n a) Q) : Ex (fun n => o.bind (f n)) Q := by
  subst h
  exact k
theorem Ex.pos {α : Type} {c : Prop} [Decidable c] {f g : Nat → Option α} {P : α → Prop} (h : c) (e : Ex f P) : Ex (fun k => if c then f k else g k) P := by
  obtain ⟨r, h1, h2⟩ := e
  exact ⟨r, Ev.pos h h1, h2⟩
theorem Ex.neg {α : Type} {c : Prop} [Decidable c] {f g : Nat → Option α} {P : α → Prop} (h : ¬ c) (e : Ex g P) : Ex (fun k => if c then f k else g k) P := by
  obtain ⟨r, h1, h2⟩ := e
  exact ⟨r, Ev.neg h h1, h2⟩
theorem Ex.if_ {α : Type} {c : Prop} [Decidable c] {f g : Nat → Option α} {P : α → Prop} (h : c → Ex f P) (h' : ¬ c → Ex g P) : Ex (fun k => if c then f k else g k) P := by
  by_cases hc : c
  · exact Ex.pos hc (h hc)
  · exact Ex.neg hc (h' hc)
theorem Ex.succ {α : Type} {g : Nat → Option α} {P : α → Prop} (h : Ex (fun k => g (k + 1)) P) : Ex g P := by
  obtain ⟨r, h1, h2⟩ := h
  exact ⟨r, Ev.succ h1, h2⟩
theorem Ex.next {β : Type} {cs : List Int} {a s : Int} (h : Src cs a s) (n : Int) (hn : n ≤ 1000000000000) {f : Nat → Int × Int × Int → Option β} {Q : β → Prop}
    (k : ∀ v a' s', Src cs a' s' → 0 ≤ v → (1 ≤ n → v < n) → Ex (fun q => f q (v, a', s')) Q) : Ex (fun q => (spec_l01Next.f cs a s n).bind (f q)) Q := by
  obtain ⟨v, a', s', e, h1, h2, h3⟩ := next_ex h n hn
  exact Ex.bind0 e (k v a' s' h1 h2 h3)
theorem from_l (cs : List Int) (hl : cs.length ≤ 1000000000000000000) (hb : ∀ x ∈ cs, 0 ≤ x ∧ x ≤ 255) : ∀ (q i : Nat) (s : Int), i + q = min cs.length 64 → 0 ≤ s → s < 2147483647 →
    Ex (fun k => spec_l01From.l0 k cs (i : Int) cs 0 s) fun r => r.1 = cs ∧ r.2.1 = 0 ∧ Src cs 0 r.2.2
  | 0, i, s, hi, h0, h1 => by
    refine Ex.succ ?_
    simp only [spec_l01From.l0]
    have hS : Src cs 0 s := ⟨by omega, by omega, h0, h1, hl, hb⟩
    refine Ex.if_ (fun _ => Ex.neg (by omega) (Ex.now ⟨rfl, rfl, hS⟩)) (fun _ => Ex.now ⟨rfl, rfl, hS⟩)
  | q + 1, i, s, hi, h0, h1 => by
    refine Ex.succ ?_
    simp only [spec_l01From.l0]
    have hS : Src cs 0 s := ⟨by omega, by omega, h0, h1, hl, hb⟩
    have hr := rd_byte hS (i : Int) (by omega) (by omega)
    have ei : wrap64 ((i : Int) + 1) = ((i + 1 : Nat) : Int) := by rw [w64 (by omega) (by omega)]; omega
    have es : Int.tmod (wrap64 ((wrap64 (s * 47)) + (wrap64 (rd cs (i : Int))))) 2147483647 = (s * 47 + rd cs (i : Int)) % 2147483647 := by
      rw [w64 (n := s * 47) (by omega) (by omega), w64 (n := rd cs (i : Int)) (by omega) (by omega), w64 (by omega) (by omega), Int.tmod_eq_emod_of_nonneg (by omega)]
    rw [ei, es]
    exact Ex.pos (by omega) (Ex.pos (by omega) (Ex.pos (by omega) (from_l cs hl hb q (i + 1) _ (by omega) (Int.emod_nonneg _ (by omega)) (Int.emod_lt_of_pos _ (by omega)))))
theorem from_ex (cs : List Int) (hl : cs.length ≤ 1000000000000000000) (hb : ∀ x ∈ cs, 0 ≤ x ∧ x ≤ 255) : Ex (fun k => spec_l01From.f k cs) fun r => r.1 = cs ∧ r.2.1 = 0 ∧ Src cs 0 r.2.2 := by
  unfold spec_l01From.f
  exact from_l cs hl hb (min cs.length 64) 0 61003 (by omega) (by omega) (by omega)
theorem insP_mem {c d : Cell} {s : List Cell} : c ∈ insC d s ↔ c = d ∨ c ∈ s := by
  rw [(insC_perm d s).mem_iff, List.mem_cons]
theorem nbs_l1 (s : List Cell) (hs : s.length ≤ 64) (i : Int) (arr : List Cell) (ha : arr.length = 4) {Q : List Cell → Prop} : ∀ (suf pre acc : List Cell), arr = pre ++ suf → acc.length + suf.length ≤ 1000 →
    (∀ acc' : List Cell, acc'.length ≤ acc.length + suf.length → (∀ d ∈ acc', d ∈ acc ∨ d ∈ suf) → (∀ d ∈ acc, d ∈ acc') → (∀ d ∈ suf, d ∉ s → d ∈ acc') → Ex (fun k => spec_l02Neighbours.l0 k s acc' (wrap64 (i + 1))) Q) →
    Ex (fun k => spec_l02Neighbours.l1 k s acc i arr (pre.length : Int)) Q
  | [], pre, acc, hx, hl, hc => by
    refine Ex.succ ?_
    rw [List.append_nil] at hx
    subst hx
    simp only [spec_l02Neighbours.l1]
    exact Ex.neg (by omega) (hc acc (by simp) (fun d h => .inl h) (fun d h => h) (fun d h => by simp at h))
  | d :: suf, pre, acc, hx, hl, hc => by
    refine Ex.succ ?_
    have hsm : small arr := by unfold small; omega
    have hp := pre_len hx
    simp only [List.length_cons] at hl hc
    have h4 : ((pre.length : Int) < 4) := by omega
    simp only [spec_l02Neighbours.l1, pre_lt hx, pre_0, if_true, at_pre hx, pre_w hx hsm]
    refine Ex.pos h4 (Ex.bindE (specIndex_ev s d (by unfold small; omega)) ?_)
    have next (acc2 : List Cell) (h1 : acc2.length ≤ acc.length + 1) (h2 : ∀ x ∈ acc2, x ∈ acc ∨ x = d) (h3 : ∀ x ∈ acc, x ∈ acc2) (h5 : d ∉ s → d ∈ acc2) : Ex (fun k => spec_l02Neighbours.l1 k s acc2 i arr ((pre.length : Int) + 1)) Q := by
      have := nbs_l1 s hs i arr ha suf (pre ++ [d]) acc2 (by rw [hx]; simp) (by omega) (fun acc' g1 g2 g3 g4 => hc acc' (by omega) (fun x hx' => by
        rcases g2 x hx' with g | g
        · rcases h2 x g with g | rfl
          · exact .inl g
          · exact .inr List.mem_cons_self
        · exact .inr (List.mem_cons_of_mem _ g)) (fun x hx' => g3 x (h3 x hx')) (fun x hx' hn => by
        rcases List.mem_cons.1 hx' with rfl | hx'
        · exact g3 _ (h5 hn)
        · exact g4 x hx' hn))
      simpa using this
    by_cases hm : d ∈ s
    · have h := (idxC_mem s d).2 hm
      exact Ex.neg (by omega) (next acc (by omega) (fun x h => .inl h) (fun x h => h) (fun h => absurd hm h))
    · have h : ¬ idxC s d ≥ 0 := fun h => hm ((idxC_mem s d).1 h)
      refine Ex.pos (by omega) (Ex.bindE (specIndex_ev acc d (by unfold small; omega)) ?_)
      by_cases hm2 : d ∈ acc
      · have h := (idxC_mem acc d).2 hm2
        exact Ex.neg (by omega) (next acc (by omega) (fun x h => .inl h) (fun x h => h) (fun _ => hm2))
      · have h : ¬ idxC acc d ≥ 0 := fun h => hm2 ((idxC_mem acc d).1 h)
        refine Ex.pos (by omega) (Ex.bindE (specInsert_ev acc d (by omega)) (next (insC d acc) ?_ (fun x h => ?_) (fun x h => insP_mem.2 (.inr h)) (fun _ => insP_mem.2 (.inl rfl))))
        · rw [(insC_perm d acc).length_eq, List.length_cons]; omega
        · rcases insP_mem.1 h with h | h
          · exact .inr h
          · exact .inl h
theorem nbs_l0 (s : List Cell) (hs : s.length ≤ 64) : ∀ (suf pre acc : List Cell), s = pre ++ suf → acc.length ≤ 4 * pre.length → (∀ d ∈ acc, ∃ c ∈ s, d ∈ aroundC c) → (∀ c ∈ pre, ∀ d ∈ aroundC c, d ∉ s → d ∈ acc) →
    Ex (fun k => spec_l02Neighbours.l0 k s acc (pre.length : Int)) fun r => r.length ≤ 4 * s.length ∧ (∀ d ∈ r, ∃ c ∈ s, d ∈ aroundC c) ∧ ∀ c ∈ s, ∀ d ∈ aroundC c, d ∉ s → d ∈ r
  | [], pre, acc, hx, h1, h2, h3 => by
    refine Ex.succ ?_
    rw [List.append_nil] at hx
    subst hx
    simp only [spec_l02Neighbours.l0]
    exact Ex.neg (by omega) (Ex.now ⟨h1, h2, h3⟩)
  | c :: suf, pre, acc, hx, h1, h2, h3 => by
    refine Ex.succ ?_
    have hsm : small s := by unfold small; omega
    have hp := pre_len hx
    have h4 : (aroundC c).length = 4 := rfl
    simp only [spec_l02Neighbours.l0, pre_lt hx, pre_0, if_true, at_pre hx]
    refine Ex.bind0 (specAround_eq c) ?_
    refine nbs_l1 s hs (pre.length : Int) (aroundC c) h4 (aroundC c) [] acc rfl (by omega) (fun acc' g1 g2 g3 g4 => ?_)
    rw [pre_w hx hsm]
    have := nbs_l0 s hs suf (pre ++ [c]) acc' (by rw [hx]; simp) (by simp; omega) (fun d hd => by
      rcases g2 d hd with g | g
      · exact h2 d g
      · exact ⟨c, by rw [hx]; simp, g⟩) (fun e he d hd hn => by
      rcases List.mem_append.1 he with he | he
      · exact g3 d (h3 e he d hd hn)
      · simp at he
        subst he
        exact g4 d hd hn)
    simpa using this
theorem nbs_ex (s : List Cell) (hs : s.length ≤ 64) : Ex (fun k => spec_l02Neighbours.f k s) fun r => r.length ≤ 4 * s.length ∧ (∀ d ∈ r, ∃ c ∈ s, d ∈ aroundC c) ∧ ∀ c ∈ s, ∀ d ∈ aroundC c, d ∉ s → d ∈ r := by
  unfold spec_l02Neighbours.f
  exact nbs_l0 s hs s [] [] rfl (by simp) (by simp) (by simp)
def inBox (m : Int) (s : List Cell) : Prop := ∀ c ∈ s, -m ≤ c.f0 ∧ c.f0 ≤ m ∧ -m ≤ c.f1 ∧ c.f1 ≤ m
theorem nbs_pos {s r : List Cell} (h0 : 0 < s.length) (hb : inBox 1000 s) (h : ∀ c ∈ s, ∀ d ∈ aroundC c, d ∉ s → d ∈ r) : 0 < r.length := by
  have hne : s ≠ [] := by intro e; rw [e] at h0; simp at h0
  obtain ⟨_, ⟨c, hc, ec⟩⟩ := least_mem hne
  have hbc := hb c hc
  refine List.length_pos_of_mem (a := ⟨c.f0, wrap64 (c.f1 - 1)⟩) (h c hc _ (by simp [aroundC]) fun hm => ?_)
  have := (least_le hm).2
  simp only at this
  rw [w64 (by omega) (by omega)] at this
  omega
theorem around_box {m : Int} {c d : Cell} (hm : 0 ≤ m ∧ m ≤ 1000) (hc : -m ≤ c.f0 ∧ c.f0 ≤ m ∧ -m ≤ c.f1 ∧ c.f1 ≤ m) (hd : d ∈ aroundC c) : -(m + 1) ≤ d.f0 ∧ d.f0 ≤ m + 1 ∧ -(m + 1) ≤ d.f1 ∧ d.f1 ≤ m + 1 := by
  simp only [aroundC, List.mem_cons, List.not_mem_nil, or_false] at hd
  have w (n : Int) (h0 : -3000 ≤ n) (h1 : n ≤ 3000) : wrap64 n = n := w64 (by omega) (by omega)
  rw [w _ (by omega) (by omega), w _ (by omega) (by omega), w _ (by omega) (by omega), w _ (by omega) (by omega)] at hd
  rcases hd with rfl | rfl | rfl | rfl <;> (simp only; omega)
theorem poly_l (cs : List Int) : ∀ (q n : Nat) (s : List Cell) (a sd : Int), q + n ≤ 40 → s.length = n → 1 ≤ n → inBox (n : Int) s → Src cs a sd →
    Ex (fun k => spec_l02DrawPoly.l0 k s (q : Int) cs a sd) fun r => 1 ≤ r.1.length ∧ r.1.length ≤ 40 ∧ Src cs r.2.1 r.2.2
  | 0, n, s, a, sd, hq, hl, hn, hb, hS => by
    refine Ex.succ ?_
    simp only [spec_l02DrawPoly.l0]
    refine Ex.neg (by omega) (Ex.bindE (specNormal_ev s (by omega) (by omega)) (Ex.now ?_))
    have := normalL_len s
    exact ⟨by simp only; omega, by simp only; omega, hS⟩
  | q + 1, n, s, a, sd, hq, hl, hn, hb, hS => by
    refine Ex.succ ?_
    simp only [spec_l02DrawPoly.l0]
    refine Ex.pos (by omega) (Ex.bind (nbs_ex s (by omega)) fun r ⟨h1, h2, h3⟩ => ?_)
    have hr : 0 < r.length := nbs_pos (by omega) (fun c hc => by have := hb c hc; omega) h3
    refine Ex.next hS (r.length : Int) (by omega) fun v a' s' hS' hv0 hv1 => ?_
    have hv2 := hv1 (by omega)
    obtain ⟨j, rfl⟩ : ∃ j : Nat, v = (j : Int) := ⟨v.toNat, by omega⟩
    have hj : j < r.length := by omega
    have er : rd_T44 r (j : Int) = r[j] := by
      have : r = r.take j ++ r[j] :: r.drop (j + 1) := by rw [List.getElem_cons_drop, List.take_append_drop]
      have e2 := at_pre this
      rw [List.length_take, Nat.min_eq_left (by omega)] at e2
      exact e2
    have hd : r[j] ∈ r := List.getElem_mem hj
    obtain ⟨c, hc, hdc⟩ := h2 _ hd
    have hbd := around_box (m := (n : Int)) (by omega) (hb c hc) hdc
    simp only [er]
    refine Ex.pos (by omega) (Ex.pos (by omega) (Ex.bindE (specInsert_ev s r[j] (by omega)) ?_))
    have ew : wrap64 (((q + 1 : Nat) : Int) - 1) = (q : Int) := by rw [w64 (by omega) (by omega)]; omega
    rw [ew]
    refine poly_l cs q (n + 1) (insC r[j] s) a' s' (by omega) (by rw [(insC_perm _ s).length_eq, List.length_cons]; omega) (by omega) (fun x hx => ?_) hS'
    rcases insP_mem.1 hx with rfl | hx
    · omega
    · have := hb x hx; omega
theorem poly_ex {cs : List Int} {a s : Int} (h : Src cs a s) (n : Int) (h0 : 1 ≤ n) (h1 : n ≤ 39) : Ex (fun k => spec_l02DrawPoly.f k cs a s n) fun r => 1 ≤ r.1.length ∧ r.1.length ≤ 40 ∧ Src cs r.2.1 r.2.2 := by
  unfold spec_l02DrawPoly.f
  refine Ex.next h n (by omega) fun v a' s' hS hv0 hv1 => ?_
  have := hv1 h0
  obtain ⟨q, rfl⟩ : ∃ q : Nat, v = (q : Int) := ⟨v.toNat, by omega⟩
  exact poly_l cs q 1 [⟨0, 0⟩] a' s' (by omega) rfl (by omega) (fun c hc => by simp at hc; subst hc; simp) hS
theorem draw_l (cs : List Int) : ∀ (q i : Nat) (l : List Cell) (a s : Int), i + q = 42 → l.length = i → Src cs a s → Ex (fun k => spec_l02Draw.l0 k l (i : Int) cs a s) fun r => r.1.length ≤ 100 ∧ Src cs r.2.1 r.2.2
  | q, i, l, a, s, hi, hl, hS => by
    refine Ex.succ ?_
    simp only [spec_l02Draw.l0]
    refine Ex.next hS 2 (by omega) fun v a' s' hS' hv0 hv1 => ?_
    have hv := hv1 (by omega)
    have ew : wrap64 (40 + v) = 40 + v := w64 (by omega) (by omega)
    have ei : wrap64 ((i : Int) + 1) = ((i + 1 : Nat) : Int) := by rw [w64 (by omega) (by omega)]; omega
    simp only [ew, ei]
    match q, hi with
    | 0, hi => exact Ex.neg (by omega) (Ex.now ⟨by simp only; omega, hS'⟩)
    | q + 1, hi =>
      exact Ex.if_ (fun _ => Ex.pos (by omega) (draw_l cs q (i + 1) _ a' s' (by omega) (by simp [hl]) hS')) (fun _ => Ex.now ⟨by simp only; omega, hS'⟩)
theorem insAll_len (l : List Cell) : (insAll [] l).length = l.length := by
  have := (insAll_spec l [] List.Pairwise.nil).1.length_eq
  simpa using this
theorem draw_ex {cs : List Int} {a s : Int} (h : Src cs a s) : Ex (fun k => spec_l02Draw.f k cs a s) fun r => r.1.length ≤ 100 ∧ Src cs r.2.1 r.2.2 := by
  unfold spec_l02Draw.f
  refine Ex.bind (poly_ex h 8 (by omega) (by omega)) fun p ⟨p0, p1, p2⟩ => ?_
  refine Ex.next p2 9 (by omega) fun v1 a1 s1 h1 _ _ => ?_
  refine Ex.next h1 9 (by omega) fun v2 a2 s2 h2 _ _ => ?_
  refine Ex.bindE (specMove_ev p.1 _ _ (by omega)) ?_
  have hml := moveL_len p.1 (wrap64 (v1 - 4)) (wrap64 (v2 - 4))
  generalize moveL p.1 (wrap64 (v1 - 4)) (wrap64 (v2 - 4)) = t at hml ⊢
  refine Ex.next h2 (t.length : Int) (by omega) fun v3 a3 s3 h3 g0 g1 => ?_
  have g2 := g1 (by omega)
  refine Ex.next h3 24 (by omega) fun v4 a4 s4 h4 _ _ => ?_
  simp only
  have ew : wrap64 ((t.length : Int) - 1) = (t.length : Int) - 1 := w64 (by omega) (by omega)
  refine Ex.if_ (fun _ => ?_) (fun _ => ?_)
  · refine Ex.bind0 rfl (Ex.next h4 3 (by omega) fun v5 a5 s5 h5 q0 q1 => ?_)
    have q2 := q1 (by omega)
    have e3 : (([(-100), 100, 101] : List Int).length : Int) = 3 := rfl
    refine Ex.pos q0 (Ex.pos (by rw [e3]; exact q2) (Ex.pos g0 (Ex.pos g2 (Ex.bindE (specSortI_ev _ (by rw [List.length_set]; omega)) (Ex.now ?_)))))
    exact ⟨by simp only; rw [insAll_len, List.length_set]; omega, h5⟩
  refine Ex.if_ (fun _ => ?_) (fun _ => ?_)
  · exact Ex.pos g0 (Ex.pos g2 (Ex.pos (by omega) (Ex.now ⟨by simp; omega, h4⟩)))
  refine Ex.if_ (fun _ => Ex.now ⟨by simp, h4⟩) (fun _ => ?_)
  refine Ex.if_ (fun _ => draw_l cs 42 0 [] a4 s4 (by omega) rfl h4) (fun _ => ?_)
  rw [ew]
  refine Ex.if_ (fun _ => ?_) (fun _ => ?_)
  · exact Ex.pos (by omega) (Ex.pos (by omega) (Ex.pos (by omega) (Ex.pos (by omega) (Ex.now ⟨by simp; omega, h4⟩))))
  refine Ex.if_ (fun _ => ?_) (fun _ => Ex.now ⟨by simp only; omega, h4⟩)
  exact Ex.pos (by omega) (Ex.pos (by omega) (Ex.pos (by omega) (Ex.pos (by omega) (Ex.now ⟨by simp; omega, h4⟩))))
theorem d06_l1 (cs : List Int) (W H y : Int) (hW : 0 ≤ W ∧ W ≤ 10) (hH : 0 ≤ H ∧ H ≤ 10) {Q : List Cell × Int × Int → Prop} : ∀ (q : Nat) (x : Int) (l : List Cell) (a s : Int), x + (q : Int) = W → 0 ≤ x → l.length + q ≤ 1000 → Src cs a s →
    (∀ (l' : List Cell) (a' s' : Int), l'.length ≤ l.length + q → Src cs a' s' → Ex (fun k => spec_l06Draw.l0 k W H l' (wrap64 (y + 1)) cs a' s') Q) → Ex (fun k => spec_l06Draw.l1 k W H l y x cs a s) Q
  | 0, x, l, a, s, hx, h0, hl, hS, hc => by
    refine Ex.succ ?_
    simp only [spec_l06Draw.l1]
    exact Ex.neg (by omega) (hc l a s (by omega) hS)
  | q + 1, x, l, a, s, hx, h0, hl, hS, hc => by
    refine Ex.succ ?_
    have ew : wrap64 (x + 1) = x + 1 := w64 (by omega) (by omega)
    have nx (l2 : List Cell) (h2 : l2.length ≤ l.length + 1) (a' s' : Int) (hS' : Src cs a' s') : Ex (fun k => spec_l06Draw.l1 k W H l2 y (x + 1) cs a' s') Q :=
      d06_l1 cs W H y hW hH q (x + 1) l2 a' s' (by omega) (by omega) (by omega) hS' (fun l' a2 s2 h4 h5 => hc l' a2 s2 (by omega) h5)
    have hj (b : Bool) : Ex (fun k => spec_l06Draw.j2 k W H l y x b cs a s) Q := by
      refine Ex.succ ?_
      simp only [spec_l06Draw.j2, ew]
      refine Ex.if_ (fun _ => ?_) (fun _ => ?_)
      · refine Ex.next hS 12 (by omega) fun v a' s' hS' _ _ => ?_
        exact Ex.if_ (fun _ => Ex.pos (by omega) (nx _ (by simp) a' s' hS')) (fun _ => nx l (by omega) a' s' hS')
      · refine Ex.next hS 3 (by omega) fun v a' s' hS' _ _ => ?_
        exact Ex.if_ (fun _ => Ex.pos (by omega) (nx _ (by simp) a' s' hS')) (fun _ => nx l (by omega) a' s' hS')
    simp only [spec_l06Draw.l1]
    exact Ex.pos (by omega) (Ex.if_ (fun _ => hj true) (fun _ => Ex.if_ (fun _ => hj true) (fun _ => Ex.if_ (fun _ => hj true) (fun _ => hj _))))
theorem d06_l0 (cs : List Int) (W H : Int) (hW : 0 ≤ W ∧ W ≤ 10) (hH : 0 ≤ H ∧ H ≤ 10) : ∀ (q : Nat) (y : Int) (l : List Cell) (a s : Int), y + (q : Int) = H → 0 ≤ y → (l.length : Int) ≤ 10 * y → Src cs a s →
    Ex (fun k => spec_l06Draw.l0 k W H l y cs a s) fun r => r.1.length ≤ 100 ∧ Src cs r.2.1 r.2.2
  | 0, y, l, a, s, hy, h0, hl, hS => by
    refine Ex.succ ?_
    simp only [spec_l06Draw.l0]
    exact Ex.neg (by omega) (Ex.now ⟨by simp only; omega, hS⟩)
  | q + 1, y, l, a, s, hy, h0, hl, hS => by
    refine Ex.succ ?_
    simp only [spec_l06Draw.l0]
    refine Ex.pos (by omega) (d06_l1 cs W H y hW hH W.toNat 0 l a s (by omega) (by omega) (by omega) hS fun l' a' s' h1 h2 => ?_)
    rw [w64 (n := y + 1) (by omega) (by omega)]
    exact d06_l0 cs W H hW hH q (y + 1) l' a' s' (by omega) (by omega) (by omega) h2
theorem draw06_ex {cs : List Int} {a s : Int} (h : Src cs a s) : Ex (fun k => spec_l06Draw.f k cs a s) fun r => r.1.length ≤ 100 ∧ Src cs r.2.1 r.2.2 := by
  unfold spec_l06Draw.f
  refine Ex.next h 3 (by omega) fun v a1 s1 h1 _ _ => ?_
  refine Ex.if_ (fun _ => Ex.bind (draw_ex h1) fun r hr => Ex.now hr) (fun _ => ?_)
  refine Ex.next h1 4 (by omega) fun w a2 s2 h2 w0 w1 => Ex.next h2 3 (by omega) fun u a3 s3 h3 u0 u1 => ?_
  have := w1 (by omega)
  have := u1 (by omega)
  show Ex (fun k => spec_l06Draw.l0 k (wrap64 (3 + w)) (wrap64 (3 + u)) [] 0 cs a3 s3) _
  rw [w64 (n := 3 + w) (by omega) (by omega), w64 (n := 3 + u) (by omega) (by omega)]
  exact d06_l0 cs (3 + w) (3 + u) (by omega) (by omega) (3 + u).toNat 0 [] a3 s3 (by omega) (by omega) (by simp) h3
end Go.Proofs.Ytaecheolnpofeaa.L
end
section
namespace Go.Proofs.Ytaecheolnpofeaa.L
open Go.RowKit Go.Proofs.YtaecheolnpofeaaW.PrintWords Go.Proofs.YtaecheolnpofeaaW.PrintLast Go.Proofs.YtaecheolnpofeaaW.PrintMore Go.Proofs.Ytaecheolnpofeaa.F
set_option linter.unusedVariables false
theorem likeCC_ev (a : List Cell) (hs : small a) : Ev (fun k => laws_likeCells.f k a a) true := by
  unfold laws_likeCells.f
  refine Ev.pos rfl ?_
  refine loop_list a (fun k i (_ : Unit) => laws_likeCells.l0 k a a i) (fun _ _ _ => true) (fun _ _ => True) ?_ ?_ () trivial
  · intro _ _
    simp only [laws_likeCells.l0, len_lt, if_false]
    exact Ev.now _
  · intro pre d suf _ hx _ ih
    simp only [laws_likeCells.l0, pre_lt hx, pre_0, if_true, at_pre hx, pre_w hx hs]
    exact Ev.neg (by simp) (ih () trivial)
end Go.Proofs.Ytaecheolnpofeaa.L
end
section
namespace Go.Proofs.Ytaecheolnpofeaa.L
open Go.RowKit Go.Proofs.YtaecheolnpofeaaW.PrintWords Go.Proofs.YtaecheolnpofeaaW.PrintLast Go.Proofs.YtaecheolnpofeaaW.PrintMore Go.Proofs.Ytaecheolnpofeaa.F
set_option linter.unusedVariables false
set_option linter.unusedSimpArgs false
def holesR (l : List Cell) : List Int × Int := if codeF l = 0 then ((holesL l).map (fun s => (s.length : Int)), 0) else ([], codeF l)
theorem holesL_len {l : List Cell} (h : shapeB l = true) : (holesL l).length ≤ 1000000 := by
  obtain ⟨f0, f1, f2, f3⟩ := freeL_ok h
  unfold holesL holesP partsBut
  have := rootsI_len (partsR aroundC (freeL l)) (freeL l).length
  rw [List.length_map, List.length_drop]
  omega
theorem holesR_len (l : List Cell) : (holesR l).1.length ≤ 1000000 := by
  unfold holesR
  by_cases h : codeF l = 0
  · rw [if_pos h]
    have := holesL_len (codeF_shape h).1
    simpa using this
  · rw [if_neg h]
    simp
theorem rdL_pre {pre suf y : List (List Cell)} {c : List Cell} (hx : y = pre ++ c :: suf) : rd_L2 y (pre.length : Int) = c := by
  subst hx
  exact getD_at pre suf c []
theorem specHoles_l (y : List (List Cell)) (hy : y.length ≤ 1000000) : Ev (fun k => spec_HolesOf.l0 k y [] 0) (y.map (fun s => (s.length : Int)), 0) := by
  have hs : small y := by unfold small; omega
  have := loop_list y (fun k i (s : List Int) => spec_HolesOf.l0 k y s i) (fun _ _ _ => (y.map (fun s => (s.length : Int)), 0)) (fun pre s => s = pre.map fun s => (s.length : Int)) ?_ ?_ [] rfl
  · exact this
  · rintro s rfl
    simp only [spec_HolesOf.l0, len_lt, if_false]
    exact Ev.now _
  · rintro pre c suf s hx rfl ih
    have hp := pre_len hx
    simp only [spec_HolesOf.l0, pre_lt hx, pre_0, if_true, pre_w hx hs, rdL_pre hx]
    exact Ev.pos (by rw [List.length_map]; omega) (ih _ (by simp))
theorem implHoles_l (y : List (List Cell)) (hy : y.length ≤ 1000000) : Ev (fun k => impl_HolesOf.l0 k [] y (y.length : Int) 0) (y.map (fun s => (s.length : Int)), 0) := by
  have hs : small y := by unfold small; omega
  have := loop_list y (fun k i (s : List Int) => impl_HolesOf.l0 k s y (y.length : Int) i) (fun _ _ _ => (y.map (fun s => (s.length : Int)), 0)) (fun pre s => s = pre.map fun s => (s.length : Int)) ?_ ?_ [] rfl
  · exact this
  · rintro s rfl
    simp only [impl_HolesOf.l0, len_lt, if_false]
    exact Ev.now _
  · rintro pre c suf s hx rfl ih
    have hp := pre_len hx
    simp only [impl_HolesOf.l0, pre_lt hx, pre_0, if_true, pre_w hx hs, rdL_pre hx]
    exact Ev.pos (by rw [List.length_map]; omega) (ih _ (by simp))
theorem specHolesOf_ev (l : List Cell) (hl : l.length ≤ 1048576) : Ev (fun k => spec_HolesOf.f k l) (holesR l) := by
  unfold spec_HolesOf.f holesR
  refine Ev.bind (specCode_ev l hl) (Ev.if_ (fun h => ?_) (fun _ => Ev.now _))
  have hh := (codeF_shape h).1
  exact Ev.bind (specHoles_ev hh) (specHoles_l _ (holesL_len hh))
theorem implHolesOf_ev (l : List Cell) (hl : l.length ≤ 1048576) : Ev (fun k => impl_HolesOf.f k l) (holesR l) := by
  unfold impl_HolesOf.f holesR
  refine Ev.bind (implCode_ev l hl) (Ev.if_ (fun h => ?_) (fun _ => Ev.now _))
  have hh := (codeF_shape h).1
  exact Ev.bind (implHoles_ev hh) (implHoles_l _ (holesL_len hh))
end Go.Proofs.Ytaecheolnpofeaa.L
end
section
namespace Go.Proofs.Ytaecheolnpofeaa.L
open Go.RowKit Go.Proofs.YtaecheolnpofeaaW.PrintWords Go.Proofs.YtaecheolnpofeaaW.PrintLast Go.Proofs.YtaecheolnpofeaaW.PrintMore Go.Proofs.Ytaecheolnpofeaa.F
set_option linter.unusedVariables false
set_option linter.unusedSimpArgs false
theorem rdF_pre {pre suf y : List (List Cell)} {c : List Cell} (hx : y = pre ++ c :: suf) : rd_L2 y (pre.length : Int) = c := by
  subst hx
  exact getD_at pre suf c []
theorem holesY_len {l : List Cell} (h : shapeB l = true) : (holesL l).length ≤ 1000000 := by
  obtain ⟨f0, f1, f2, f3⟩ := freeL_ok h
  unfold holesL holesP partsBut
  have := rootsI_len (partsR aroundC (freeL l)) (freeL l).length
  rw [List.length_map, List.length_drop]
  omega
theorem flat_len {y pre suf : List (List Cell)} {c : List Cell} (hx : y = pre ++ c :: suf) : pre.flatten.length + c.length ≤ y.flatten.length := by
  subst hx
  simp only [List.flatten_append, List.flatten_cons, List.length_append]
  omega
def fillF (x : List Cell) : List Cell × Int := if x.length ≤ 40 then (sortC x, 0) else ([], 3)
theorem specFill_l (l : List Cell) (y : List (List Cell)) (hy : y.length ≤ 1000000) (hb : (l ++ y.flatten).length ≤ 1000040) : Ev (fun k => spec_FillHoles.l0 k l y 0) (fillF (l ++ y.flatten)) := by
  have hs : small y := by unfold small; omega
  have := loop_list y (fun k i (s : List Cell) => spec_FillHoles.l0 k s y i) (fun _ _ _ => fillF (l ++ y.flatten)) (fun pre s => s = l ++ pre.flatten) ?_ ?_ l (by simp)
  · exact this
  · rintro s rfl
    simp only [spec_FillHoles.l0, len_lt, if_false]
    unfold fillF
    by_cases e : (l ++ y.flatten).length ≤ 40
    · rw [if_pos e]
      exact Ev.neg (by omega) (Ev.bind (specSort_ev _ (by omega)) (Ev.now _))
    · rw [if_neg e]
      exact Ev.pos (by omega) (Ev.now _)
  · rintro pre c suf s hx rfl ih
    have hl := flat_len hx
    rw [List.length_append] at hb
    simp only [spec_FillHoles.l0, pre_lt hx, pre_0, if_true, pre_w hx hs, rdF_pre hx]
    exact Ev.pos (by rw [List.length_append]; omega) (ih _ (by simp))
theorem implFill_l (l : List Cell) (y : List (List Cell)) (h0 : 0 < l.length) (hy : y.length ≤ 1000000) (hb : (l ++ y.flatten).length ≤ 1000040) (hsh : shapeB (sortC (l ++ y.flatten)) = decide ((l ++ y.flatten).length ≤ 40)) : Ev (fun k => impl_FillHoles.l0 k l y (y.length : Int) 0) (fillF (l ++ y.flatten)) := by
  have hs : small y := by unfold small; omega
  have := loop_list y (fun k i (s : List Cell) => impl_FillHoles.l0 k s y (y.length : Int) i) (fun _ _ _ => fillF (l ++ y.flatten)) (fun pre s => s = l ++ pre.flatten) ?_ ?_ l (by simp)
  · exact this
  · rintro s rfl
    simp only [impl_FillHoles.l0, len_lt, if_false]
    have e2 : impl_sorted.f (l ++ y.flatten) = some (sortC (l ++ y.flatten)) := implSorted_eq _ (by rw [List.length_append]; omega) (by omega)
    refine Ev.bind0 e2 (Ev.bind (implIsShape_ev _ (by unfold small; rw [sortC_len]; omega)) ?_)
    rw [hsh]
    unfold fillF
    by_cases e : (l ++ y.flatten).length ≤ 40
    · rw [if_pos e]
      exact Ev.pos (decide_eq_true e) (Ev.now _)
    · rw [if_neg e]
      exact Ev.neg (by simpa using e) (Ev.now _)
  · rintro pre c suf s hx rfl ih
    have hl := flat_len hx
    rw [List.length_append] at hb
    simp only [impl_FillHoles.l0, pre_lt hx, pre_0, if_true, pre_w hx hs, rdF_pre hx]
    exact Ev.pos (by rw [List.length_append]; omega) (ih _ (by simp))
theorem specFillHoles_ev (l : List Cell) (hl : l.length ≤ 1048576) : Ev (fun k => spec_FillHoles.f k l) (fillR l) := by
  unfold spec_FillHoles.f fillR
  refine Ev.bind (specCode_ev l hl) (Ev.if_ (fun h => ?_) (fun _ => Ev.now _))
  have hh := (codeF_shape h).1
  obtain ⟨h1, h2, h3, h4⟩ := fillL_ok hh
  refine Ev.bind0 rfl (Ev.pos (by rw [List.length_nil]; omega) (Ev.bind (specHoles_ev hh) ?_))
  exact specFill_l l _ (holesY_len hh) h4
theorem implFillHoles_ev (l : List Cell) (hl : l.length ≤ 1048576) : Ev (fun k => impl_FillHoles.f k l) (fillR l) := by
  unfold impl_FillHoles.f fillR
  refine Ev.bind (implCode_ev l hl) (Ev.if_ (fun h => ?_) (fun _ => Ev.now _))
  have hh := (codeF_shape h).1
  obtain ⟨h1, h2, h3, h4⟩ := fillL_ok hh
  have h0 : 0 < l.length := List.length_pos_iff.2 (shape_ne hh)
  have e1 : impl_Cell_48.f l = some l := by
    unfold impl_Cell_48.f
    rw [if_pos (by omega)]
  refine Ev.bind0 e1 (Ev.bind (implHoles_ev hh) ?_)
  exact implFill_l l _ h0 (holesY_len hh) h4 (fill_shape hh)
end Go.Proofs.Ytaecheolnpofeaa.L
end
section
namespace Go.Proofs.Ytaecheolnpofeaa.L
open Go.RowKit Go.Proofs.YtaecheolnpofeaaW.PrintWords Go.Proofs.YtaecheolnpofeaaW.PrintLast Go.Proofs.YtaecheolnpofeaaW.PrintMore Go.Proofs.Ytaecheolnpofeaa.F
set_option linter.unusedVariables false
set_option linter.unusedSimpArgs false
theorem likeIH_ev (a : List Int) (hs : small a) : Ev (fun k => laws_likeInts.f k a a) true := by
  unfold laws_likeInts.f
  refine Ev.pos rfl ?_
  refine loop_list a (fun k i (_ : Unit) => laws_likeInts.l0 k a a i) (fun _ _ _ => true) (fun _ _ => True) ?_ ?_ () trivial
  · intro _ _
    simp only [laws_likeInts.l0, len_lt, if_false]
    exact Ev.now _
  · intro pre d suf _ hx _ ih
    simp only [laws_likeInts.l0, pre_lt hx, pre_0, if_true, rd_pre hx, pre_w hx hs]
    exact ih () trivial
theorem sumH_ev (l : List Int) (hp : ∀ x ∈ l, 0 ≤ x) (hs : l.sum ≤ 1000000000000) (hl : small l) : Ev (fun k => laws_sum.f k l) l.sum := by
  unfold laws_sum.f
  have key : ∀ r : List Int, (∀ x ∈ r, 0 ≤ x) → 0 ≤ r.sum := fun r => by
    induction r with
    | nil => intro _; simp
    | cons a r ih => intro h; have := ih fun x hx => h x (List.mem_cons_of_mem _ hx); have := h a List.mem_cons_self; simp; omega
  refine loop_list l (fun k i (s : Int) => laws_sum.l0 k l s i) (fun _ _ _ => l.sum) (fun pre s => s = pre.sum) ?_ ?_ 0 rfl
  · rintro s rfl
    simp only [laws_sum.l0, len_lt, if_false]
    exact Ev.now _
  · rintro pre c suf s hx rfl ih
    have e : l.sum = pre.sum + (c + suf.sum) := by rw [hx]; simp
    have h1 := key pre fun x hm => hp x (by rw [hx]; simp [hm])
    have h2 := key suf fun x hm => hp x (by rw [hx]; simp [hm])
    have h3 := hp c (by rw [hx]; simp)
    have hat : rd l (pre.length : Int) = c := rd_pre hx
    simp only [laws_sum.l0, pre_lt hx, pre_0, if_true, hat, pre_w hx hl]
    refine ih _ ?_
    rw [w64 (by omega) (by omega)]; simp
theorem normalDraw_ex (cs : List Int) (hl : cs.length ≤ 1000000000000000000) (hb : ∀ x ∈ cs, 0 ≤ x ∧ x ≤ 255) : Ex (fun k => spec_DrawNormalForm.f k cs) fun r => r.length ≤ 1000 := by
  unfold spec_DrawNormalForm.f
  refine Ex.bind (from_ex cs hl hb) fun ⟨c1, a1, s1⟩ ⟨e1, e2, h1⟩ => ?_
  simp only at e1 e2 h1
  subst e1 e2
  refine Ex.bind (draw_ex h1) fun r hr => ?_
  refine Ex.next hr.2 24 (by omega) fun v a' s' hS' _ _ => ?_
  refine Ex.if_ (fun _ => ?_) (fun _ => Ex.now (by have := hr.1; omega))
  exact Ex.next hS' 2 (by omega) fun v2 a2 s2 hS2 _ _ => Ex.now (by simp)
theorem holesDraw_ex (cs : List Int) (hl : cs.length ≤ 1000000000000000000) (hb : ∀ x ∈ cs, 0 ≤ x ∧ x ≤ 255) : Ex (fun k => spec_DrawHolesOf.f k cs) fun r => r.length ≤ 1000 := by
  unfold spec_DrawHolesOf.f
  refine Ex.bind (from_ex cs hl hb) fun ⟨c1, a1, s1⟩ ⟨e1, e2, h1⟩ => ?_
  simp only at e1 e2 h1
  subst e1 e2
  refine Ex.next h1 20 (by omega) fun v a' s' hS' _ _ => ?_
  refine Ex.if_ (fun _ => Ex.bind (normalDraw_ex _ hl hb) fun r hr => Ex.now hr) (fun _ => Ex.bind (draw06_ex hS') fun r hr => Ex.now (by have := hr.1; omega))
theorem frame_l1 (n y : Int) (hn : 0 ≤ n ∧ n ≤ 10) {Q : List Cell → Prop} : ∀ (q : Nat) (x : Int) (l : List Cell), x + (q : Int) = n → 0 ≤ x → l.length + q ≤ 1000 →
    (∀ l' : List Cell, l'.length ≤ l.length + q → Ex (fun k => spec_DrawFillHoles.l0 k l' n (wrap64 (y + 1))) Q) → Ex (fun k => spec_DrawFillHoles.l1 k l n y x) Q
  | 0, x, l, hx, h0, hl, hc => by
    refine Ex.succ ?_
    simp only [spec_DrawFillHoles.l1]
    exact Ex.neg (by omega) (hc l (by omega))
  | q + 1, x, l, hx, h0, hl, hc => by
    refine Ex.succ ?_
    have ew : wrap64 (x + 1) = x + 1 := w64 (by omega) (by omega)
    have nx (l2 : List Cell) (h2 : l2.length ≤ l.length + 1) : Ex (fun k => spec_DrawFillHoles.l1 k l2 n y (x + 1)) Q :=
      frame_l1 n y hn q (x + 1) l2 (by omega) (by omega) (by omega) (fun l' h4 => hc l' (by omega))
    simp only [spec_DrawFillHoles.l1, ew]
    refine Ex.pos (by omega) (Ex.if_ (fun _ => Ex.pos (by omega) (nx _ (by simp))) (fun _ => Ex.if_ (fun _ => Ex.pos (by omega) (nx _ (by simp))) (fun _ => Ex.if_ (fun _ => Ex.pos (by omega) (nx _ (by simp))) (fun _ => Ex.if_ (fun _ => Ex.pos (by omega) (nx _ (by simp))) (fun _ => nx l (by omega))))))
theorem frame_l0 (n : Int) (hn : 0 ≤ n ∧ n ≤ 10) : ∀ (q : Nat) (y : Int) (l : List Cell), y + (q : Int) = n → 0 ≤ y → (l.length : Int) ≤ 10 * y → Ex (fun k => spec_DrawFillHoles.l0 k l n y) fun r => r.length ≤ 1000
  | 0, y, l, hy, h0, hl => by
    refine Ex.succ ?_
    simp only [spec_DrawFillHoles.l0]
    exact Ex.neg (by omega) (Ex.now (by omega))
  | q + 1, y, l, hy, h0, hl => by
    refine Ex.succ ?_
    simp only [spec_DrawFillHoles.l0]
    refine Ex.pos (by omega) (frame_l1 n y hn n.toNat 0 l (by omega) (by omega) (by omega) fun l' h1 => ?_)
    rw [w64 (n := y + 1) (by omega) (by omega)]
    exact frame_l0 n hn q (y + 1) l' (by omega) (by omega) (by omega)
theorem fillDraw_ex (cs : List Int) (hl : cs.length ≤ 1000000000000000000) (hb : ∀ x ∈ cs, 0 ≤ x ∧ x ≤ 255) : Ex (fun k => spec_DrawFillHoles.f k cs) fun r => r.length ≤ 1000 := by
  unfold spec_DrawFillHoles.f
  refine Ex.bind (from_ex cs hl hb) fun ⟨c1, a1, s1⟩ ⟨e1, e2, h1⟩ => ?_
  simp only at e1 e2 h1
  subst e1 e2
  refine Ex.next h1 20 (by omega) fun v a' s' hS' _ _ => ?_
  refine Ex.if_ (fun _ => ?_) (fun _ => Ex.bind (holesDraw_ex _ hl hb) fun r hr => Ex.now hr)
  refine Ex.next hS' 3 (by omega) fun w a2 s2 h2 w0 w1 => ?_
  have := w1 (by omega)
  show Ex (fun k => spec_DrawFillHoles.l0 k [] (wrap64 (7 + w)) 0) _
  rw [w64 (n := 7 + w) (by omega) (by omega)]
  exact frame_l0 (7 + w) (by omega) (7 + w).toNat 0 [] (by omega) (by omega) (by simp)
end Go.Proofs.Ytaecheolnpofeaa.L
namespace Go.Proofs.Ytaecheolnpofeaa.Pure
open Go.RowKit Go.Proofs.YtaecheolnpofeaaW.PrintWords Go.Proofs.Ytaecheolnpofeaa.F Go.Proofs.Ytaecheolnpofeaa.L
set_option linter.unusedVariables false
theorem FnHoles (l0 : List Int) (hv0 : l0.length ≤ 9223372036854775807 ∧ ∀ x ∈ l0, (Lit.int .u8 x).wf = true) : ∃ k, laws_FnHoles.f k l0 = some true := by
  refine Ev.rounds ?_
  obtain ⟨hm, hv⟩ := hv0
  have hb : ∀ x ∈ l0, 0 ≤ x ∧ x ≤ 255 := fun x hx => by
    have := hv x hx
    have m0 : IntKind.u8.min = 0 := by decide
    have m1 : IntKind.u8.max = 255 := by decide
    simp [Lit.wf, m0, m1] at this
    omega
  unfold laws_FnHoles.f
  refine Ev.bind0 rfl ?_
  by_cases hbig : (l0.length : Int) > 4096
  · exact Ev.pos (by simpa using hbig) (Ev.now _)
  refine Ev.neg (by simpa using hbig) ?_
  obtain ⟨l, e1, hl⟩ := fillDraw_ex l0 (by omega) hb
  have hl' : l.length ≤ 1048576 := by omega
  have hbF := fillR_len l
  have hbH := holesR_len l
  refine Ev.bind e1 (Ev.bind (implFillHoles_ev l hl') (Ev.bind (specFillHoles_ev l hl') (Ev.bind (implHolesOf_ev l hl') (Ev.bind (specHolesOf_ev l hl') (Ev.pos rfl (Ev.bind (likeCC_ev _ (by unfold small; omega)) (Ev.pos rfl (Ev.pos rfl (Ev.bind (likeIH_ev _ (by unfold small; omega)) ?_)))))))))
  refine Ev.step (fun k => laws_FnHoles.j0.eq_2 _ _ _ _ _ _) (Ev.neg (by simp) ?_)
  by_cases hc : codeF l = 0
  · by_cases hn : (fillL l).length ≤ 40
    · have hF : fillR l = (fillS l, 0) := by unfold fillR; rw [if_pos hc, if_pos hn]; rfl
      have hsh := (codeF_shape hc).1
      have hH : holesR l = ((holesL l).map (fun s => (s.length : Int)), 0) := by unfold holesR; rw [if_pos hc]
      have hHF : holesR (fillS l) = ([], 0) := by
        unfold holesR
        rw [if_pos (fillS_code hc hn), fillS_none hsh hn]
        rfl
      have hlen : (fillS l).length = (fillL l).length := sortC_len _
      have hfl : (fillL l).length = l.length + (holesL l).flatten.length := by unfold fillL; rw [List.length_append]
      rw [hF, hH]
      refine Ev.pos rfl (Ev.bind (implHolesOf_ev (fillS l) (by omega)) ?_)
      rw [hHF]
      refine Ev.pos rfl (Ev.pos rfl (Ev.bind (sumH_ev _ (fun x hx => by obtain ⟨s, _, rfl⟩ := List.mem_map.1 hx; omega) (by rw [sum_flat]; omega) (by unfold small; rw [List.length_map]; have := holesL_len hsh; omega)) (Ev.of_eq (Ev.now _) ?_)))
      rw [sum_flat, w64 (by omega) (by omega), beq_iff_eq]
      simp only
      omega
    · have hF : fillR l = ([], 3) := by unfold fillR; rw [if_pos hc, if_neg hn]
      rw [hF]
      exact Ev.neg (by simp) (Ev.now _)
  · have hF : fillR l = ([], codeF l) := by unfold fillR; rw [if_neg hc]
    rw [hF]
    exact Ev.neg (by simpa using hc) (Ev.now _)
end Go.Proofs.Ytaecheolnpofeaa.Pure
end
