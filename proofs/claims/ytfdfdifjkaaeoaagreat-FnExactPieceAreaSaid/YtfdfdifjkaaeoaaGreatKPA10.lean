/- The row of FnExactPieceArea, with what it needs: text 11 of 12. -/
import Derived.Test.YtfdfdifjkaaeoaaGreatKPA9
set_option maxHeartbeats 8000000
set_option maxRecDepth 100000
section
namespace Go.Proofs.YtfdfdifjkaaeoaaGreat.L
open Go.RowKit Go.Proofs.YtfdfdifjkaaeoaaGreatW.PrintWords Go.Proofs.YtfdfdifjkaaeoaaGreatW.PrintLast Go.Proofs.YtfdfdifjkaaeoaaGreatW.PrintMore Go.Proofs.YtfdfdifjkaaeoaaGreat.F
set_option linter.unusedVariables false
set_option linter.unusedSimpArgs false
theorem pa_l2 (l : List Cell) (hl : l.length ≤ 1048576) (hn : l.Nodup) (hw : l.all wfC = true) (i : Int) (hi : 0 ≤ i) (len_ n_ : Int) {r : List Int} : ∀ (n : Nat) (o p q : List Int), Fine l o q → negs o + (p ++ q).length ≤ l.length → negs o + q.length ≤ n →
    Ev (fun k => impl_parts__impl_around.l1 k l (bfs aroundC l i n o q) len_ (wrap64 (n_ + 1))) r → Ev (fun k => impl_parts__impl_around.l2 k l o i (p ++ q) (p.length : Int) len_ n_) r := by
  intro n
  induction n with
  | zero =>
    intro o p q hf hb hm hc
    obtain rfl : q = [] := List.length_eq_zero_iff.1 (by omega)
    refine Ev.succ ?_
    simp only [impl_parts__impl_around.l2, List.append_nil, len_lt, if_false]
    exact hc
  | succ n ih =>
    intro o p q hf hb hm hc
    refine Ev.succ ?_
    cases q with
    | nil =>
      simp only [impl_parts__impl_around.l2, List.append_nil, len_lt, if_false]
      exact hc
    | cons c q =>
      have hr := hf.rng c List.mem_cons_self
      have hlen : (p ++ c :: q).length = p.length + (q.length + 1) := by simp
      have e1 : rd (p ++ c :: q) (p.length : Int) = c := by unfold rd; exact getD_at p q c _
      simp only [impl_parts__impl_around.l2, e1]
      refine Ev.pos (by rw [hlen]; omega) (Ev.pos (by omega) (Ev.pos hr.1 (Ev.pos hr.2 ?_)))
      simp only [implAround_eq, Option.bind_some]
      have hf' : Fine l o q := ⟨hf.len, fun j hj => hf.rng j (List.mem_cons_of_mem _ hj)⟩
      have hwc : wfC (rd_T58 l c) = true := by
        refine List.all_eq_true.1 hw _ ?_
        unfold rd_T58
        rw [List.getD_eq_getElem?_getD, List.getElem?_eq_getElem (show c.toNat < l.length by omega)]
        exact List.getElem_mem _
      obtain ⟨h1, h2, h3, _⟩ := visit_fine hi (aroundC (rd_T58 l c)) (s := (o, q)) hf'
      have ea : p ++ c :: q = (p ++ [c]) ++ q := by simp
      have ew : wrap64 ((p.length : Int) + 1) = ((p ++ [c]).length : Int) := by
        rw [w64 (by omega) (by omega)]; simp
      rw [ea] at hb ⊢
      refine pa_l3 l hl hn i hi (aroundC (rd_T58 l c)) (aroundC_len _) (aroundC_wf hwc) o (p ++ [c]) q hf' hb _ _ _ ?_
      rw [ew]
      refine ih _ _ _ h1 ?_ ?_ hc
      · simp only [List.length_append, List.length_singleton] at hb ⊢
        simp only at h2 h3
        omega
      · simp only [List.length_cons] at hm
        simp only at h2
        omega
theorem pa_ev (l : List Cell) (hl : l.length ≤ 1048576) (hn : l.Nodup) (hw : l.all wfC = true) : Ev (fun k => impl_parts__impl_around.f k l) (partsR aroundC l) := by
  have hs : small l := by unfold small; omega
  unfold impl_parts__impl_around.f
  refine Ev.pos hw (Ev.pos (by omega) (Ev.pos (by omega) ?_))
  have hz := loop_list l (fun k i (s : List Int) => impl_parts__impl_around.l0 k l s l (l.length : Int) i) (fun _ _ _ => partsR aroundC l) (fun pre s => s = List.replicate pre.length (-1) ++ List.replicate (l.length - pre.length) 0) ?_ ?_ (List.replicate (l.length : Int).toNat 0) (by simp)
  · exact hz
  · rintro s rfl
    simp only [impl_parts__impl_around.l0, len_lt, if_false, Nat.sub_self, List.replicate_zero, List.append_nil]
    have := loop_list l (fun k i (s : List Int) => impl_parts__impl_around.l1 k l s (l.length : Int) i) (fun pre suf s => partsF aroundC l (pre.length : Int) suf s) (fun pre s => s.length = l.length ∧ ∀ j : Nat, j < pre.length → 0 ≤ rd s (j : Int)) ?_ ?_ (List.replicate l.length (-1)) ⟨by simp, fun j hj => by simp at hj⟩
    · exact this
    · rintro s _
      simp only [impl_parts__impl_around.l1, len_lt, if_false]
      exact Ev.now _
    · rintro pre c suf s hx ⟨h1, h2⟩ ih
      have hp := pre_len hx
      obtain ⟨h3, h4⟩ := step_next (nb := aroundC) (l := l) (o := s) (i := pre.length) h1 hp h2
      have hlt : ((pre.length : Int) < (s.length : Int)) = True := by rw [h1]; exact pre_lt hx
      simp only [impl_parts__impl_around.l1, pre_lt hx, pre_0, if_true, hlt, pre_w hx hs, Int.toNat_natCast]
      have hih := ih _ ⟨h3, by simpa using h4⟩
      unfold partsF
      rw [Int.toNat_natCast]
      have ee : ((pre ++ [c]).length : Int) = (pre.length : Int) + 1 := by simp
      rw [ee] at hih
      by_cases hg : rd s (pre.length : Int) ≥ 0
      · rw [if_pos hg] at hih ⊢
        exact Ev.pos hg hih
      · rw [if_neg hg] at hih ⊢
        refine Ev.neg hg ?_
        obtain ⟨h5, h6⟩ := step_fine h1 hp hg
        have e0 : ([(pre.length : Int)] : List Int) = [] ++ [(pre.length : Int)] := rfl
        have := pa_l2 l hl hn hw (pre.length : Int) (by omega) (l.length : Int) (pre.length : Int) (r := partsF aroundC l ((pre.length : Int) + 1) suf (bfs aroundC l (pre.length : Int) l.length (s.set pre.length (pre.length : Int)) [(pre.length : Int)])) l.length (s.set pre.length (pre.length : Int)) [] [(pre.length : Int)] h5 (by simpa using h6) (by simpa using h6) (by
          rw [pre_w hx hs]; exact hih)
        exact this
  · rintro pre c suf s hx rfl ih
    have hp := pre_len hx
    have hlt : ((pre.length : Int) < ((List.replicate pre.length (-1 : Int) ++ List.replicate (l.length - pre.length) 0).length : Int)) = True := by simp; omega
    simp only [impl_parts__impl_around.l0, pre_lt hx, pre_0, if_true, hlt, pre_w hx hs, Int.toNat_natCast]
    refine ih _ ?_
    have e : l.length - pre.length = (l.length - (pre.length + 1)) + 1 := by omega
    simp only [List.length_append, List.length_singleton]
    rw [e, List.replicate_succ, List.set_append_right _ _ (by simp)]
    simp [List.replicate_succ', List.append_assoc]
theorem pa_conn (l : List Cell) (hl : l.length ≤ 1048576) (h0 : l ≠ []) (hn : l.Nodup) (hw : l.all wfC = true) : Ev (fun k => impl_connected__impl_around.f k l) (oneB (partsR aroundC l)) := by
  unfold impl_connected__impl_around.f
  have hln := partsR_len aroundC l
  have hp := partsR_pos aroundC l
  have hpos : 0 < (partsR aroundC l).length := by rw [hln]; exact List.length_pos_iff.2 h0
  refine Ev.bind (pa_ev l hl hn hw) (Ev.bind (max_ev _ (by unfold small; omega) hpos hp) (Ev.of_eq (Ev.now _) ?_))
  have h := (foldl_mx (partsR aroundC l) 0 (Int.le_refl _) hp).2
  rw [Bool.eq_iff_iff, beq_iff_eq, h]
  simp
def connB (l : List Cell) : Bool := oneB (partsR aroundC l)
theorem shape_fine {l : List Cell} (h : shapeB l = true) : l ≠ [] ∧ l.Nodup ∧ l.all wfC = true ∧ l.length ≤ 1048576 := by
  obtain ⟨h1, h2, h3, h4⟩ := shapeB_iff.1 h
  refine ⟨shape_ne h, h2.imp fun {a b} hab e => ?_, List.all_eq_true.2 fun c hc => wfC_ok (h1 c hc), by omega⟩
  subst e
  unfold ltC at hab
  omega
theorem region_shape {l : List Cell} (h : regionB l = true) : shapeB l = true := by
  unfold regionB at h
  rw [Bool.and_eq_true] at h
  exact h.1
end Go.Proofs.YtfdfdifjkaaeoaaGreat.L
end
section
namespace Go.Proofs.YtfdfdifjkaaeoaaGreat.L
open Go.RowKit Go.Proofs.YtfdfdifjkaaeoaaGreatW.PrintWords Go.Proofs.YtfdfdifjkaaeoaaGreatW.PrintLast Go.Proofs.YtfdfdifjkaaeoaaGreatW.PrintMore Go.Proofs.YtfdfdifjkaaeoaaGreat.F
set_option linter.unusedVariables false
set_option linter.unusedSimpArgs false
theorem one_ev (l : List Int) (hs : small l) : Ev (fun k => spec_l02One.f k l) (oneB l) := by
  unfold spec_l02One.f
  refine loop_list l (fun k i (_ : Unit) => spec_l02One.l0 k l i) (fun pre suf _ => oneB suf) (fun _ _ => True) ?_ ?_ () trivial
  · intro _ _
    simp only [spec_l02One.l0, len_lt, if_false]
    exact Ev.now _
  · intro pre c suf _ hx _ ih
    simp only [spec_l02One.l0, pre_lt hx, pre_0, if_true, at_preI hx, pre_w hx hs]
    by_cases hc : c = 0
    · exact Ev.pos hc (Ev.of_eq (ih () trivial) (by simp [oneB, hc]))
    · exact Ev.neg hc (Ev.of_eq (Ev.now _) (by simp [oneB, hc]))
theorem specConn_ev (l : List Cell) (hl : l.length ≤ 1048576) : Ev (fun k => spec_IsConnected.f k l) (shapeB l && connB l) := by
  have hs : small l := by unfold small; omega
  unfold spec_IsConnected.f
  refine Ev.bind (specIsShape_ev l hs) ?_
  by_cases h : shapeB l = true
  · refine Ev.pos h (Ev.bind (ps_ev l hl) (Ev.bind (one_ev _ (by unfold small; rw [partsR_len]; omega)) (Ev.of_eq (Ev.now _) ?_)))
    simp [h, connB]
  · exact Ev.neg h (Ev.of_eq (Ev.now _) (by simp [h]))
def pieceB (l : List Cell) (n : Int) : Bool := regionB l && (connB l && decide (1 ≤ n ∧ n ≤ 8))
theorem specIsPiece_ev (l : List Cell) (n : Int) (b : Bool) (hl : l.length ≤ 1048576) : Ev (fun k => spec_IsPiece.f k l n b) (pieceB l n) := by
  have hs : small l := by unfold small; omega
  unfold spec_IsPiece.f pieceB
  refine Ev.bind (specIsRegion_ev l hs) ?_
  by_cases h : regionB l = true
  · refine Ev.pos h (Ev.bind (specConn_ev l hl) ?_)
    rw [region_shape h, Bool.true_and, h, Bool.true_and]
    by_cases hc : connB l = true
    · refine Ev.pos hc ?_
      simp only [in_eq, Option.bind_some, hc, Bool.true_and]
      exact Ev.now _
    · exact Ev.neg hc (Ev.of_eq (Ev.now _) (by simp [hc]))
  · exact Ev.neg h (Ev.of_eq (Ev.now _) (by simp [h]))
theorem implIsPiece_ev (l : List Cell) (n : Int) (b : Bool) (hl : l.length ≤ 1048576) : Ev (fun k => impl_IsPiece.f k l n b) (pieceB l n) := by
  have hs : small l := by unfold small; omega
  unfold impl_IsPiece.f pieceB
  refine Ev.bind (implIsRegion_ev l hs) ?_
  by_cases h : regionB l = true
  · obtain ⟨h1, h2, h3, _⟩ := shape_fine (region_shape h)
    refine Ev.pos h (Ev.bind (pa_conn l hl h1 h2 h3) ?_)
    rw [h, Bool.true_and]
    by_cases hc : connB l = true
    · refine Ev.pos hc ?_
      simp only [within_eq, Option.bind_some, hc, Bool.true_and]
      exact Ev.now _
    · exact Ev.neg hc (Ev.of_eq (Ev.now _) (by simp [hc]))
  · exact Ev.neg h (Ev.of_eq (Ev.now _) (by simp [h]))
end Go.Proofs.YtfdfdifjkaaeoaaGreat.L
end
section
namespace Go.Proofs.YtfdfdifjkaaeoaaGreat.L
open Go.RowKit Go.Proofs.YtfdfdifjkaaeoaaGreatW.PrintWords Go.Proofs.YtfdfdifjkaaeoaaGreatW.PrintLast Go.Proofs.YtfdfdifjkaaeoaaGreatW.PrintMore Go.Proofs.YtfdfdifjkaaeoaaGreat.F
set_option linter.unusedVariables false
set_option linter.unusedSimpArgs false
abbrev Piece := S43
abbrev LPiece := S52
def pieceOf (c : LPiece) : Piece := ⟨c.f0.map cellOf, c.f1, c.f2⟩
theorem at_preP {xs pre suf : List Piece} {c : Piece} (h : xs = pre ++ c :: suf) : rd_T43 xs (pre.length : Int) = c := by
  subst h; exact getD_at pre suf c _
theorem at_preLP {xs pre suf : List LPiece} {c : LPiece} (h : xs = pre ++ c :: suf) : rd_T52 xs (pre.length : Int) = c := by
  subst h; exact getD_at pre suf c _
theorem pieceP_pos {l : List Cell} {n : Int} (h : pieceB l n = true) : 0 < l.length := by
  unfold pieceB at h
  rw [Bool.and_eq_true] at h
  have := (shapeB_iff.1 (region_shape h.1)).2.2.1
  omega
def szP : List LPiece → Int → Int
  | [], n => n
  | c :: r, n => if n - (c.f0.length : Int) < 0 then -1 else szP r (n - (c.f0.length : Int))
theorem szP_le : ∀ (l : List LPiece) (n : Int), n ≤ 1048576 → 0 ≤ szP l n → ∀ c ∈ l, c.f0.length ≤ 1048576
  | [], n, h1, h2, c, hc => by simp at hc
  | a :: r, n, h1, h2, c, hc => by
    unfold szP at h2
    by_cases h : n - (a.f0.length : Int) < 0
    · rw [if_pos h] at h2; omega
    · rw [if_neg h] at h2
      rcases List.mem_cons.1 hc with rfl | hc
      · omega
      · exact szP_le r _ (by omega) h2 c hc
theorem szPieceS_l (L : List LPiece) (hs : L.length ≤ 1048576) (hv : ∀ c ∈ L, c.f0.length ≤ 9223372036854775807) : ∀ (suf pre : List LPiece) (n : Int), L = pre ++ suf → 0 ≤ n → n ≤ 1048576 → Ev (fun k => laws_szPieceS.l0 k L n (pre.length : Int)) (szP suf n)
  | [], pre, n, hx, h0, h1 => by
    refine Ev.succ ?_
    have hp := congrArg List.length hx
    simp only [List.length_append, List.length_nil] at hp
    simp only [laws_szPieceS.l0]
    exact Ev.neg (by omega) (Ev.now _)
  | c :: suf, pre, n, hx, h0, h1 => by
    refine Ev.succ ?_
    have hsm : small L := by unfold small; omega
    have ih := szPieceS_l L hs hv suf (pre ++ [c]) (n - (c.f0.length : Int)) (by rw [hx]; simp)
    simp only [List.length_append, List.length_singleton, Int.natCast_add] at ih
    simp only [laws_szPieceS.l0, pre_lt hx, pre_0, if_true, at_preLP hx, pre_w hx hsm]
    have hsz : laws_szPiece.f c.f0 c.f1 c.f2 n = some (if n - (c.f0.length : Int) < 0 then -1 else n - (c.f0.length : Int)) := by
      unfold laws_szPiece.f
      rw [szCellS_eq c.f0 n h0 h1 (hv c (by rw [hx]; simp))]
      simp only [Option.bind_some]
      by_cases h : n - (c.f0.length : Int) < 0
      · rw [if_pos h, if_pos (by decide)]
      · rw [if_neg h, if_neg h]
    refine Ev.bind0 hsz ?_
    unfold szP
    by_cases h : n - (c.f0.length : Int) < 0
    · rw [if_pos h]; exact Ev.of_eq (Ev.pos (by decide) (Ev.now _)) (by rw [if_pos h])
    · rw [if_neg h, if_neg h]; exact Ev.neg h (ih (by omega) (by omega))
def szZ (a : List LCell) (b : List LPiece) : Int :=
  if 1048576 - (a.length : Int) < 0 then -1 else if 1048576 - (a.length : Int) - (b.length : Int) < 0 then -1 else szP b (1048576 - (a.length : Int) - (b.length : Int))
theorem szPuzzle_ev (a : List LCell) (b : List LPiece) (ha : a.length ≤ 9223372036854775807) (hb : b.length ≤ 9223372036854775807) (hv : ∀ c ∈ b, c.f0.length ≤ 9223372036854775807) : Ev (fun k => (laws_szPuzzle.f k a b 1048576)) (if szZ a b < 0 then -1 else szZ a b) := by
  unfold laws_szPuzzle.f szZ
  rw [szCellS_eq a 1048576 (by decide) (by decide) ha]
  simp only [Option.bind_some]
  by_cases h : (1048576 : Int) - (a.length : Int) < 0
  · simp only [if_pos h]
    exact Ev.pos (by decide) (Ev.of_eq (Ev.now _) (by rw [if_pos (by decide)]))
  · simp only [if_neg h]
    unfold laws_szPieceS.f
    rw [w64 (n := 1048576 - (a.length : Int) - (b.length : Int)) (by omega) (by omega)]
    by_cases h2 : (1048576 : Int) - (a.length : Int) - (b.length : Int) < 0
    · simp only [if_pos h2, Option.bind_some]
      exact Ev.pos (by decide) (Ev.of_eq (Ev.now _) (by rw [if_pos (by decide)]))
    · simp only [if_neg h2]
      refine Ev.bind (szPieceS_l b (by omega) hv b [] _ rfl (by omega) (by omega)) ?_
      by_cases h3 : szP b (1048576 - (a.length : Int) - (b.length : Int)) < 0
      · exact Ev.of_eq (Ev.pos h3 (Ev.now _)) (by rw [if_pos h3])
      · exact Ev.of_eq (Ev.neg h3 (Ev.now _)) (by rw [if_neg h3])
theorem szZ_le {a : List LCell} {b : List LPiece} (h : ¬ szZ a b < 0) : a.length ≤ 1048576 ∧ b.length ≤ 1048576 ∧ ∀ c ∈ b, c.f0.length ≤ 1048576 := by
  unfold szZ at h
  by_cases h1 : (1048576 : Int) - (a.length : Int) < 0
  · rw [if_pos h1] at h; omega
  · rw [if_neg h1] at h
    by_cases h2 : (1048576 : Int) - (a.length : Int) - (b.length : Int) < 0
    · rw [if_pos h2] at h; omega
    · rw [if_neg h2] at h
      exact ⟨by omega, by omega, szP_le b (1048576 - (a.length : Int) - (b.length : Int)) (by omega) (by omega)⟩
theorem toPieceP_ev (c : LPiece) (la : c.f0.length ≤ 1048576) : Ev (fun k => laws_toPiece.f k c.f0 c.f1 c.f2) (c.f0.map cellOf, c.f1, c.f2) := by
  unfold laws_toPiece.f
  exact Ev.bind (toCellS_ev c.f0 la) (Ev.now _)
theorem toPieceS_ev (b : List LPiece) (hb : b.length ≤ 1048576) (hv : ∀ c ∈ b, c.f0.length ≤ 1048576) : Ev (fun k => laws_toPieceS.f k b) (b.map pieceOf) := by
  have hs : small b := by unfold small; omega
  unfold laws_toPieceS.f
  refine Ev.pos (by omega) (Ev.pos (by omega) ?_)
  have := loop_list b (fun k i (s : List Piece) => laws_toPieceS.l0 k b s i) (fun _ suf s => s.take (b.length - suf.length) ++ suf.map pieceOf) (fun pre s => s.length = b.length) ?_ ?_ (List.replicate b.length z43) (by simp)
  · refine Ev.of_eq this ?_
    simp
  · intro s hl
    simp only [laws_toPieceS.l0, len_lt, if_false]
    refine Ev.of_eq (Ev.now _) ?_
    simp [List.take_of_length_le, hl]
  · intro pre c suf s hx hl ih
    have hlt : ((pre.length : Int) < (s.length : Int)) = True := by rw [hl]; exact pre_lt hx
    simp only [laws_toPieceS.l0, pre_lt hx, pre_0, if_true, at_preLP hx, hlt, pre_w hx hs]
    refine Ev.bind (toPieceP_ev c (hv c (by rw [hx]; simp))) ?_
    refine Ev.of_eq (ih (s.set (pre.length : Int).toNat (pieceOf c)) (by simpa using hl)) ?_
    have hn : b.length = pre.length + (suf.length + 1) := by rw [hx]; simp
    have e1 : b.length - suf.length = pre.length + 1 := by omega
    have e2 : b.length - (c :: suf).length = pre.length := by simp; omega
    rw [e1, e2, Int.toNat_natCast, List.take_add_one, List.getElem?_set_self (by omega), List.take_set_of_le (Nat.le_refl _)]
    simp
theorem toPuzzle_ev (a : List LCell) (b : List LPiece) (ha : a.length ≤ 1048576) (hb : b.length ≤ 1048576) (hv : ∀ c ∈ b, c.f0.length ≤ 1048576) : Ev (fun k => laws_toPuzzle.f k a b) (a.map cellOf, b.map pieceOf) := by
  unfold laws_toPuzzle.f
  exact Ev.bind (toCellS_ev a ha) (Ev.bind (toPieceS_ev b hb hv) (Ev.now _))
theorem eqPuzzle_ev (R : List Cell) (P : List Piece) (hR : small R) (hP : small P) (hv : ∀ c ∈ P, small c.f0) : Ev (fun k => laws_eqPuzzle.f k R P R P) true := by
  unfold laws_eqPuzzle.f
  refine Ev.bind (eqCellS_ev R hR) (Ev.pos rfl (Ev.bind (a := true) ?_ (Ev.pos rfl (Ev.now _))))
  unfold laws_eqPieceS.f
  refine Ev.pos rfl ?_
  refine loop_list P (fun k i (_ : Unit) => laws_eqPieceS.l0 k P P i) (fun _ _ _ => true) (fun _ _ => True) ?_ ?_ () trivial
  · intro _ _
    simp only [laws_eqPieceS.l0, len_lt, if_false]
    exact Ev.now _
  · intro pre c suf _ hx _ ih
    simp only [laws_eqPieceS.l0, pre_lt hx, pre_0, if_true, at_preP hx, pre_w hx hP]
    refine Ev.bind (a := true) ?_ (Ev.pos rfl (ih () trivial))
    unfold laws_eqPiece.f
    exact Ev.bind (eqCellS_ev c.f0 (hv c (by rw [hx]; simp))) (Ev.pos rfl (Ev.pos rfl (Ev.neg (by simp) (Ev.now _))))
def likeP (c y : Piece) : Bool := meetF (pieceF c.f0 c.f2) (pieceF y.f0 y.f2)
theorem likeP_len {c y : Piece} (h : c.f0.length ≠ y.f0.length) : likeP c y = false := by
  rw [Bool.eq_false_iff]
  intro hm
  unfold likeP meetF at hm
  obtain ⟨x, hx, e⟩ := List.any_eq_true.1 hm
  obtain ⟨z, hz, e⟩ := List.any_eq_true.1 e
  have hxz : x = z := (cmpS_zero x z).1 (by simpa using e)
  have h1 := pieceF_mem x hx
  have h2 := pieceF_mem z hz
  rw [hxz] at h1
  omega
def okPs : List Piece → List Piece → Bool
  | _, [] => true
  | pre, c :: r => pieceB c.f0 c.f1 && (!(pre.any fun y => likeP c y) && okPs (pre ++ [c]) r)
def puzzleB (R : List Cell) (P : List Piece) : Bool := regionB R && (decide (1 ≤ (P.length : Int) ∧ (P.length : Int) ≤ 12) && okPs [] P)
section
variable (R : List Cell) (P : List Piece) (hP : P.length ≤ 1048576) (hv : ∀ c ∈ P, c.f0.length ≤ 1048576)
include hP hv
theorem specPz_l1 {r : Bool} (pre : List Piece) (c : Piece) (suf : List Piece) (hx : P = pre ++ c :: suf) (hc : pieceB c.f0 c.f1 = true) (ho : ∀ y ∈ pre, pieceB y.f0 y.f1 = true) : ∀ (s2 p2 : List Piece), pre = p2 ++ s2 →
    Ev (fun k => if (s2.any fun y => likeP c y) = true then some false else spec_IsPuzzle.l0 k (wrap64 ((pre.length : Int) + 1)) R P) r → Ev (fun k => spec_IsPuzzle.l1 k (pre.length : Int) (p2.length : Int) R P) r
  | [], p2, h2, hr => by
    refine Ev.succ ?_
    have hp := congrArg List.length h2
    simp only [List.length_append, List.length_nil] at hp
    simp only [spec_IsPuzzle.l1]
    refine Ev.neg (by omega) ?_
    simpa using hr
  | y :: s2, p2, h2, hr => by
    refine Ev.succ ?_
    have hp := congrArg List.length h2
    simp only [List.length_append, List.length_cons] at hp
    have hx2 : P = p2 ++ y :: (s2 ++ c :: suf) := by rw [hx, h2]; simp
    have hs : small P := by unfold small; omega
    have hym : y ∈ pre := by rw [h2]; simp
    have hcm : c ∈ P := by rw [hx]; simp
    have hyp : y ∈ P := by rw [hx]; simp [hym]
    have hlt := pre_lt hx
    have hlt2 := pre_lt hx2
    simp only [spec_IsPuzzle.l1, pre_lt hx2, pre_lt hx, pre_0, if_true, at_preP hx, at_preP hx2, pre_w hx2 hs]
    refine Ev.pos (by omega) (Ev.bind (specAlike_ev c.f0 c.f1 c.f2 y.f0 y.f1 y.f2 (hv c hcm) (hv y hyp) (pieceP_pos hc) (pieceP_pos (ho y hym))) ?_)
    have hl : meetF (pieceF c.f0 c.f2) (pieceF y.f0 y.f2) = likeP c y := rfl
    rw [hl]
    cases hq : likeP c y with
    | true =>
      refine Ev.pos rfl ?_
      simpa [hq] using hr
    | false =>
      refine Ev.neg (by simp) ?_
      have := specPz_l1 pre c suf hx hc ho s2 (p2 ++ [y]) (by rw [h2]; simp) (by simpa [hq] using hr)
      simpa using this
theorem specPz_l0 : ∀ (suf pre : List Piece), P = pre ++ suf → (∀ y ∈ pre, pieceB y.f0 y.f1 = true) → Ev (fun k => spec_IsPuzzle.l0 k (pre.length : Int) R P) (okPs pre suf)
  | [], pre, hx, ho => by
    refine Ev.succ ?_
    have hp := congrArg List.length hx
    simp only [List.length_append, List.length_nil] at hp
    simp only [spec_IsPuzzle.l0]
    exact Ev.neg (by omega) (Ev.now _)
  | c :: suf, pre, hx, ho => by
    refine Ev.succ ?_
    have hs : small P := by unfold small; omega
    simp only [spec_IsPuzzle.l0, pre_lt hx, pre_0, if_true, at_preP hx]
    refine Ev.bind (specIsPiece_ev c.f0 c.f1 c.f2 (hv c (by rw [hx]; simp))) ?_
    unfold okPs
    by_cases hc : pieceB c.f0 c.f1 = true
    · refine Ev.pos hc (specPz_l1 R P hP hv pre c suf hx hc ho pre [] rfl ?_)
      rw [hc, Bool.true_and]
      by_cases hq : (pre.any fun y => likeP c y) = true
      · exact Ev.pos hq (Ev.of_eq (Ev.now _) (by simp [hq]))
      · refine Ev.neg hq ?_
        rw [pre_w hx hs]
        have ih := specPz_l0 suf (pre ++ [c]) (by rw [hx]; simp) (fun y hy => by
          rcases List.mem_append.1 hy with hy | hy
          · exact ho y hy
          · simp at hy; exact hy ▸ hc)
        simp only [List.length_append, List.length_singleton, Int.natCast_add] at ih
        refine Ev.of_eq ih ?_
        simp [hq]
    · exact Ev.neg hc (Ev.of_eq (Ev.now _) (by simp [hc]))
theorem implPz_l1 {r : Bool} (n i : Int) (pre : List Piece) (c : Piece) (suf : List Piece) (hx : P = pre ++ c :: suf) (hc : pieceB c.f0 c.f1 = true) (ho : ∀ y ∈ pre, pieceB y.f0 y.f1 = true) : ∀ (s2 p2 : List Piece), pre = p2 ++ s2 →
    Ev (fun k => if (s2.any fun y => likeP c y) = true then some false else impl_IsPuzzle.l0 k P n (wrap64 (i + 1)) R P) r → Ev (fun k => impl_IsPuzzle.l1 k P n i pre (pre.length : Int) (p2.length : Int) R P c.f0 c.f1 c.f2) r
  | [], p2, h2, hr => by
    refine Ev.succ ?_
    have hp := congrArg List.length h2
    simp only [List.length_append, List.length_nil] at hp
    simp only [impl_IsPuzzle.l1]
    refine Ev.neg (by omega) ?_
    simpa using hr
  | y :: s2, p2, h2, hr => by
    refine Ev.succ ?_
    have hpl : pre.length ≤ P.length := by rw [hx]; simp
    have hs : small pre := by unfold small; omega
    have hym : y ∈ pre := by rw [h2]; simp
    have hcm : c ∈ P := by rw [hx]; simp
    have hyp : y ∈ P := by rw [hx]; simp [hym]
    simp only [impl_IsPuzzle.l1, pre_lt h2, pre_0, if_true, at_preP h2, pre_w h2 hs]
    have ih (hq : likeP c y = false) := implPz_l1 n i pre c suf hx hc ho s2 (p2 ++ [y]) (by rw [h2]; simp) (by simpa [hq] using hr)
    simp only [List.length_append, List.length_singleton, Int.natCast_add] at ih
    by_cases hl : c.f0.length = y.f0.length
    · refine Ev.pos (by omega) (Ev.bind (implAlike_ev c.f0 c.f1 c.f2 y.f0 y.f1 y.f2 (hv c hcm) (hv y hyp) (pieceP_pos hc) (pieceP_pos (ho y hym))) ?_)
      have hl : meetF (pieceF c.f0 c.f2) (pieceF y.f0 y.f2) = likeP c y := rfl
      rw [hl]
      cases hq : likeP c y with
      | true =>
        refine Ev.pos rfl ?_
        simpa [hq] using hr
      | false => exact Ev.neg (by simp) (ih hq)
    · exact Ev.neg (by omega) (ih (likeP_len hl))
theorem implPz_l0 : ∀ (suf pre : List Piece), P = pre ++ suf → (∀ y ∈ pre, pieceB y.f0 y.f1 = true) → Ev (fun k => impl_IsPuzzle.l0 k P (P.length : Int) (pre.length : Int) R P) (okPs pre suf)
  | [], pre, hx, ho => by
    refine Ev.succ ?_
    have hp := congrArg List.length hx
    simp only [List.length_append, List.length_nil] at hp
    simp only [impl_IsPuzzle.l0]
    exact Ev.neg (by omega) (Ev.now _)
  | c :: suf, pre, hx, ho => by
    refine Ev.succ ?_
    have hs : small P := by unfold small; omega
    have htk : P.take (pre.length : Int).toNat = pre := by rw [hx]; simp
    have hpl := pre_lt hx
    simp only [impl_IsPuzzle.l0, pre_lt hx, pre_0, if_true, at_preP hx, htk]
    refine Ev.bind (implIsPiece_ev c.f0 c.f1 c.f2 (hv c (by rw [hx]; simp))) ?_
    unfold okPs
    by_cases hc : pieceB c.f0 c.f1 = true
    · refine Ev.pos hc (Ev.pos (by simp at hpl; omega) (Ev.bind0 rfl (implPz_l1 R P hP hv _ (pre.length : Int) pre c suf hx hc ho pre [] rfl ?_)))
      rw [hc, Bool.true_and]
      by_cases hq : (pre.any fun y => likeP c y) = true
      · exact Ev.pos hq (Ev.of_eq (Ev.now _) (by simp [hq]))
      · refine Ev.neg hq ?_
        rw [pre_w hx hs]
        have ih := implPz_l0 suf (pre ++ [c]) (by rw [hx]; simp) (fun y hy => by
          rcases List.mem_append.1 hy with hy | hy
          · exact ho y hy
          · simp at hy; exact hy ▸ hc)
        simp only [List.length_append, List.length_singleton, Int.natCast_add] at ih
        refine Ev.of_eq ih ?_
        simp [hq]
    · exact Ev.neg hc (Ev.of_eq (Ev.now _) (by simp [hc]))
theorem specPuzzle_ev (hR : small R) : Ev (fun k => spec_IsPuzzle.f k R P) (puzzleB R P) := by
  unfold spec_IsPuzzle.f puzzleB
  refine Ev.bind (specIsRegion_ev R hR) ?_
  have jt : Ev (fun k => spec_IsPuzzle.j0 k true R P) false := Ev.step (fun k => spec_IsPuzzle.j0.eq_2 _ _ _ _) (Ev.pos rfl (Ev.now _))
  by_cases h : regionB R = true
  · refine Ev.pos h ?_
    rw [in_eq]
    refine Ev.bind0 rfl ?_
    by_cases hn : 1 ≤ (P.length : Int) ∧ (P.length : Int) ≤ 12
    · rw [decide_eq_true hn, h]
      exact Ev.step (fun k => spec_IsPuzzle.j0.eq_2 _ _ _ _) (Ev.neg (by simp) (Ev.of_eq (specPz_l0 R P hP hv P [] rfl (by simp)) (by simp)))
    · rw [decide_eq_false hn]
      exact Ev.of_eq jt (by simp)
  · exact Ev.neg h (Ev.of_eq jt (by simp [h]))
theorem implPuzzle_ev (hR : small R) : Ev (fun k => impl_IsPuzzle.f k R P) (puzzleB R P) := by
  unfold impl_IsPuzzle.f puzzleB
  refine Ev.bind (implIsRegion_ev R hR) ?_
  have jt : Ev (fun k => impl_IsPuzzle.j0 k true R P) false := Ev.step (fun k => impl_IsPuzzle.j0.eq_2 _ _ _ _) (Ev.pos rfl (Ev.now _))
  by_cases h : regionB R = true
  · refine Ev.pos h ?_
    by_cases h1 : (P.length : Int) < 1
    · have hn : ¬ (1 ≤ (P.length : Int) ∧ (P.length : Int) ≤ 12) := by omega
      rw [decide_eq_false hn]
      exact Ev.pos h1 (Ev.of_eq jt (by simp))
    · refine Ev.neg h1 ?_
      by_cases h2 : (P.length : Int) > 12
      · have hn : ¬ (1 ≤ (P.length : Int) ∧ (P.length : Int) ≤ 12) := by omega
        rw [decide_eq_false hn, decide_eq_true h2]
        exact Ev.of_eq jt (by simp)
      · have hn : 1 ≤ (P.length : Int) ∧ (P.length : Int) ≤ 12 := by omega
        rw [decide_eq_true hn, decide_eq_false h2, h]
        exact Ev.step (fun k => impl_IsPuzzle.j0.eq_2 _ _ _ _) (Ev.neg (by simp) (Ev.of_eq (implPz_l0 R P hP hv P [] rfl (by simp)) (by simp)))
  · exact Ev.neg h (Ev.of_eq jt (by simp [h]))
end
def areaP : List Piece → Int → Int
  | [], n => n
  | c :: r, n => areaP r (wrap64 (n + wrap64 (c.f1 * (c.f0.length : Int))))
theorem specArea_ev (R : List Cell) (P : List Piece) (hP : small P) : Ev (fun k => spec_l11Area.f k R P) (areaP P 0) := by
  unfold spec_l11Area.f
  refine loop_list P (fun k i (n : Int) => spec_l11Area.l0 k n i R P) (fun _ suf n => areaP suf n) (fun _ _ => True) ?_ ?_ 0 trivial
  · intro n _
    simp only [spec_l11Area.l0, len_lt, if_false]
    exact Ev.now _
  · intro pre c suf n hx _ ih
    simp only [spec_l11Area.l0, pre_lt hx, pre_0, if_true, at_preP hx, pre_w hx hP]
    exact ih _ trivial
theorem implArea_ev (R : List Cell) (P : List Piece) (hP : small P) : Ev (fun k => impl_pieceArea.f k R P) (areaP P 0) := by
  unfold impl_pieceArea.f
  refine loop_list P (fun k i (n : Int) => impl_pieceArea.l0 k n P (P.length : Int) i) (fun _ suf n => areaP suf n) (fun _ _ => True) ?_ ?_ 0 trivial
  · intro n _
    simp only [impl_pieceArea.l0, len_lt, if_false]
    exact Ev.now _
  · intro pre c suf n hx _ ih
    simp only [impl_pieceArea.l0, pre_lt hx, pre_0, if_true, at_preP hx, pre_w hx hP]
    exact ih _ trivial
theorem puzzle_args {a : List LCell} {b : List LPiece} (h : ¬ szZ a b < 0) : small (a.map cellOf) ∧ (b.map pieceOf).length ≤ 1048576 ∧ (∀ c ∈ b.map pieceOf, c.f0.length ≤ 1048576) ∧ small (b.map pieceOf) ∧ ∀ c ∈ b.map pieceOf, small c.f0 := by
  obtain ⟨h1, h2, h3⟩ := szZ_le h
  have h4 : ∀ c ∈ b.map pieceOf, c.f0.length ≤ 1048576 := fun c hc => by
    obtain ⟨d, hd, rfl⟩ := List.mem_map.1 hc
    have := h3 d hd
    show (d.f0.map cellOf).length ≤ _
    simpa using this
  refine ⟨by unfold small; simp; omega, by simpa using h2, h4, by unfold small; simp; omega, fun c hc => by have := h4 c hc; unfold small; omega⟩
end Go.Proofs.YtfdfdifjkaaeoaaGreat.L
end
section
namespace Go.Proofs.YtfdfdifjkaaeoaaGreat.Pure
open Go.RowKit Go.Proofs.YtfdfdifjkaaeoaaGreatW.PrintWords Go.Proofs.YtfdfdifjkaaeoaaGreat.F Go.Proofs.YtfdfdifjkaaeoaaGreat.L
set_option linter.unusedVariables false
def areaR (R : List Cell) (P : List Piece) : Int × Int := if puzzleB R P = true then (areaP P 0, 0) else (0, 1)
theorem specAreaR_ev (R : List Cell) (P : List Piece) (hP : P.length ≤ 1048576) (hv : ∀ c ∈ P, c.f0.length ≤ 1048576) (hR : small R) (hs : small P) : Ev (fun k => spec_PieceArea.f k R P) (areaR R P) := by
  unfold spec_PieceArea.f areaR
  exact Ev.bind (specPuzzle_ev R P hP hv hR) (Ev.if_ (fun _ => Ev.bind (specArea_ev R P hs) (Ev.now _)) (fun _ => Ev.now _))
theorem implAreaR_ev (R : List Cell) (P : List Piece) (hP : P.length ≤ 1048576) (hv : ∀ c ∈ P, c.f0.length ≤ 1048576) (hR : small R) (hs : small P) : Ev (fun k => impl_PieceArea.f k R P) (areaR R P) := by
  unfold impl_PieceArea.f areaR
  exact Ev.bind (implPuzzle_ev R P hP hv hR) (Ev.if_ (fun _ => Ev.bind (implArea_ev R P hs) (Ev.now _)) (fun _ => Ev.now _))
theorem FnExactPieceArea (a : List LCell) (b : List LPiece) (hv : V25 ⟨a, b⟩) : ∃ k, laws_FnExactPieceArea.f k a b = some true := by
  refine Ev.rounds ?_
  have va : a.length ≤ 9223372036854775807 := hv.1.1
  have vb : b.length ≤ 9223372036854775807 := hv.2.1
  have vc : ∀ c ∈ b, c.f0.length ≤ 9223372036854775807 := fun c hc => (hv.2.2 c hc).1.1
  unfold laws_FnExactPieceArea.f
  refine Ev.bind (szPuzzle_ev a b va vb vc) ?_
  by_cases h : szZ a b < 0
  · rw [if_pos h]; exact Ev.pos (by decide) (Ev.now _)
  · rw [if_neg h]
    obtain ⟨h1, h2, h3⟩ := szZ_le h
    obtain ⟨g1, g2, g3, g4, g5⟩ := puzzle_args h
    have tz := toPuzzle_ev a b h1 h2 h3
    refine Ev.neg h (Ev.bind tz (Ev.bind (specAreaR_ev _ _ g2 g3 g1 g4) (Ev.bind tz (Ev.bind (implAreaR_ev _ _ g2 g3 g1 g4) (Ev.pos rfl ?_)))))
    refine Ev.step (fun k => laws_FnExactPieceArea.j0.eq_2 _ _ _ _ _ _) (Ev.neg (by simp) ?_)
    exact Ev.bind tz (Ev.bind (eqPuzzle_ev _ _ g1 g4 g5) (Ev.pos rfl (Ev.now _)))
end Go.Proofs.YtfdfdifjkaaeoaaGreat.Pure
end
