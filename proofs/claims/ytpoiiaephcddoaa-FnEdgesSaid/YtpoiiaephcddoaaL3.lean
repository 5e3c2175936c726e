/- The row of FnEdges, with what it needs: text 4 of 9. -/
import Derived.Test.YtpoiiaephcddoaaL2
set_option maxHeartbeats 8000000
set_option maxRecDepth 100000
section
namespace Go.Proofs.Ytpoiiaephcddoaa.F
open Go.RowKit Go.Proofs.YtpoiiaephcddoaaW.PrintWords Go.Proofs.YtpoiiaephcddoaaW.PrintLast Go.Proofs.YtpoiiaephcddoaaW.PrintMore
attribute [local go_sem] max2_int min2_int max_two min_two max_three min_three max_four min_four
set_option linter.unusedVariables false
set_option linter.unusedSimpArgs false
theorem impl_IsShape.calls (k : Nat) (A0 : Option Addr) (c0 : Nat) (l0 : List (S35)) (r : Bool) (w : World) (hr0 : Kd.C k35 w A0 l0.length l0) (hc0 : l0.length ≤ c0) (h : impl_IsShape.f k l0 = some r) :
  Calls Try.prog 19 #[.slice A0 l0.length c0] w fun e w' => e = .returned (.bool r) ∧ Below w.heap.size w w' := by
 have hu35 := Try.underlying35
 have HR0 := aM hr0
 have HC0 := aM hc0
 clear hr0 hc0
 have HB := aM (Below.refl w.heap.size w)
 have H : (impl_IsShape.l0 k l0 l0 (l0.length : Int) 0) = some r := h
 clear h
 have H' := aM H
 clear H
 go_enter Try.func19, Try.ntmps19
 go_wp2
 go_loopg [7] k (fun kq v7 w' => ∃ (x7_1 : Int), v7 = .int .i64 x7_1 ∧ Aside0 (impl_IsShape.l0 kq l0 l0 (l0.length : Int) x7_1 = some r) ∧ Aside0 (kq ≤ k) ∧ Aside0 (Below w.heap.size w w'))
 case atStart => exact ⟨(0), zr, H', ⟨Nat.le_refl _⟩, ⟨zb⟩⟩
 case round =>
  clear H'
  try clear c1
  obtain ⟨x7_1, rfl, HA, HK1, HB⟩ := hrel
  cases gk with
  | zero => exact absurd HA.out (by simp [impl_IsShape.l0])
  | succ k1 =>
   have H := HA.out
   clear HA
   simp only [impl_IsShape.l0] at H
   by_cases c2 : x7_1 < (l0.length : Int)
   rotate_left
   ·rw [if_neg c2] at H
    have c2b0 : decide (x7_1 < (l0.length : Int)) = false := decide_eq_false c2
    clear c2
    by_cases c37 : (l0.length : Int) ≥ 1
    ·rw [if_pos c37] at H
     have c37b0 : decide (1 ≤ (l0.length : Int)) = true := decide_eq_true c37
     have c37b1 : decide (1 ≤ l0.length) = true := decide_eq_true (by omega)
     clear c37
     obtain rfl := Option.some.inj H
     go_wp2
     go_ret
     exact ⟨zw, zb⟩
    rw [if_neg c37] at H
    have c37b0 : decide (1 ≤ (l0.length : Int)) = false := decide_eq_false c37
    have c37b1 : decide (1 ≤ l0.length) = false := decide_eq_false (by omega)
    clear c37
    obtain rfl := Option.some.inj H
    go_wp2
    go_ret
    exact ⟨zw, zb⟩
   rw [if_pos c2] at H
   have c2b0 : decide (x7_1 < (l0.length : Int)) = true := decide_eq_true c2
   clear c2
   by_cases c3 : 0 ≤ x7_1
   rotate_left
   ·rw [if_neg c3] at H
    exact absurd H (by simp)
   rw [if_pos c3] at H
   have c3b0 : decide (0 ≤ x7_1) = true := decide_eq_true c3
   clear c3
   by_cases c4 : x7_1 < (l0.length : Int)
   rotate_left
   ·rw [if_neg c4] at H
    exact absurd H (by simp)
   rw [if_pos c4] at H
   have c4b0 : decide (x7_1 < (l0.length : Int)) = true := decide_eq_true c4
   clear c4
   replace H := Option.bind_eq_some_iff.mp H
   obtain ⟨t163, A50, H⟩ := H
   replace H : (if t163 = true then ((impl_isCoordinate.f ((rd_T35 l0 x7_1).f1)).bind fun t164 => (if t164 = true then (if x7_1 > 0 then (if 0 ≤ (wrap64 (x7_1 - 1)) then (if (wrap64 (x7_1 - 1)) < (l0.length : Int) then ((impl_compareCells.f ((rd_T35 l0 (wrap64 (x7_1 - 1))).f0) ((rd_T35 l0 (wrap64 (x7_1 - 1))).f1) ((rd_T35 l0 x7_1).f0) ((rd_T35 l0 x7_1).f1)).bind fun t166 => (if t166 ≥ 0 then (some false) else (impl_IsShape.l0 k1 l0 l0 (l0.length : Int) (wrap64 (x7_1 + 1))))) else (none)) else (none)) else (impl_IsShape.l0 k1 l0 l0 (l0.length : Int) (wrap64 (x7_1 + 1)))) else (some false))) else (some false)) = some r := H
   have A5 := aM A50
   clear A50
   by_cases c6 : t163 = true
   rotate_left
   ·replace c6 := Bool.eq_false_iff.mpr c6
    subst c6
    have H1 : (some false) = some r := by rw [if_neg (show ¬ (false = true) by decide)] at H; exact H
    clear H
    have H := H1
    clear H1
    obtain rfl := Option.some.inj H
    have p161 : 0 ≤ (x7_1 : Int) := of_decide_eq_true za
    have q161 : x7_1 < (l0.length : Int) := of_decide_eq_true za
    obtain ⟨ad161, e161, hx161_0, hx161_1⟩ := at_T35 HR0.out x7_1 p161 q161
    cases e161
    replace hx161_0 := zk HB.out hx161_0
    replace hx161_1 := zk HB.out hx161_1
    replace p161 := eq_true p161
    replace q161 := eq_true q161
    try go_wp2_with (first | ((with_reducible refine gate_dst (N := 4) rfl ?_); (try (refine gate_guard (by rfl) ?_; dsimp only)); refine zx 4 #[.int .i64 0, .int .i64 0] 35 ?_; intro gb162 hg w33 hbox hb; have n0_ := aM (below_step zb hb); have n1_ := aM (hbox); have n2_ := aM ((ze : w.heap.size ≤ gb162)); have n3_ := aM ((ze : w.heap.size ≤ gb162)); clear HB; have HB := n0_; have BK162 := n1_; have GW162 := n2_; have GE162 := n3_; clear n0_ n1_ n2_ n3_ hb hbox hg; have hcz34_0 : w33.cell? ⟨gb162, 0, none⟩ = some (.int .i64 0) := (blk_cell BK162.out 0).trans rfl; have hcz34_1 : w33.cell? ⟨gb162, 1, none⟩ = some (.int .i64 0) := (blk_cell BK162.out 1).trans rfl; have hfz34_0 := blk_frozen BK162.out 0; have hfz34_1 := blk_frozen BK162.out 1))
    have n0_ : Aside0 (((w33.setCell ⟨gb162, 0, none⟩ (.int .i64 ((rd_T35 l0 x7_1).f0))).setCell ⟨gb162, 1, none⟩ (.int .i64 ((rd_T35 l0 x7_1).f1))).heap[gb162]? = some (.cells #[.int .i64 ((rd_T35 l0 x7_1).f0), .int .i64 ((rd_T35 l0 x7_1).f1)] 35 (0, 0))) := ⟨by (with_reducible repeat (first | refine blk_drewN ?_ _ | refine blk_drew ?_ | refine blk_alloc ?_ _)); refine blk_put (cs := #[.int .i64 ((rd_T35 l0 x7_1).f0), .int .i64 0]) ?_ 1 _ rfl; (with_reducible repeat (first | refine blk_drewN ?_ _ | refine blk_drew ?_ | refine blk_alloc ?_ _)); refine blk_put (cs := #[.int .i64 0, .int .i64 0]) ?_ 0 _ rfl; (with_reducible repeat (first | refine blk_drewN ?_ _ | refine blk_drew ?_ | refine blk_alloc ?_ _)); exact BK162.out⟩
    have n1_ : Aside0 (Below w.heap.size w ((w33.setCell ⟨gb162, 0, none⟩ (.int .i64 ((rd_T35 l0 x7_1).f0))).setCell ⟨gb162, 1, none⟩ (.int .i64 ((rd_T35 l0 x7_1).f1)))) := ⟨zs GE162.out⟩
    (try clear BK162)
    (try clear HB)
    generalize ((w33.setCell ⟨gb162, 0, none⟩ (.int .i64 ((rd_T35 l0 x7_1).f0))).setCell ⟨gb162, 1, none⟩ (.int .i64 ((rd_T35 l0 x7_1).f1))) = w35 at n0_ n1_ ⊢
    have BK162 := n0_
    have HB := n1_
    clear n0_ n1_
    have n0_ := aM (blk_drew BK162.out)
    have n1_ := aM (below_drew1 HB.out)
    clear BK162
    clear HB
    have BK162 := n0_
    have HB := n1_
    clear n0_ n1_
    refine start_ (n := 24) (S := fun w' => w'.cell? ⟨gb162, 0, none⟩ = some (.int .i64 ((rd_T35 l0 x7_1).f0)) ∧ w'.cell? ⟨gb162, 1, none⟩ = some (.int .i64 ((rd_T35 l0 x7_1).f1))) (ds := []) zA27 (by kernel_rfl) rfl rfl ⟨(blk_cell BK162.out 0).trans rfl, (blk_cell BK162.out 1).trans rfl⟩ (fun hHeld => ?_); refine with_tabW impl_IsShape.tab4 impl_IsShape.bits4 (fun HT_ HW_ => ?_)
    generalize w35.drew = w36 at BK162 HB hHeld ⊢
    refine zp 0 (some 12) ?_ zA28 rfl rfl (Or.inl ⟨by rfl, ?_⟩) ?_ ?_ ?_
    rotate_left
    ·intro w'
     go_simp
     with_reducible rfl
    rotate_left
    ·simp only [Act.put, xA, xB, xC, i64_w, i32_w]
     rfl
    refine zu 1 (some 13) ?_ zA29 rfl rfl (Or.inl ⟨by rfl, ?_⟩) hHeld ?_ ?_ ?_
    rotate_left
    ·rintro w' ⟨s0, s1⟩
     go_simp
     with_reducible rfl
    rotate_left
    ·simp only [Act.put, xA, xB, xC, i64_w, i32_w]
     rfl
    refine one_ (i := 2) (N := some 14) zA30 rfl rfl (one_of HT_.out (by kernel_rfl)) (by decide) (fun K hK => ?_)
    refine goes_ Try.func30 (by kernel_rfl) rfl #[.int .i64 ((rd_T35 l0 x7_1).f0)] (by rfl) rfl rfl zm ?_
    with_reducible refine (impl_isCoordinate.calls ((rd_T35 l0 x7_1).f0) false _ A5.out).mono ?_
    rintro e w' ⟨rfl, ⟨nd, rfl⟩⟩
    refine ⟨_, rfl, ?_⟩
    refine hK.out _ _ ⟨(blk_cell BK162.out 0).trans rfl, (blk_cell BK162.out 1).trans rfl⟩ (fun hHeld => ?_)
    clear hK K
    refine norm_ (a' := ?_) ?_ ?_
    rotate_left
    ·show Act.put _ (some 14) _ = _
     simp only [Act.put, xA, xB, xC, i64_w, i32_w]
     rfl
    refine zp 3 (some 15) ?_ zA31 rfl rfl (Or.inl ⟨by rfl, ?_⟩) ?_ ?_ ?_
    rotate_left
    ·intro w'
     go_simp
     with_reducible rfl
    rotate_left
    ·simp only [Act.put, xA, xB, xC, i64_w, i32_w]
     rfl
    refine zp 4 (some 16) ?_ zA32 rfl rfl (Or.inl ⟨by rfl, ?_⟩) ?_ ?_ ?_
    rotate_left
    ·intro w'
     go_simp
     with_reducible rfl
    rotate_left
    ·simp only [Act.put, xA, xB, xC, i64_w, i32_w]
     rfl
    refine zp 5 (some 17) undef zA33 rfl rfl (Or.inr ⟨by rfl, rfl⟩) ?_ ?_ ?_
    rotate_left
    ·simp only [Act.put, xA, xB, xC, i64_w, i32_w]
     rfl
    refine zp 6 (some 18) undef zA34 rfl rfl (Or.inr ⟨by rfl, rfl⟩) ?_ ?_ ?_
    rotate_left
    ·simp only [Act.put, xA, xB, xC, i64_w, i32_w]
     rfl
    refine zp 7 (some 19) undef zA35 rfl rfl (Or.inr ⟨by rfl, rfl⟩) ?_ ?_ ?_
    rotate_left
    ·simp only [Act.put, xA, xB, xC, i64_w, i32_w]
     rfl
    refine zp 8 (some 20) undef zA36 rfl rfl (Or.inr ⟨by rfl, rfl⟩) ?_ ?_ ?_
    rotate_left
    ·simp only [Act.put, xA, xB, xC, i64_w, i32_w]
     rfl
    refine zp 9 (some 21) ?_ zA37 rfl rfl (Or.inl ⟨by rfl, ?_⟩) ?_ ?_ ?_
    rotate_left
    ·intro w'
     go_simp
     with_reducible rfl
    rotate_left
    ·simp only [Act.put, xA, xB, xC, i64_w, i32_w]
     rfl
    refine zp 10 (some 22) ?_ zA38 rfl rfl (Or.inl ⟨by rfl, ?_⟩) ?_ ?_ ?_
    rotate_left
    ·intro w'
     go_simp
     with_reducible rfl
    rotate_left
    ·simp only [Act.put, xA, xB, xC, i64_w, i32_w]
     rfl
    refine zp 11 (some 23) undef zA39 rfl rfl (Or.inr ⟨by rfl, rfl⟩) ?_ ?_ ?_
    rotate_left
    ·simp only [Act.put, xA, xB, xC, i64_w, i32_w]
     rfl
    refine zp 12 (some 24) undef zA40 rfl rfl (Or.inr ⟨by rfl, rfl⟩) ?_ ?_ ?_
    rotate_left
    ·simp only [Act.put, xA, xB, xC, i64_w, i32_w]
     rfl
    refine zp 13 (some 25) undef zA41 rfl rfl (Or.inr ⟨by rfl, rfl⟩) ?_ ?_ ?_
    rotate_left
    ·simp only [Act.put, xA, xB, xC, i64_w, i32_w]
     rfl
    refine zp 14 (some 26) undef zA42 rfl rfl (Or.inr ⟨by rfl, rfl⟩) ?_ ?_ ?_
    rotate_left
    ·simp only [Act.put, xA, xB, xC, i64_w, i32_w]
     rfl
    refine zp 15 (some 27) undef zA43 rfl rfl (Or.inr ⟨by rfl, rfl⟩) ?_ ?_ ?_
    rotate_left
    ·simp only [Act.put, xA, xB, xC, i64_w, i32_w]
     rfl
    refine zp 16 (some 28) undef zA44 rfl rfl (Or.inr ⟨by rfl, rfl⟩) ?_ ?_ ?_
    rotate_left
    ·simp only [Act.put, xA, xB, xC, i64_w, i32_w]
     rfl
    refine zp 17 (some 29) undef zA45 rfl rfl (Or.inr ⟨by rfl, rfl⟩) ?_ ?_ ?_
    rotate_left
    ·simp only [Act.put, xA, xB, xC, i64_w, i32_w]
     rfl
    refine zp 18 (some 30) undef zA46 rfl rfl (Or.inr ⟨by rfl, rfl⟩) ?_ ?_ ?_
    rotate_left
    ·simp only [Act.put, xA, xB, xC, i64_w, i32_w]
     rfl
    refine zp 19 (some 31) undef zA47 rfl rfl (Or.inr ⟨by rfl, rfl⟩) ?_ ?_ ?_
    rotate_left
    ·simp only [Act.put, xA, xB, xC, i64_w, i32_w]
     rfl
    refine zp 20 (some 32) undef zA48 rfl rfl (Or.inr ⟨by rfl, rfl⟩) ?_ ?_ ?_
    rotate_left
    ·simp only [Act.put, xA, xB, xC, i64_w, i32_w]
     rfl
    refine zp 21 (some 33) undef zA49 rfl rfl (Or.inr ⟨by rfl, rfl⟩) ?_ ?_ ?_
    rotate_left
    ·simp only [Act.put, xA, xB, xC, i64_w, i32_w]
     rfl
    refine zp 22 (some 34) undef zA50 rfl rfl (Or.inr ⟨by rfl, rfl⟩) ?_ ?_ ?_
    rotate_left
    ·simp only [Act.put, xA, xB, xC, i64_w, i32_w]
     rfl
    refine zp 23 (some 35) ?_ zA51 rfl rfl (Or.inl ⟨by rfl, ?_⟩) ?_ ?_ ?_
    rotate_left
    ·intro w'
     go_simp
     with_reducible rfl
    rotate_left
    ·simp only [Act.put, xA, xB, xC, i64_w, i32_w]
     rfl
    refine done_ (done_of HT_.out (by kernel_rfl)) ?_
    try go_wp2
    go_ret
    exact ⟨zw, zs GE162.out⟩
   subst c6
   have H1 : ((impl_isCoordinate.f ((rd_T35 l0 x7_1).f1)).bind fun t164 => (if t164 = true then (if x7_1 > 0 then (if 0 ≤ (wrap64 (x7_1 - 1)) then (if (wrap64 (x7_1 - 1)) < (l0.length : Int) then ((impl_compareCells.f ((rd_T35 l0 (wrap64 (x7_1 - 1))).f0) ((rd_T35 l0 (wrap64 (x7_1 - 1))).f1) ((rd_T35 l0 x7_1).f0) ((rd_T35 l0 x7_1).f1)).bind fun t166 => (if t166 ≥ 0 then (some false) else (impl_IsShape.l0 k1 l0 l0 (l0.length : Int) (wrap64 (x7_1 + 1))))) else (none)) else (none)) else (impl_IsShape.l0 k1 l0 l0 (l0.length : Int) (wrap64 (x7_1 + 1)))) else (some false))) = some r := by rw [if_pos rfl] at H; exact H
   clear H
   have H := H1
   clear H1
   replace H := Option.bind_eq_some_iff.mp H
   obtain ⟨t164, A70, H⟩ := H
   replace H : (if t164 = true then (if x7_1 > 0 then (if 0 ≤ (wrap64 (x7_1 - 1)) then (if (wrap64 (x7_1 - 1)) < (l0.length : Int) then ((impl_compareCells.f ((rd_T35 l0 (wrap64 (x7_1 - 1))).f0) ((rd_T35 l0 (wrap64 (x7_1 - 1))).f1) ((rd_T35 l0 x7_1).f0) ((rd_T35 l0 x7_1).f1)).bind fun t166 => (if t166 ≥ 0 then (some false) else (impl_IsShape.l0 k1 l0 l0 (l0.length : Int) (wrap64 (x7_1 + 1))))) else (none)) else (none)) else (impl_IsShape.l0 k1 l0 l0 (l0.length : Int) (wrap64 (x7_1 + 1)))) else (some false)) = some r := H
   have A7 := aM A70
   clear A70
   by_cases c8 : t164 = true
   rotate_left
   ·replace c8 := Bool.eq_false_iff.mpr c8
    subst c8
    have H1 : (some false) = some r := by rw [if_neg (show ¬ (false = true) by decide)] at H; exact H
    clear H
    have H := H1
    clear H1
    obtain rfl := Option.some.inj H
    have p161 : 0 ≤ (x7_1 : Int) := of_decide_eq_true za
    have q161 : x7_1 < (l0.length : Int) := of_decide_eq_true za
    obtain ⟨ad161, e161, hx161_0, hx161_1⟩ := at_T35 HR0.out x7_1 p161 q161
    cases e161
    replace hx161_0 := zk HB.out hx161_0
    replace hx161_1 := zk HB.out hx161_1
    replace p161 := eq_true p161
    replace q161 := eq_true q161
    try go_wp2_with (first | ((with_reducible refine gate_dst (N := 4) rfl ?_); (try (refine gate_guard (by rfl) ?_; dsimp only)); refine zx 4 #[.int .i64 0, .int .i64 0] 35 ?_; intro gb162 hg w29 hbox hb; have n0_ := aM (below_step zb hb); have n1_ := aM (hbox); have n2_ := aM ((ze : w.heap.size ≤ gb162)); have n3_ := aM ((ze : w.heap.size ≤ gb162)); clear HB; have HB := n0_; have BK162 := n1_; have GW162 := n2_; have GE162 := n3_; clear n0_ n1_ n2_ n3_ hb hbox hg; have hcz30_0 : w29.cell? ⟨gb162, 0, none⟩ = some (.int .i64 0) := (blk_cell BK162.out 0).trans rfl; have hcz30_1 : w29.cell? ⟨gb162, 1, none⟩ = some (.int .i64 0) := (blk_cell BK162.out 1).trans rfl; have hfz30_0 := blk_frozen BK162.out 0; have hfz30_1 := blk_frozen BK162.out 1))
    have n0_ : Aside0 (((w29.setCell ⟨gb162, 0, none⟩ (.int .i64 ((rd_T35 l0 x7_1).f0))).setCell ⟨gb162, 1, none⟩ (.int .i64 ((rd_T35 l0 x7_1).f1))).heap[gb162]? = some (.cells #[.int .i64 ((rd_T35 l0 x7_1).f0), .int .i64 ((rd_T35 l0 x7_1).f1)] 35 (0, 0))) := ⟨by (with_reducible repeat (first | refine blk_drewN ?_ _ | refine blk_drew ?_ | refine blk_alloc ?_ _)); refine blk_put (cs := #[.int .i64 ((rd_T35 l0 x7_1).f0), .int .i64 0]) ?_ 1 _ rfl; (with_reducible repeat (first | refine blk_drewN ?_ _ | refine blk_drew ?_ | refine blk_alloc ?_ _)); refine blk_put (cs := #[.int .i64 0, .int .i64 0]) ?_ 0 _ rfl; (with_reducible repeat (first | refine blk_drewN ?_ _ | refine blk_drew ?_ | refine blk_alloc ?_ _)); exact BK162.out⟩
    have n1_ : Aside0 (Below w.heap.size w ((w29.setCell ⟨gb162, 0, none⟩ (.int .i64 ((rd_T35 l0 x7_1).f0))).setCell ⟨gb162, 1, none⟩ (.int .i64 ((rd_T35 l0 x7_1).f1)))) := ⟨zs GE162.out⟩
    (try clear BK162)
    (try clear HB)
    generalize ((w29.setCell ⟨gb162, 0, none⟩ (.int .i64 ((rd_T35 l0 x7_1).f0))).setCell ⟨gb162, 1, none⟩ (.int .i64 ((rd_T35 l0 x7_1).f1))) = w31 at n0_ n1_ ⊢
    have BK162 := n0_
    have HB := n1_
    clear n0_ n1_
    have n0_ := aM (blk_drew BK162.out)
    have n1_ := aM (below_drew1 HB.out)
    clear BK162
    clear HB
    have BK162 := n0_
    have HB := n1_
    clear n0_ n1_
    refine start_ (n := 24) (S := fun w' => w'.cell? ⟨gb162, 0, none⟩ = some (.int .i64 ((rd_T35 l0 x7_1).f0)) ∧ w'.cell? ⟨gb162, 1, none⟩ = some (.int .i64 ((rd_T35 l0 x7_1).f1))) (ds := []) zA27 (by kernel_rfl) rfl rfl ⟨(blk_cell BK162.out 0).trans rfl, (blk_cell BK162.out 1).trans rfl⟩ (fun hHeld => ?_); refine with_tabW impl_IsShape.tab4 impl_IsShape.bits4 (fun HT_ HW_ => ?_)
    generalize w31.drew = w32 at BK162 HB hHeld ⊢
    refine zp 0 (some 12) ?_ zA28 rfl rfl (Or.inl ⟨by rfl, ?_⟩) ?_ ?_ ?_
    rotate_left
    ·intro w'
     go_simp
     with_reducible rfl
    rotate_left
    ·simp only [Act.put, xA, xB, xC, i64_w, i32_w]
     rfl
    refine zu 1 (some 13) ?_ zA29 rfl rfl (Or.inl ⟨by rfl, ?_⟩) hHeld ?_ ?_ ?_
    rotate_left
    ·rintro w' ⟨s0, s1⟩
     go_simp
     with_reducible rfl
    rotate_left
    ·simp only [Act.put, xA, xB, xC, i64_w, i32_w]
     rfl
    refine one_ (i := 2) (N := some 14) zA30 rfl rfl (one_of HT_.out (by kernel_rfl)) (by decide) (fun K hK => ?_)
    refine goes_ Try.func30 (by kernel_rfl) rfl #[.int .i64 ((rd_T35 l0 x7_1).f0)] (by rfl) rfl rfl zm ?_
    with_reducible refine (impl_isCoordinate.calls ((rd_T35 l0 x7_1).f0) true _ A5.out).mono ?_
    rintro e w' ⟨rfl, ⟨nd, rfl⟩⟩
    refine ⟨_, rfl, ?_⟩
    refine hK.out _ _ ⟨(blk_cell BK162.out 0).trans rfl, (blk_cell BK162.out 1).trans rfl⟩ (fun hHeld => ?_)
    clear hK K
    refine norm_ (a' := ?_) ?_ ?_
    rotate_left
    ·show Act.put _ (some 14) _ = _
     simp only [Act.put, xA, xB, xC, i64_w, i32_w]
     rfl
    refine zp 3 (some 15) ?_ zA31 rfl rfl (Or.inl ⟨by rfl, ?_⟩) ?_ ?_ ?_
    rotate_left
    ·intro w'
     go_simp
     with_reducible rfl
    rotate_left
    ·simp only [Act.put, xA, xB, xC, i64_w, i32_w]
     rfl
    refine zp 4 (some 16) ?_ zA32 rfl rfl (Or.inl ⟨by rfl, ?_⟩) ?_ ?_ ?_
    rotate_left
    ·intro w'
     go_simp
     with_reducible rfl
    rotate_left
    ·simp only [Act.put, xA, xB, xC, i64_w, i32_w]
     rfl
    refine zp 5 (some 17) ?_ zA33 rfl rfl (Or.inl ⟨by rfl, ?_⟩) ?_ ?_ ?_
    rotate_left
    ·intro w'
     go_simp
     with_reducible rfl
    rotate_left
    ·simp only [Act.put, xA, xB, xC, i64_w, i32_w]
     rfl
    refine zu 6 (some 18) ?_ zA34 rfl rfl (Or.inl ⟨by rfl, ?_⟩) hHeld ?_ ?_ ?_
    rotate_left
    ·rintro w' ⟨s0, s1⟩
     go_simp
     with_reducible rfl
    rotate_left
    ·simp only [Act.put, xA, xB, xC, i64_w, i32_w]
     rfl
    refine one_ (i := 7) (N := some 19) zA35 rfl rfl (one_of HT_.out (by kernel_rfl)) (by decide) (fun K hK => ?_)
    refine goes_ Try.func30 (by kernel_rfl) rfl #[.int .i64 ((rd_T35 l0 x7_1).f1)] (by rfl) rfl rfl zm ?_
    with_reducible refine (impl_isCoordinate.calls ((rd_T35 l0 x7_1).f1) false _ A7.out).mono ?_
    rintro e w' ⟨rfl, ⟨nd, rfl⟩⟩
    refine ⟨_, rfl, ?_⟩
    refine hK.out _ _ ⟨(blk_cell BK162.out 0).trans rfl, (blk_cell BK162.out 1).trans rfl⟩ (fun hHeld => ?_)
    clear hK K
    refine norm_ (a' := ?_) ?_ ?_
    rotate_left
    ·show Act.put _ (some 19) _ = _
     simp only [Act.put, xA, xB, xC, i64_w, i32_w]
     rfl
    refine zp 8 (some 20) ?_ zA36 rfl rfl (Or.inl ⟨by rfl, ?_⟩) ?_ ?_ ?_
    rotate_left
    ·intro w'
     go_simp
     with_reducible rfl
    rotate_left
    ·simp only [Act.put, xA, xB, xC, i64_w, i32_w]
     rfl
    refine zp 9 (some 21) ?_ zA37 rfl rfl (Or.inl ⟨by rfl, ?_⟩) ?_ ?_ ?_
    rotate_left
    ·intro w'
     go_simp
     with_reducible rfl
    rotate_left
    ·simp only [Act.put, xA, xB, xC, i64_w, i32_w]
     rfl
    refine zp 10 (some 22) ?_ zA38 rfl rfl (Or.inl ⟨by rfl, ?_⟩) ?_ ?_ ?_
    rotate_left
    ·intro w'
     go_simp
     with_reducible rfl
    rotate_left
    ·simp only [Act.put, xA, xB, xC, i64_w, i32_w]
     rfl
    refine zp 11 (some 23) undef zA39 rfl rfl (Or.inr ⟨by rfl, rfl⟩) ?_ ?_ ?_
    rotate_left
    ·simp only [Act.put, xA, xB, xC, i64_w, i32_w]
     rfl
    refine zp 12 (some 24) undef zA40 rfl rfl (Or.inr ⟨by rfl, rfl⟩) ?_ ?_ ?_
    rotate_left
    ·simp only [Act.put, xA, xB, xC, i64_w, i32_w]
     rfl
    refine zp 13 (some 25) undef zA41 rfl rfl (Or.inr ⟨by rfl, rfl⟩) ?_ ?_ ?_
    rotate_left
    ·simp only [Act.put, xA, xB, xC, i64_w, i32_w]
     rfl
    refine zp 14 (some 26) undef zA42 rfl rfl (Or.inr ⟨by rfl, rfl⟩) ?_ ?_ ?_
    rotate_left
    ·simp only [Act.put, xA, xB, xC, i64_w, i32_w]
     rfl
    refine zp 15 (some 27) undef zA43 rfl rfl (Or.inr ⟨by rfl, rfl⟩) ?_ ?_ ?_
    rotate_left
    ·simp only [Act.put, xA, xB, xC, i64_w, i32_w]
     rfl
    refine zp 16 (some 28) undef zA44 rfl rfl (Or.inr ⟨by rfl, rfl⟩) ?_ ?_ ?_
    rotate_left
    ·simp only [Act.put, xA, xB, xC, i64_w, i32_w]
     rfl
    refine zp 17 (some 29) undef zA45 rfl rfl (Or.inr ⟨by rfl, rfl⟩) ?_ ?_ ?_
    rotate_left
    ·simp only [Act.put, xA, xB, xC, i64_w, i32_w]
     rfl
    refine zp 18 (some 30) undef zA46 rfl rfl (Or.inr ⟨by rfl, rfl⟩) ?_ ?_ ?_
    rotate_left
    ·simp only [Act.put, xA, xB, xC, i64_w, i32_w]
     rfl
    refine zp 19 (some 31) undef zA47 rfl rfl (Or.inr ⟨by rfl, rfl⟩) ?_ ?_ ?_
    rotate_left
    ·simp only [Act.put, xA, xB, xC, i64_w, i32_w]
     rfl
    refine zp 20 (some 32) undef zA48 rfl rfl (Or.inr ⟨by rfl, rfl⟩) ?_ ?_ ?_
    rotate_left
    ·simp only [Act.put, xA, xB, xC, i64_w, i32_w]
     rfl
    refine zp 21 (some 33) undef zA49 rfl rfl (Or.inr ⟨by rfl, rfl⟩) ?_ ?_ ?_
    rotate_left
    ·simp only [Act.put, xA, xB, xC, i64_w, i32_w]
     rfl
    refine zp 22 (some 34) undef zA50 rfl rfl (Or.inr ⟨by rfl, rfl⟩) ?_ ?_ ?_
    rotate_left
    ·simp only [Act.put, xA, xB, xC, i64_w, i32_w]
     rfl
    refine zp 23 (some 35) ?_ zA51 rfl rfl (Or.inl ⟨by rfl, ?_⟩) ?_ ?_ ?_
    rotate_left
    ·intro w'
     go_simp
     with_reducible rfl
    rotate_left
    ·simp only [Act.put, xA, xB, xC, i64_w, i32_w]
     rfl
    refine done_ (done_of HT_.out (by kernel_rfl)) ?_
    try go_wp2
    go_ret
    exact ⟨zw, zs GE162.out⟩
   subst c8
   have H1 : (if x7_1 > 0 then (if 0 ≤ (wrap64 (x7_1 - 1)) then (if (wrap64 (x7_1 - 1)) < (l0.length : Int) then ((impl_compareCells.f ((rd_T35 l0 (wrap64 (x7_1 - 1))).f0) ((rd_T35 l0 (wrap64 (x7_1 - 1))).f1) ((rd_T35 l0 x7_1).f0) ((rd_T35 l0 x7_1).f1)).bind fun t166 => (if t166 ≥ 0 then (some false) else (impl_IsShape.l0 k1 l0 l0 (l0.length : Int) (wrap64 (x7_1 + 1))))) else (none)) else (none)) else (impl_IsShape.l0 k1 l0 l0 (l0.length : Int) (wrap64 (x7_1 + 1)))) = some r := by rw [if_pos rfl] at H; exact H
   clear H
   have H := H1
   clear H1
   by_cases c9 : x7_1 > 0
   rotate_left
   ·rw [if_neg c9] at H
    have c9b0 : decide (0 < x7_1) = false := decide_eq_false c9
    clear c9
    have H' := aM H
    clear H
    have p161 : 0 ≤ (x7_1 : Int) := of_decide_eq_true za
    have q161 : x7_1 < (l0.length : Int) := of_decide_eq_true za
    obtain ⟨ad161, e161, hx161_0, hx161_1⟩ := at_T35 HR0.out x7_1 p161 q161
    cases e161
    replace hx161_0 := zk HB.out hx161_0
    replace hx161_1 := zk HB.out hx161_1
    replace p161 := eq_true p161
    replace q161 := eq_true q161
    try go_wp2_with (first | ((with_reducible refine gate_dst (N := 4) rfl ?_); (try (refine gate_guard (by rfl) ?_; dsimp only)); refine zx 4 #[.int .i64 0, .int .i64 0] 35 ?_; intro gb162 hg w25 hbox hb; have n0_ := aM (below_step zb hb); have n1_ := aM (hbox); have n2_ := aM ((ze : w.heap.size ≤ gb162)); have n3_ := aM ((ze : w.heap.size ≤ gb162)); clear HB; have HB := n0_; have BK162 := n1_; have GW162 := n2_; have GE162 := n3_; clear n0_ n1_ n2_ n3_ hb hbox hg; have hcz26_0 : w25.cell? ⟨gb162, 0, none⟩ = some (.int .i64 0) := (blk_cell BK162.out 0).trans rfl; have hcz26_1 : w25.cell? ⟨gb162, 1, none⟩ = some (.int .i64 0) := (blk_cell BK162.out 1).trans rfl; have hfz26_0 := blk_frozen BK162.out 0; have hfz26_1 := blk_frozen BK162.out 1))
    have n0_ : Aside0 (((w25.setCell ⟨gb162, 0, none⟩ (.int .i64 ((rd_T35 l0 x7_1).f0))).setCell ⟨gb162, 1, none⟩ (.int .i64 ((rd_T35 l0 x7_1).f1))).heap[gb162]? = some (.cells #[.int .i64 ((rd_T35 l0 x7_1).f0), .int .i64 ((rd_T35 l0 x7_1).f1)] 35 (0, 0))) := ⟨by (with_reducible repeat (first | refine blk_drewN ?_ _ | refine blk_drew ?_ | refine blk_alloc ?_ _)); refine blk_put (cs := #[.int .i64 ((rd_T35 l0 x7_1).f0), .int .i64 0]) ?_ 1 _ rfl; (with_reducible repeat (first | refine blk_drewN ?_ _ | refine blk_drew ?_ | refine blk_alloc ?_ _)); refine blk_put (cs := #[.int .i64 0, .int .i64 0]) ?_ 0 _ rfl; (with_reducible repeat (first | refine blk_drewN ?_ _ | refine blk_drew ?_ | refine blk_alloc ?_ _)); exact BK162.out⟩
    have n1_ : Aside0 (Below w.heap.size w ((w25.setCell ⟨gb162, 0, none⟩ (.int .i64 ((rd_T35 l0 x7_1).f0))).setCell ⟨gb162, 1, none⟩ (.int .i64 ((rd_T35 l0 x7_1).f1)))) := ⟨zs GE162.out⟩
    (try clear BK162)
    (try clear HB)
    generalize ((w25.setCell ⟨gb162, 0, none⟩ (.int .i64 ((rd_T35 l0 x7_1).f0))).setCell ⟨gb162, 1, none⟩ (.int .i64 ((rd_T35 l0 x7_1).f1))) = w27 at n0_ n1_ ⊢
    have BK162 := n0_
    have HB := n1_
    clear n0_ n1_
    have n0_ := aM (blk_drew BK162.out)
    have n1_ := aM (below_drew1 HB.out)
    clear BK162
    clear HB
    have BK162 := n0_
    have HB := n1_
    clear n0_ n1_
    refine start_ (n := 24) (S := fun w' => w'.cell? ⟨gb162, 0, none⟩ = some (.int .i64 ((rd_T35 l0 x7_1).f0)) ∧ w'.cell? ⟨gb162, 1, none⟩ = some (.int .i64 ((rd_T35 l0 x7_1).f1))) (ds := []) zA27 (by kernel_rfl) rfl rfl ⟨(blk_cell BK162.out 0).trans rfl, (blk_cell BK162.out 1).trans rfl⟩ (fun hHeld => ?_); refine with_tabW impl_IsShape.tab4 impl_IsShape.bits4 (fun HT_ HW_ => ?_)
    generalize w27.drew = w28 at BK162 HB hHeld ⊢
    refine zp 0 (some 12) ?_ zA28 rfl rfl (Or.inl ⟨by rfl, ?_⟩) ?_ ?_ ?_
    rotate_left
    ·intro w'
     go_simp
     with_reducible rfl
    rotate_left
    ·simp only [Act.put, xA, xB, xC, i64_w, i32_w]
     rfl
    refine zu 1 (some 13) ?_ zA29 rfl rfl (Or.inl ⟨by rfl, ?_⟩) hHeld ?_ ?_ ?_
    rotate_left
    ·rintro w' ⟨s0, s1⟩
     go_simp
     with_reducible rfl
    rotate_left
    ·simp only [Act.put, xA, xB, xC, i64_w, i32_w]
     rfl
    refine one_ (i := 2) (N := some 14) zA30 rfl rfl (one_of HT_.out (by kernel_rfl)) (by decide) (fun K hK => ?_)
    refine goes_ Try.func30 (by kernel_rfl) rfl #[.int .i64 ((rd_T35 l0 x7_1).f0)] (by rfl) rfl rfl zm ?_
    with_reducible refine (impl_isCoordinate.calls ((rd_T35 l0 x7_1).f0) true _ A5.out).mono ?_
    rintro e w' ⟨rfl, ⟨nd, rfl⟩⟩
    refine ⟨_, rfl, ?_⟩
    refine hK.out _ _ ⟨(blk_cell BK162.out 0).trans rfl, (blk_cell BK162.out 1).trans rfl⟩ (fun hHeld => ?_)
    clear hK K
    refine norm_ (a' := ?_) ?_ ?_
    rotate_left
    ·show Act.put _ (some 14) _ = _
     simp only [Act.put, xA, xB, xC, i64_w, i32_w]
     rfl
    refine zp 3 (some 15) ?_ zA31 rfl rfl (Or.inl ⟨by rfl, ?_⟩) ?_ ?_ ?_
    rotate_left
    ·intro w'
     go_simp
     with_reducible rfl
    rotate_left
    ·simp only [Act.put, xA, xB, xC, i64_w, i32_w]
     rfl
    refine zp 4 (some 16) ?_ zA32 rfl rfl (Or.inl ⟨by rfl, ?_⟩) ?_ ?_ ?_
    rotate_left
    ·intro w'
     go_simp
     with_reducible rfl
    rotate_left
    ·simp only [Act.put, xA, xB, xC, i64_w, i32_w]
     rfl
    refine zp 5 (some 17) ?_ zA33 rfl rfl (Or.inl ⟨by rfl, ?_⟩) ?_ ?_ ?_
    rotate_left
    ·intro w'
     go_simp
     with_reducible rfl
    rotate_left
    ·simp only [Act.put, xA, xB, xC, i64_w, i32_w]
     rfl
    refine zu 6 (some 18) ?_ zA34 rfl rfl (Or.inl ⟨by rfl, ?_⟩) hHeld ?_ ?_ ?_
    rotate_left
    ·rintro w' ⟨s0, s1⟩
     go_simp
     with_reducible rfl
    rotate_left
    ·simp only [Act.put, xA, xB, xC, i64_w, i32_w]
     rfl
    refine one_ (i := 7) (N := some 19) zA35 rfl rfl (one_of HT_.out (by kernel_rfl)) (by decide) (fun K hK => ?_)
    refine goes_ Try.func30 (by kernel_rfl) rfl #[.int .i64 ((rd_T35 l0 x7_1).f1)] (by rfl) rfl rfl zm ?_
    with_reducible refine (impl_isCoordinate.calls ((rd_T35 l0 x7_1).f1) true _ A7.out).mono ?_
    rintro e w' ⟨rfl, ⟨nd, rfl⟩⟩
    refine ⟨_, rfl, ?_⟩
    refine hK.out _ _ ⟨(blk_cell BK162.out 0).trans rfl, (blk_cell BK162.out 1).trans rfl⟩ (fun hHeld => ?_)
    clear hK K
    refine norm_ (a' := ?_) ?_ ?_
    rotate_left
    ·show Act.put _ (some 19) _ = _
     simp only [Act.put, xA, xB, xC, i64_w, i32_w]
     rfl
    refine zp 8 (some 20) ?_ zA36 rfl rfl (Or.inl ⟨by rfl, ?_⟩) ?_ ?_ ?_
    rotate_left
    ·intro w'
     go_simp
     with_reducible rfl
    rotate_left
    ·simp only [Act.put, xA, xB, xC, i64_w, i32_w]
     rfl
    refine zp 9 (some 21) ?_ zA37 rfl rfl (Or.inl ⟨by rfl, ?_⟩) ?_ ?_ ?_
    rotate_left
    ·intro w'
     go_simp
     with_reducible rfl
    rotate_left
    ·simp only [Act.put, xA, xB, xC, i64_w, i32_w]
     rfl
    refine zp 10 (some 22) ?_ zA38 rfl rfl (Or.inl ⟨by rfl, ?_⟩) ?_ ?_ ?_
    rotate_left
    ·intro w'
     go_simp
     with_reducible rfl
    rotate_left
    ·simp only [Act.put, xA, xB, xC, i64_w, i32_w]
     rfl
    refine zp 11 (some 23) ?_ zA39 rfl rfl (Or.inl ⟨by rfl, ?_⟩) ?_ ?_ ?_
    rotate_left
    ·intro w'
     go_simp
     with_reducible rfl
    rotate_left
    ·simp only [Act.put, xA, xB, xC, i64_w, i32_w]
     rfl
    refine zp 12 (some 24) ?_ zA40 rfl rfl (Or.inl ⟨by rfl, ?_⟩) ?_ ?_ ?_
    rotate_left
    ·intro w'
     go_simp
     with_reducible rfl
    rotate_left
    ·simp only [Act.put, xA, xB, xC, i64_w, i32_w]
     rfl
    refine zp 13 (some 25) ?_ zA41 rfl rfl (Or.inl ⟨by rfl, ?_⟩) ?_ ?_ ?_
    rotate_left
    ·intro w'
     go_simp
     with_reducible rfl
    rotate_left
    ·simp only [Act.put, xA, xB, xC, i64_w, i32_w]
     rfl
    refine zp 14 (some 26) undef zA42 rfl rfl (Or.inr ⟨by rfl, rfl⟩) ?_ ?_ ?_
    rotate_left
    ·simp only [Act.put, xA, xB, xC, i64_w, i32_w]
     rfl
    refine zp 15 (some 27) undef zA43 rfl rfl (Or.inr ⟨by rfl, rfl⟩) ?_ ?_ ?_
    rotate_left
    ·simp only [Act.put, xA, xB, xC, i64_w, i32_w]
     rfl
    refine zp 16 (some 28) undef zA44 rfl rfl (Or.inr ⟨by rfl, rfl⟩) ?_ ?_ ?_
    rotate_left
    ·simp only [Act.put, xA, xB, xC, i64_w, i32_w]
     rfl
    refine zp 17 (some 29) undef zA45 rfl rfl (Or.inr ⟨by rfl, rfl⟩) ?_ ?_ ?_
    rotate_left
    ·simp only [Act.put, xA, xB, xC, i64_w, i32_w]
     rfl
    refine zp 18 (some 30) undef zA46 rfl rfl (Or.inr ⟨by rfl, rfl⟩) ?_ ?_ ?_
    rotate_left
    ·simp only [Act.put, xA, xB, xC, i64_w, i32_w]
     rfl
    refine zp 19 (some 31) undef zA47 rfl rfl (Or.inr ⟨by rfl, rfl⟩) ?_ ?_ ?_
    rotate_left
    ·simp only [Act.put, xA, xB, xC, i64_w, i32_w]
     rfl
    refine zp 20 (some 32) undef zA48 rfl rfl (Or.inr ⟨by rfl, rfl⟩) ?_ ?_ ?_
    rotate_left
    ·simp only [Act.put, xA, xB, xC, i64_w, i32_w]
     rfl
    refine zp 21 (some 33) undef zA49 rfl rfl (Or.inr ⟨by rfl, rfl⟩) ?_ ?_ ?_
    rotate_left
    ·simp only [Act.put, xA, xB, xC, i64_w, i32_w]
     rfl
    refine zp 22 (some 34) ?_ zA50 rfl rfl (Or.inl ⟨by rfl, ?_⟩) ?_ ?_ ?_
    rotate_left
    ·intro w'
     go_simp
     with_reducible rfl
    rotate_left
    ·simp only [Act.put, xA, xB, xC, i64_w, i32_w]
     rfl
    refine zp 23 (some 35) ?_ zA51 rfl rfl (Or.inl ⟨by rfl, ?_⟩) ?_ ?_ ?_
    rotate_left
    ·intro w'
     go_simp
     with_reducible rfl
    rotate_left
    ·simp only [Act.put, xA, xB, xC, i64_w, i32_w]
     rfl
    refine done_ (done_of HT_.out (by kernel_rfl)) ?_
    try go_wp2
    go_roundg k1
    case measure => have := HK1.out; omega
    case rel => exact ⟨(wrap64 (x7_1 + 1)), zr, H', ⟨by have := HK1.out; omega⟩, ⟨zs GE162.out⟩⟩
   rw [if_pos c9] at H
   have c9b0 : decide (0 < x7_1) = true := decide_eq_true c9
   clear c9
   obtain ⟨ji10, hji10⟩ : ∃ j_ : Int, (wrap64 (x7_1 - 1)) = j_ := ⟨_, rfl⟩
   replace H : (if 0 ≤ (ji10) then (if (ji10) < (l0.length : Int) then ((impl_compareCells.f ((rd_T35 l0 (ji10)).f0) ((rd_T35 l0 (ji10)).f1) ((rd_T35 l0 x7_1).f0) ((rd_T35 l0 x7_1).f1)).bind fun t166 => (if t166 ≥ 0 then (some false) else (impl_IsShape.l0 k1 l0 l0 (l0.length : Int) (wrap64 (x7_1 + 1))))) else (none)) else (none)) = some r := by first | (rw [hji10] at H; exact H) | (simp only [hji10] at H ⊢; exact H)
   (try rw [hji10] at A5)
   (try rw [hji10] at A7)
   have hji10w : (IntKind.i64.wrap (x7_1 - 1)) = ji10 := (i64_w _).trans hji10
   by_cases c11 : 0 ≤ (ji10)
   rotate_left
   ·rw [if_neg c11] at H
    exact absurd H (by simp)
   rw [if_pos c11] at H
   have c11b0 : decide (0 ≤ (ji10)) = true := decide_eq_true c11
   clear c11
   by_cases c12 : (ji10) < (l0.length : Int)
   rotate_left
   ·rw [if_neg c12] at H
    exact absurd H (by simp)
   rw [if_pos c12] at H
   have c12b0 : decide ((ji10) < (l0.length : Int)) = true := decide_eq_true c12
   clear c12
   replace H := Option.bind_eq_some_iff.mp H
   obtain ⟨t166, A130, H⟩ := H
   replace H : (if t166 ≥ 0 then (some false) else (impl_IsShape.l0 k1 l0 l0 (l0.length : Int) (wrap64 (x7_1 + 1)))) = some r := H
   have A13 := aM A130
   clear A130
   by_cases c14 : t166 ≥ 0
   ·rw [if_pos c14] at H
    have c14b0 : decide (0 ≤ t166) = true := decide_eq_true c14
    clear c14
    obtain rfl := Option.some.inj H
    have p161 : 0 ≤ (x7_1 : Int) := of_decide_eq_true za
    have q161 : x7_1 < (l0.length : Int) := of_decide_eq_true za
    obtain ⟨ad161, e161, hx161_0, hx161_1⟩ := at_T35 HR0.out x7_1 p161 q161
    cases e161
    replace hx161_0 := zk HB.out hx161_0
    replace hx161_1 := zk HB.out hx161_1
    replace p161 := eq_true p161
    replace q161 := eq_true q161
    try go_wp2_with (first | ((with_reducible refine gate_dst (N := 4) rfl ?_); (try (refine gate_guard (by rfl) ?_; dsimp only)); refine zx 4 #[.int .i64 0, .int .i64 0] 35 ?_; intro gb162 hg w15 hbox hb; have n0_ := aM (below_step zb hb); have n1_ := aM (hbox); have n2_ := aM ((ze : w.heap.size ≤ gb162)); have n3_ := aM ((ze : w.heap.size ≤ gb162)); clear HB; have HB := n0_; have BK162 := n1_; have GW162 := n2_; have GE162 := n3_; clear n0_ n1_ n2_ n3_ hb hbox hg; have hcz16_0 : w15.cell? ⟨gb162, 0, none⟩ = some (.int .i64 0) := (blk_cell BK162.out 0).trans rfl; have hcz16_1 : w15.cell? ⟨gb162, 1, none⟩ = some (.int .i64 0) := (blk_cell BK162.out 1).trans rfl; have hfz16_0 := blk_frozen BK162.out 0; have hfz16_1 := blk_frozen BK162.out 1))
    have n0_ : Aside0 (((w15.setCell ⟨gb162, 0, none⟩ (.int .i64 ((rd_T35 l0 x7_1).f0))).setCell ⟨gb162, 1, none⟩ (.int .i64 ((rd_T35 l0 x7_1).f1))).heap[gb162]? = some (.cells #[.int .i64 ((rd_T35 l0 x7_1).f0), .int .i64 ((rd_T35 l0 x7_1).f1)] 35 (0, 0))) := ⟨by (with_reducible repeat (first | refine blk_drewN ?_ _ | refine blk_drew ?_ | refine blk_alloc ?_ _)); refine blk_put (cs := #[.int .i64 ((rd_T35 l0 x7_1).f0), .int .i64 0]) ?_ 1 _ rfl; (with_reducible repeat (first | refine blk_drewN ?_ _ | refine blk_drew ?_ | refine blk_alloc ?_ _)); refine blk_put (cs := #[.int .i64 0, .int .i64 0]) ?_ 0 _ rfl; (with_reducible repeat (first | refine blk_drewN ?_ _ | refine blk_drew ?_ | refine blk_alloc ?_ _)); exact BK162.out⟩
    have n1_ : Aside0 (Below w.heap.size w ((w15.setCell ⟨gb162, 0, none⟩ (.int .i64 ((rd_T35 l0 x7_1).f0))).setCell ⟨gb162, 1, none⟩ (.int .i64 ((rd_T35 l0 x7_1).f1)))) := ⟨zs GE162.out⟩
    (try clear BK162)
    (try clear HB)
    generalize ((w15.setCell ⟨gb162, 0, none⟩ (.int .i64 ((rd_T35 l0 x7_1).f0))).setCell ⟨gb162, 1, none⟩ (.int .i64 ((rd_T35 l0 x7_1).f1))) = w17 at n0_ n1_ ⊢
    have BK162 := n0_
    have HB := n1_
    clear n0_ n1_
    have n0_ := aM (blk_drew BK162.out)
    have n1_ := aM (below_drew1 HB.out)
    clear BK162
    clear HB
    have BK162 := n0_
    have HB := n1_
    clear n0_ n1_
    have p165 : 0 ≤ ((ji10) : Int) := of_decide_eq_true za
    have q165 : (ji10) < (l0.length : Int) := of_decide_eq_true za
    obtain ⟨ad165, e165, hx165_0, hx165_1⟩ := at_T35 HR0.out (ji10) p165 q165
    have hw165_1 := hx165_1
    have hw165_0 := hx165_0
    obtain rfl : ad161 = ad165 := (by injection e165)
    replace hx165_0 := zk HB.out hx165_0
    replace hx165_1 := zk HB.out hx165_1
    replace p165 := eq_true p165
    replace q165 := eq_true q165
    refine start_ (n := 24) (S := fun w' => w'.cell? ⟨gb162, 0, none⟩ = some (.int .i64 ((rd_T35 l0 x7_1).f0)) ∧ w'.cell? ⟨gb162, 1, none⟩ = some (.int .i64 ((rd_T35 l0 x7_1).f1)) ∧ w'.cell? (ad161.add (((ji10)).toNat * 2)) = some (.int .i64 ((rd_T35 l0 (ji10)).f0)) ∧ w'.cell? ⟨(ad161.add (((ji10)).toNat * 2)).block, (ad161.add (((ji10)).toNat * 2)).off + 1, none⟩ = some (.int .i64 ((rd_T35 l0 (ji10)).f1))) (ds := []) zA27 (by kernel_rfl) rfl rfl ⟨(blk_cell BK162.out 0).trans rfl, (blk_cell BK162.out 1).trans rfl, (zk HB.out hw165_0), (zk HB.out hw165_1)⟩ (fun hHeld => ?_); refine with_tabW impl_IsShape.tab4 impl_IsShape.bits4 (fun HT_ HW_ => ?_)
    generalize w17.drew = w18 at BK162 HB hx165_0 hx165_1 hHeld ⊢
    refine zp 0 (some 12) ?_ zA28 rfl rfl (Or.inl ⟨by rfl, ?_⟩) ?_ ?_ ?_
    rotate_left
    ·intro w'
     go_simp
     with_reducible rfl
    rotate_left
    ·simp only [Act.put, xA, xB, xC, i64_w, i32_w]
     rfl
    refine zu 1 (some 13) ?_ zA29 rfl rfl (Or.inl ⟨by rfl, ?_⟩) hHeld ?_ ?_ ?_
    rotate_left
    ·rintro w' ⟨s0, s1, s2, s3⟩
     go_simp
     with_reducible rfl
    rotate_left
    ·simp only [Act.put, xA, xB, xC, i64_w, i32_w]
     rfl
    refine one_ (i := 2) (N := some 14) zA30 rfl rfl (one_of HT_.out (by kernel_rfl)) (by decide) (fun K hK => ?_)
    refine goes_ Try.func30 (by kernel_rfl) rfl #[.int .i64 ((rd_T35 l0 x7_1).f0)] (by rfl) rfl rfl zm ?_
    with_reducible refine (impl_isCoordinate.calls ((rd_T35 l0 x7_1).f0) true _ A5.out).mono ?_
    rintro e w' ⟨rfl, ⟨nd, rfl⟩⟩
    refine ⟨_, rfl, ?_⟩
    refine hK.out _ _ ⟨(blk_cell BK162.out 0).trans rfl, (blk_cell BK162.out 1).trans rfl, (zk HB.out hw165_0), (zk HB.out hw165_1)⟩ (fun hHeld => ?_)
    clear hK K
    refine norm_ (a' := ?_) ?_ ?_
    rotate_left
    ·show Act.put _ (some 14) _ = _
     simp only [Act.put, xA, xB, xC, i64_w, i32_w]
     rfl
    refine zp 3 (some 15) ?_ zA31 rfl rfl (Or.inl ⟨by rfl, ?_⟩) ?_ ?_ ?_
    rotate_left
    ·intro w'
     go_simp
     with_reducible rfl
    rotate_left
    ·simp only [Act.put, xA, xB, xC, i64_w, i32_w]
     rfl
    refine zp 4 (some 16) ?_ zA32 rfl rfl (Or.inl ⟨by rfl, ?_⟩) ?_ ?_ ?_
    rotate_left
    ·intro w'
     go_simp
     with_reducible rfl
    rotate_left
    ·simp only [Act.put, xA, xB, xC, i64_w, i32_w]
     rfl
    refine zp 5 (some 17) ?_ zA33 rfl rfl (Or.inl ⟨by rfl, ?_⟩) ?_ ?_ ?_
    rotate_left
    ·intro w'
     go_simp
     with_reducible rfl
    rotate_left
    ·simp only [Act.put, xA, xB, xC, i64_w, i32_w]
     rfl
    refine zu 6 (some 18) ?_ zA34 rfl rfl (Or.inl ⟨by rfl, ?_⟩) hHeld ?_ ?_ ?_
    rotate_left
    ·rintro w' ⟨s0, s1, s2, s3⟩
     go_simp
     with_reducible rfl
    rotate_left
    ·simp only [Act.put, xA, xB, xC, i64_w, i32_w]
     rfl
    refine one_ (i := 7) (N := some 19) zA35 rfl rfl (one_of HT_.out (by kernel_rfl)) (by decide) (fun K hK => ?_)
    refine goes_ Try.func30 (by kernel_rfl) rfl #[.int .i64 ((rd_T35 l0 x7_1).f1)] (by rfl) rfl rfl zm ?_
    with_reducible refine (impl_isCoordinate.calls ((rd_T35 l0 x7_1).f1) true _ A7.out).mono ?_
    rintro e w' ⟨rfl, ⟨nd, rfl⟩⟩
    refine ⟨_, rfl, ?_⟩
    refine hK.out _ _ ⟨(blk_cell BK162.out 0).trans rfl, (blk_cell BK162.out 1).trans rfl, (zk HB.out hw165_0), (zk HB.out hw165_1)⟩ (fun hHeld => ?_)
    clear hK K
    refine norm_ (a' := ?_) ?_ ?_
    rotate_left
    ·show Act.put _ (some 19) _ = _
     simp only [Act.put, xA, xB, xC, i64_w, i32_w]
     rfl
    refine zp 8 (some 20) ?_ zA36 rfl rfl (Or.inl ⟨by rfl, ?_⟩) ?_ ?_ ?_
    rotate_left
    ·intro w'
     go_simp
     with_reducible rfl
    rotate_left
    ·simp only [Act.put, xA, xB, xC, i64_w, i32_w]
     rfl
    refine zp 9 (some 21) ?_ zA37 rfl rfl (Or.inl ⟨by rfl, ?_⟩) ?_ ?_ ?_
    rotate_left
    ·intro w'
     go_simp
     with_reducible rfl
    rotate_left
    ·simp only [Act.put, xA, xB, xC, i64_w, i32_w]
     rfl
    refine zp 10 (some 22) ?_ zA38 rfl rfl (Or.inl ⟨by rfl, ?_⟩) ?_ ?_ ?_
    rotate_left
    ·intro w'
     go_simp
     with_reducible rfl
    rotate_left
    ·simp only [Act.put, xA, xB, xC, i64_w, i32_w]
     rfl
    refine zp 11 (some 23) ?_ zA39 rfl rfl (Or.inl ⟨by rfl, ?_⟩) ?_ ?_ ?_
    rotate_left
    ·intro w'
     go_simp
     with_reducible rfl
    rotate_left
    ·simp only [Act.put, xA, xB, xC, i64_w, i32_w]
     rfl
    refine zp 12 (some 24) ?_ zA40 rfl rfl (Or.inl ⟨by rfl, ?_⟩) ?_ ?_ ?_
    rotate_left
    ·intro w'
     go_simp
     with_reducible rfl
    rotate_left
    ·simp only [Act.put, xA, xB, xC, i64_w, i32_w]
     rfl
    refine zp 13 (some 25) ?_ zA41 rfl rfl (Or.inl ⟨by rfl, ?_⟩) ?_ ?_ ?_
    rotate_left
    ·intro w'
     go_simp
     with_reducible rfl
    rotate_left
    ·simp only [Act.put, xA, xB, xC, i64_w, i32_w]
     rfl
    refine zp 14 (some 26) ?_ zA42 rfl rfl (Or.inl ⟨by rfl, ?_⟩) ?_ ?_ ?_
    rotate_left
    ·intro w'
     go_simp
     with_reducible rfl
    rotate_left
    ·simp only [Act.put, xA, xB, xC, i64_w, i32_w]
     rfl
    refine zp 15 (some 27) ?_ zA43 rfl rfl (Or.inl ⟨by rfl, ?_⟩) ?_ ?_ ?_
    rotate_left
    ·intro w'
     go_simp
     with_reducible rfl
    rotate_left
    ·simp only [Act.put, xA, xB, xC, i64_w, i32_w]
     rfl
    refine zp 16 (some 28) ?_ zA44 rfl rfl (Or.inl ⟨by rfl, ?_⟩) ?_ ?_ ?_
    rotate_left
    ·intro w'
     go_simp
     with_reducible rfl
    rotate_left
    ·simp only [Act.put, xA, xB, xC, i64_w, i32_w]
     rfl
    refine zp 17 (some 29) ?_ zA45 rfl rfl (Or.inl ⟨by rfl, ?_⟩) ?_ ?_ ?_
    rotate_left
    ·intro w'
     go_simp
     with_reducible rfl
    rotate_left
    ·simp only [Act.put, xA, xB, xC, i64_w, i32_w]
     rfl
    refine zu 18 (some 30) ?_ zA46 rfl rfl (Or.inl ⟨by rfl, ?_⟩) hHeld ?_ ?_ ?_
    rotate_left
    ·rintro w' ⟨s0, s1, s2, s3⟩
     go_simp
     with_reducible rfl
    rotate_left
    ·simp only [Act.put, xA, xB, xC, i64_w, i32_w]
     rfl
    refine zu 19 (some 31) ?_ zA47 rfl rfl (Or.inl ⟨by rfl, ?_⟩) hHeld ?_ ?_ ?_
    rotate_left
    ·rintro w' ⟨s0, s1, s2, s3⟩
     go_simp
     with_reducible rfl
    rotate_left
    ·simp only [Act.put, xA, xB, xC, i64_w, i32_w]
     rfl
    refine one_ (i := 20) (N := some 32) zA48 rfl rfl (one_of HT_.out (by kernel_rfl)) (by decide) (fun K hK => ?_)
    refine goes_ Try.func31 (by kernel_rfl) rfl #[.agg #[.int .i64 ((rd_T35 l0 (ji10)).f0), .int .i64 ((rd_T35 l0 (ji10)).f1)], .agg #[.int .i64 ((rd_T35 l0 x7_1).f0), .int .i64 ((rd_T35 l0 x7_1).f1)]] (by rfl) rfl rfl (by (try simp only [mA, mB, mC]); first | done | (simp only [hji10]; rfl) | rfl | (simp only [lD, lT]; rfl)) ?_
    with_reducible refine (impl_compareCells.calls ((rd_T35 l0 (ji10)).f0) ((rd_T35 l0 (ji10)).f1) ((rd_T35 l0 x7_1).f0) ((rd_T35 l0 x7_1).f1) t166 _ A13.out).mono ?_
    rintro e w19 ⟨rfl, hb⟩
    refine ⟨_, rfl, ?_⟩
    have n0_ := aM (blk_below (g := gb162) (o := .cells #[.int .i64 ((rd_T35 l0 x7_1).f0), .int .i64 ((rd_T35 l0 x7_1).f1)] 35 (0, 0)) (mB_ BK162.out) hb)
    have n1_ := aM (below_step (zs GE162.out) hb)
    clear BK162
    clear HB
    have BK162 := n0_
    have HB := n1_
    clear n0_ n1_
    (try clear hb)
    (try clear hb2)
    (try clear hk)
    (try clear hi)
    refine hK.out _ _ ⟨(blk_cell BK162.out 0).trans rfl, (blk_cell BK162.out 1).trans rfl, (zk HB.out hw165_0), (zk HB.out hw165_1)⟩ (fun hHeld => ?_)
    clear hK K
    refine norm_ (a' := ?_) ?_ ?_
    rotate_left
    ·show Act.put _ (some 32) _ = _
     simp only [Act.put, xA, xB, xC, i64_w, i32_w]
     rfl
    refine zp 21 (some 33) ?_ zA49 rfl rfl (Or.inl ⟨by rfl, ?_⟩) ?_ ?_ ?_
    rotate_left
    ·intro w'
     go_simp
     with_reducible rfl
    rotate_left
    ·simp only [Act.put, xA, xB, xC, i64_w, i32_w]
     rfl
    refine zp 22 (some 34) ?_ zA50 rfl rfl (Or.inl ⟨by rfl, ?_⟩) ?_ ?_ ?_
    rotate_left
    ·intro w'
     go_simp
     with_reducible rfl
    rotate_left
    ·simp only [Act.put, xA, xB, xC, i64_w, i32_w]
     rfl
    refine zp 23 (some 35) ?_ zA51 rfl rfl (Or.inl ⟨by rfl, ?_⟩) ?_ ?_ ?_
    rotate_left
    ·intro w'
     go_simp
     with_reducible rfl
    rotate_left
    ·simp only [Act.put, xA, xB, xC, i64_w, i32_w]
     rfl
    refine done_ (done_of HT_.out (by kernel_rfl)) ?_
    try go_wp2
    go_ret
    exact ⟨by first | rfl | (simp [errW_none, errW_some] <;> rfl) | (simp only [← hji10]; first | rfl | (simp [errW_none, errW_some] <;> rfl)) | (simp [*, errW_none, errW_some] <;> rfl), zs GE162.out⟩
   rw [if_neg c14] at H
   have c14b0 : decide (0 ≤ t166) = false := decide_eq_false c14
   clear c14
   have H' := aM H
   clear H
   have p161 : 0 ≤ (x7_1 : Int) := of_decide_eq_true za
   have q161 : x7_1 < (l0.length : Int) := of_decide_eq_true za
   obtain ⟨ad161, e161, hx161_0, hx161_1⟩ := at_T35 HR0.out x7_1 p161 q161
   cases e161
   replace hx161_0 := zk HB.out hx161_0
   replace hx161_1 := zk HB.out hx161_1
   replace p161 := eq_true p161
   replace q161 := eq_true q161
   try go_wp2_with (first | ((with_reducible refine gate_dst (N := 4) rfl ?_); (try (refine gate_guard (by rfl) ?_; dsimp only)); refine zx 4 #[.int .i64 0, .int .i64 0] 35 ?_; intro gb162 hg w20 hbox hb; have n0_ := aM (below_step zb hb); have n1_ := aM (hbox); have n2_ := aM ((ze : w.heap.size ≤ gb162)); have n3_ := aM ((ze : w.heap.size ≤ gb162)); clear HB; have HB := n0_; have BK162 := n1_; have GW162 := n2_; have GE162 := n3_; clear n0_ n1_ n2_ n3_ hb hbox hg; have hcz21_0 : w20.cell? ⟨gb162, 0, none⟩ = some (.int .i64 0) := (blk_cell BK162.out 0).trans rfl; have hcz21_1 : w20.cell? ⟨gb162, 1, none⟩ = some (.int .i64 0) := (blk_cell BK162.out 1).trans rfl; have hfz21_0 := blk_frozen BK162.out 0; have hfz21_1 := blk_frozen BK162.out 1))
   have n0_ : Aside0 (((w20.setCell ⟨gb162, 0, none⟩ (.int .i64 ((rd_T35 l0 x7_1).f0))).setCell ⟨gb162, 1, none⟩ (.int .i64 ((rd_T35 l0 x7_1).f1))).heap[gb162]? = some (.cells #[.int .i64 ((rd_T35 l0 x7_1).f0), .int .i64 ((rd_T35 l0 x7_1).f1)] 35 (0, 0))) := ⟨by (with_reducible repeat (first | refine blk_drewN ?_ _ | refine blk_drew ?_ | refine blk_alloc ?_ _)); refine blk_put (cs := #[.int .i64 ((rd_T35 l0 x7_1).f0), .int .i64 0]) ?_ 1 _ rfl; (with_reducible repeat (first | refine blk_drewN ?_ _ | refine blk_drew ?_ | refine blk_alloc ?_ _)); refine blk_put (cs := #[.int .i64 0, .int .i64 0]) ?_ 0 _ rfl; (with_reducible repeat (first | refine blk_drewN ?_ _ | refine blk_drew ?_ | refine blk_alloc ?_ _)); exact BK162.out⟩
   have n1_ : Aside0 (Below w.heap.size w ((w20.setCell ⟨gb162, 0, none⟩ (.int .i64 ((rd_T35 l0 x7_1).f0))).setCell ⟨gb162, 1, none⟩ (.int .i64 ((rd_T35 l0 x7_1).f1)))) := ⟨zs GE162.out⟩
   (try clear BK162)
   (try clear HB)
   generalize ((w20.setCell ⟨gb162, 0, none⟩ (.int .i64 ((rd_T35 l0 x7_1).f0))).setCell ⟨gb162, 1, none⟩ (.int .i64 ((rd_T35 l0 x7_1).f1))) = w22 at n0_ n1_ ⊢
   have BK162 := n0_
   have HB := n1_
   clear n0_ n1_
   have n0_ := aM (blk_drew BK162.out)
   have n1_ := aM (below_drew1 HB.out)
   clear BK162
   clear HB
   have BK162 := n0_
   have HB := n1_
   clear n0_ n1_
   have p165 : 0 ≤ ((ji10) : Int) := of_decide_eq_true za
   have q165 : (ji10) < (l0.length : Int) := of_decide_eq_true za
   obtain ⟨ad165, e165, hx165_0, hx165_1⟩ := at_T35 HR0.out (ji10) p165 q165
   have hw165_1 := hx165_1
   have hw165_0 := hx165_0
   obtain rfl : ad161 = ad165 := (by injection e165)
   replace hx165_0 := zk HB.out hx165_0
   replace hx165_1 := zk HB.out hx165_1
   replace p165 := eq_true p165
   replace q165 := eq_true q165
   refine start_ (n := 24) (S := fun w' => w'.cell? ⟨gb162, 0, none⟩ = some (.int .i64 ((rd_T35 l0 x7_1).f0)) ∧ w'.cell? ⟨gb162, 1, none⟩ = some (.int .i64 ((rd_T35 l0 x7_1).f1)) ∧ w'.cell? (ad161.add (((ji10)).toNat * 2)) = some (.int .i64 ((rd_T35 l0 (ji10)).f0)) ∧ w'.cell? ⟨(ad161.add (((ji10)).toNat * 2)).block, (ad161.add (((ji10)).toNat * 2)).off + 1, none⟩ = some (.int .i64 ((rd_T35 l0 (ji10)).f1))) (ds := []) zA27 (by kernel_rfl) rfl rfl ⟨(blk_cell BK162.out 0).trans rfl, (blk_cell BK162.out 1).trans rfl, (zk HB.out hw165_0), (zk HB.out hw165_1)⟩ (fun hHeld => ?_); refine with_tabW impl_IsShape.tab4 impl_IsShape.bits4 (fun HT_ HW_ => ?_)
   generalize w22.drew = w23 at BK162 HB hx165_0 hx165_1 hHeld ⊢
   refine zp 0 (some 12) ?_ zA28 rfl rfl (Or.inl ⟨by rfl, ?_⟩) ?_ ?_ ?_
   rotate_left
   ·intro w'
    go_simp
    with_reducible rfl
   rotate_left
   ·simp only [Act.put, xA, xB, xC, i64_w, i32_w]
    rfl
   refine zu 1 (some 13) ?_ zA29 rfl rfl (Or.inl ⟨by rfl, ?_⟩) hHeld ?_ ?_ ?_
   rotate_left
   ·rintro w' ⟨s0, s1, s2, s3⟩
    go_simp
    with_reducible rfl
   rotate_left
   ·simp only [Act.put, xA, xB, xC, i64_w, i32_w]
    rfl
   refine one_ (i := 2) (N := some 14) zA30 rfl rfl (one_of HT_.out (by kernel_rfl)) (by decide) (fun K hK => ?_)
   refine goes_ Try.func30 (by kernel_rfl) rfl #[.int .i64 ((rd_T35 l0 x7_1).f0)] (by rfl) rfl rfl zm ?_
   with_reducible refine (impl_isCoordinate.calls ((rd_T35 l0 x7_1).f0) true _ A5.out).mono ?_
   rintro e w' ⟨rfl, ⟨nd, rfl⟩⟩
   refine ⟨_, rfl, ?_⟩
   refine hK.out _ _ ⟨(blk_cell BK162.out 0).trans rfl, (blk_cell BK162.out 1).trans rfl, (zk HB.out hw165_0), (zk HB.out hw165_1)⟩ (fun hHeld => ?_)
   clear hK K
   refine norm_ (a' := ?_) ?_ ?_
   rotate_left
   ·show Act.put _ (some 14) _ = _
    simp only [Act.put, xA, xB, xC, i64_w, i32_w]
    rfl
   refine zp 3 (some 15) ?_ zA31 rfl rfl (Or.inl ⟨by rfl, ?_⟩) ?_ ?_ ?_
   rotate_left
   ·intro w'
    go_simp
    with_reducible rfl
   rotate_left
   ·simp only [Act.put, xA, xB, xC, i64_w, i32_w]
    rfl
   refine zp 4 (some 16) ?_ zA32 rfl rfl (Or.inl ⟨by rfl, ?_⟩) ?_ ?_ ?_
   rotate_left
   ·intro w'
    go_simp
    with_reducible rfl
   rotate_left
   ·simp only [Act.put, xA, xB, xC, i64_w, i32_w]
    rfl
   refine zp 5 (some 17) ?_ zA33 rfl rfl (Or.inl ⟨by rfl, ?_⟩) ?_ ?_ ?_
   rotate_left
   ·intro w'
    go_simp
    with_reducible rfl
   rotate_left
   ·simp only [Act.put, xA, xB, xC, i64_w, i32_w]
    rfl
   refine zu 6 (some 18) ?_ zA34 rfl rfl (Or.inl ⟨by rfl, ?_⟩) hHeld ?_ ?_ ?_
   rotate_left
   ·rintro w' ⟨s0, s1, s2, s3⟩
    go_simp
    with_reducible rfl
   rotate_left
   ·simp only [Act.put, xA, xB, xC, i64_w, i32_w]
    rfl
   refine one_ (i := 7) (N := some 19) zA35 rfl rfl (one_of HT_.out (by kernel_rfl)) (by decide) (fun K hK => ?_)
   refine goes_ Try.func30 (by kernel_rfl) rfl #[.int .i64 ((rd_T35 l0 x7_1).f1)] (by rfl) rfl rfl zm ?_
   with_reducible refine (impl_isCoordinate.calls ((rd_T35 l0 x7_1).f1) true _ A7.out).mono ?_
   rintro e w' ⟨rfl, ⟨nd, rfl⟩⟩
   refine ⟨_, rfl, ?_⟩
   refine hK.out _ _ ⟨(blk_cell BK162.out 0).trans rfl, (blk_cell BK162.out 1).trans rfl, (zk HB.out hw165_0), (zk HB.out hw165_1)⟩ (fun hHeld => ?_)
   clear hK K
   refine norm_ (a' := ?_) ?_ ?_
   rotate_left
   ·show Act.put _ (some 19) _ = _
    simp only [Act.put, xA, xB, xC, i64_w, i32_w]
    rfl
   refine zp 8 (some 20) ?_ zA36 rfl rfl (Or.inl ⟨by rfl, ?_⟩) ?_ ?_ ?_
   rotate_left
   ·intro w'
    go_simp
    with_reducible rfl
   rotate_left
   ·simp only [Act.put, xA, xB, xC, i64_w, i32_w]
    rfl
   refine zp 9 (some 21) ?_ zA37 rfl rfl (Or.inl ⟨by rfl, ?_⟩) ?_ ?_ ?_
   rotate_left
   ·intro w'
    go_simp
    with_reducible rfl
   rotate_left
   ·simp only [Act.put, xA, xB, xC, i64_w, i32_w]
    rfl
   refine zp 10 (some 22) ?_ zA38 rfl rfl (Or.inl ⟨by rfl, ?_⟩) ?_ ?_ ?_
   rotate_left
   ·intro w'
    go_simp
    with_reducible rfl
   rotate_left
   ·simp only [Act.put, xA, xB, xC, i64_w, i32_w]
    rfl
   refine zp 11 (some 23) ?_ zA39 rfl rfl (Or.inl ⟨by rfl, ?_⟩) ?_ ?_ ?_
   rotate_left
   ·intro w'
    go_simp
    with_reducible rfl
   rotate_left
   ·simp only [Act.put, xA, xB, xC, i64_w, i32_w]
    rfl
   refine zp 12 (some 24) ?_ zA40 rfl rfl (Or.inl ⟨by rfl, ?_⟩) ?_ ?_ ?_
   rotate_left
   ·intro w'
    go_simp
    with_reducible rfl
   rotate_left
   ·simp only [Act.put, xA, xB, xC, i64_w, i32_w]
    rfl
   refine zp 13 (some 25) ?_ zA41 rfl rfl (Or.inl ⟨by rfl, ?_⟩) ?_ ?_ ?_
   rotate_left
   ·intro w'
    go_simp
    with_reducible rfl
   rotate_left
   ·simp only [Act.put, xA, xB, xC, i64_w, i32_w]
    rfl
   refine zp 14 (some 26) ?_ zA42 rfl rfl (Or.inl ⟨by rfl, ?_⟩) ?_ ?_ ?_
   rotate_left
   ·intro w'
    go_simp
    with_reducible rfl
   rotate_left
   ·simp only [Act.put, xA, xB, xC, i64_w, i32_w]
    rfl
   refine zp 15 (some 27) ?_ zA43 rfl rfl (Or.inl ⟨by rfl, ?_⟩) ?_ ?_ ?_
   rotate_left
   ·intro w'
    go_simp
    with_reducible rfl
   rotate_left
   ·simp only [Act.put, xA, xB, xC, i64_w, i32_w]
    rfl
   refine zp 16 (some 28) ?_ zA44 rfl rfl (Or.inl ⟨by rfl, ?_⟩) ?_ ?_ ?_
   rotate_left
   ·intro w'
    go_simp
    with_reducible rfl
   rotate_left
   ·simp only [Act.put, xA, xB, xC, i64_w, i32_w]
    rfl
   refine zp 17 (some 29) ?_ zA45 rfl rfl (Or.inl ⟨by rfl, ?_⟩) ?_ ?_ ?_
   rotate_left
   ·intro w'
    go_simp
    with_reducible rfl
   rotate_left
   ·simp only [Act.put, xA, xB, xC, i64_w, i32_w]
    rfl
   refine zu 18 (some 30) ?_ zA46 rfl rfl (Or.inl ⟨by rfl, ?_⟩) hHeld ?_ ?_ ?_
   rotate_left
   ·rintro w' ⟨s0, s1, s2, s3⟩
    go_simp
    with_reducible rfl
   rotate_left
   ·simp only [Act.put, xA, xB, xC, i64_w, i32_w]
    rfl
   refine zu 19 (some 31) ?_ zA47 rfl rfl (Or.inl ⟨by rfl, ?_⟩) hHeld ?_ ?_ ?_
   rotate_left
   ·rintro w' ⟨s0, s1, s2, s3⟩
    go_simp
    with_reducible rfl
   rotate_left
   ·simp only [Act.put, xA, xB, xC, i64_w, i32_w]
    rfl
   refine one_ (i := 20) (N := some 32) zA48 rfl rfl (one_of HT_.out (by kernel_rfl)) (by decide) (fun K hK => ?_)
   refine goes_ Try.func31 (by kernel_rfl) rfl #[.agg #[.int .i64 ((rd_T35 l0 (ji10)).f0), .int .i64 ((rd_T35 l0 (ji10)).f1)], .agg #[.int .i64 ((rd_T35 l0 x7_1).f0), .int .i64 ((rd_T35 l0 x7_1).f1)]] (by rfl) rfl rfl (by (try simp only [mA, mB, mC]); first | done | (simp only [hji10]; rfl) | rfl | (simp only [lD, lT]; rfl)) ?_
   with_reducible refine (impl_compareCells.calls ((rd_T35 l0 (ji10)).f0) ((rd_T35 l0 (ji10)).f1) ((rd_T35 l0 x7_1).f0) ((rd_T35 l0 x7_1).f1) t166 _ A13.out).mono ?_
   rintro e w24 ⟨rfl, hb⟩
   refine ⟨_, rfl, ?_⟩
   have n0_ := aM (blk_below (g := gb162) (o := .cells #[.int .i64 ((rd_T35 l0 x7_1).f0), .int .i64 ((rd_T35 l0 x7_1).f1)] 35 (0, 0)) (mB_ BK162.out) hb)
   have n1_ := aM (below_step (zs GE162.out) hb)
   clear BK162
   clear HB
   have BK162 := n0_
   have HB := n1_
   clear n0_ n1_
   (try clear hb)
   (try clear hb2)
   (try clear hk)
   (try clear hi)
   refine hK.out _ _ ⟨(blk_cell BK162.out 0).trans rfl, (blk_cell BK162.out 1).trans rfl, (zk HB.out hw165_0), (zk HB.out hw165_1)⟩ (fun hHeld => ?_)
   clear hK K
   refine norm_ (a' := ?_) ?_ ?_
   rotate_left
   ·show Act.put _ (some 32) _ = _
    simp only [Act.put, xA, xB, xC, i64_w, i32_w]
    rfl
   refine zp 21 (some 33) ?_ zA49 rfl rfl (Or.inl ⟨by rfl, ?_⟩) ?_ ?_ ?_
   rotate_left
   ·intro w'
    go_simp
    with_reducible rfl
   rotate_left
   ·simp only [Act.put, xA, xB, xC, i64_w, i32_w]
    rfl
   refine zp 22 (some 34) ?_ zA50 rfl rfl (Or.inl ⟨by rfl, ?_⟩) ?_ ?_ ?_
   rotate_left
   ·intro w'
    go_simp
    with_reducible rfl
   rotate_left
   ·simp only [Act.put, xA, xB, xC, i64_w, i32_w]
    rfl
   refine zp 23 (some 35) ?_ zA51 rfl rfl (Or.inl ⟨by rfl, ?_⟩) ?_ ?_ ?_
   rotate_left
   ·intro w'
    go_simp
    with_reducible rfl
   rotate_left
   ·simp only [Act.put, xA, xB, xC, i64_w, i32_w]
    rfl
   refine done_ (done_of HT_.out (by kernel_rfl)) ?_
   try go_wp2
   go_roundg k1
   case measure => have := HK1.out; omega
   case rel => exact ⟨(wrap64 (x7_1 + 1)), zr, H', ⟨by have := HK1.out; omega⟩, ⟨zs GE162.out⟩⟩
end Go.Proofs.Ytpoiiaephcddoaa.F
end
section
namespace Go.Proofs.Ytpoiiaephcddoaa.F
open Go.RowKit Go.Proofs.YtpoiiaephcddoaaW.PrintWords Go.Proofs.YtpoiiaephcddoaaW.PrintLast Go.Proofs.YtpoiiaephcddoaaW.PrintMore
attribute [local go_sem] max2_int min2_int max_two min_two max_three min_three max_four min_four
set_option linter.unusedVariables false
set_option linter.unusedSimpArgs false
attribute [local go_sem high] eqA35
def impl_Cell_32.l0 : Nat → List (S35) → Int → Int → Int → Int → Option (Int)
 | 0, _, _, _, _, _ => none
 | k + 1, x0, x7, x8, x168000, x168001 => if x8 < x7 then (if 0 ≤ x8 then (if x8 < (x0.length : Int) then (if (x168000 == ((rd_T35 x0 x8).f0) && (x168001 == ((rd_T35 x0 x8).f1))) = true then (some x8) else (impl_Cell_32.l0 k x0 x7 (wrap64 (x8 + 1)) x168000 x168001)) else (none)) else (none)) else (some (-1))
def impl_Cell_32.f (k : Nat) (l0 : List (S35)) (a1_0 : Int) (a1_1 : Int) : Option (Int) := impl_Cell_32.l0 k l0 (l0.length : Int) 0 a1_0 a1_1
theorem impl_Cell_32.calls (k : Nat) (A0 : Option Addr) (c0 : Nat) (l0 : List (S35)) (a1_0 : Int) (a1_1 : Int) (r : Int) (w : World) (hr0 : Kd.C k35 w A0 l0.length l0) (hc0 : l0.length ≤ c0) (h : impl_Cell_32.f k l0 a1_0 a1_1 = some r) :
  Calls Try.prog 32 #[.slice A0 l0.length c0, .agg #[.int .i64 a1_0, .int .i64 a1_1]] w fun e w' => e = .returned (.int .i64 r) ∧ Below w.heap.size w w' := by
 have hu35 := Try.underlying35
 have HR0 := aM hr0
 have HC0 := aM hc0
 clear hr0 hc0
 have HB := aM (Below.refl w.heap.size w)
 have H : (impl_Cell_32.l0 k l0 (l0.length : Int) 0 a1_0 a1_1) = some r := h
 clear h
 have H' := aM H
 clear H
 go_enter Try.func32, Try.ntmps32
 go_wp2_with (first | ((with_reducible refine gate_dst (N := 3) rfl ?_); refine zx 3 #[.int .i64 a1_0, .int .i64 a1_1] 35 ?_; intro gb167 hg w3 hbox hb; have n0_ := aM (below_step zb hb); have n1_ := aM (hbox); have n2_ := aM ((ze : w.heap.size ≤ gb167)); have n3_ := aM ((ze : w.heap.size ≤ gb167)); clear HB; have HB := n0_; have BK167 := n1_; have GW167 := n2_; have GE167 := n3_; clear n0_ n1_ n2_ n3_; clear hb hbox hg))
 repeat (go_quiet (first | ((with_reducible refine gate_dst (N := 3) rfl ?_); refine zx 3 #[.int .i64 a1_0, .int .i64 a1_1] 35 ?_; intro gb167 hg w3 hbox hb; have n0_ := aM (below_step zb hb); have n1_ := aM (hbox); have n2_ := aM ((ze : w.heap.size ≤ gb167)); have n3_ := aM ((ze : w.heap.size ≤ gb167)); clear HB; have HB := n0_; have BK167 := n1_; have GW167 := n2_; have GE167 := n3_; clear n0_ n1_ n2_ n3_; clear hb hbox hg)); try go_wp2_with (first | ((with_reducible refine gate_dst (N := 3) rfl ?_); refine zx 3 #[.int .i64 a1_0, .int .i64 a1_1] 35 ?_; intro gb167 hg w3 hbox hb; have n0_ := aM (below_step zb hb); have n1_ := aM (hbox); have n2_ := aM ((ze : w.heap.size ≤ gb167)); have n3_ := aM ((ze : w.heap.size ≤ gb167)); clear HB; have HB := n0_; have BK167 := n1_; have GW167 := n2_; have GE167 := n3_; clear n0_ n1_ n2_ n3_; clear hb hbox hg)))
 go_loopg [8] k (fun kq v8 w' => ∃ (x8_1 : Int), v8 = .int .i64 x8_1 ∧ Aside0 (impl_Cell_32.l0 kq l0 (l0.length : Int) x8_1 a1_0 a1_1 = some r) ∧ Aside0 (kq ≤ k) ∧ Aside0 (w'.heap[gb167]? = some (.cells #[.int .i64 a1_0, .int .i64 a1_1] 35 (0, 0))) ∧ Aside0 (Below w.heap.size w w'))
 case atStart => exact ⟨(0), zr, H', ⟨Nat.le_refl _⟩, ⟨mB_ BK167.out⟩, ⟨zs GE167.out⟩⟩
 case round =>
  clear H'
  try clear p2
  try clear c3
  obtain ⟨x8_1, rfl, HA, HK1, BK167, HB⟩ := hrel
  cases gk with
  | zero => exact absurd HA.out (by simp [impl_Cell_32.l0])
  | succ k1 =>
   have H := HA.out
   clear HA
   simp only [impl_Cell_32.l0] at H
   by_cases c4 : x8_1 < (l0.length : Int)
   rotate_left
   ·rw [if_neg c4] at H
    have c4b0 : decide (x8_1 < (l0.length : Int)) = false := decide_eq_false c4
    clear c4
    obtain rfl := Option.some.inj H
    go_wp2
    repeat (go_quiet (fail); try go_wp2)
    go_ret
    exact ⟨zw, zs GE167.out⟩
   rw [if_pos c4] at H
   have c4b0 : decide (x8_1 < (l0.length : Int)) = true := decide_eq_true c4
   clear c4
   by_cases c5 : 0 ≤ x8_1
   rotate_left
   ·rw [if_neg c5] at H
    exact absurd H (by simp)
   rw [if_pos c5] at H
   have c5b0 : decide (0 ≤ x8_1) = true := decide_eq_true c5
   clear c5
   by_cases c6 : x8_1 < (l0.length : Int)
   rotate_left
   ·rw [if_neg c6] at H
    exact absurd H (by simp)
   rw [if_pos c6] at H
   have c6b0 : decide (x8_1 < (l0.length : Int)) = true := decide_eq_true c6
   clear c6
   by_cases c7 : (a1_0 == ((rd_T35 l0 x8_1).f0) && (a1_1 == ((rd_T35 l0 x8_1).f1))) = true
   ·rw [if_pos c7] at H
    have c7b0 : (a1_0 == ((rd_T35 l0 x8_1).f0) && (a1_1 == ((rd_T35 l0 x8_1).f1))) = true := c7
    (try (have c7b1 : decide (a1_0 = ((rd_T35 l0 x8_1).f0) && (a1_1 == ((rd_T35 l0 x8_1).f1))) = true := by simpa using c7))
    (try (have c7b2 : (a1_0 == ((rd_T35 l0 x8_1).f0) && (a1_1 == ((rd_T35 l0 x8_1).f1))) = true := by simpa using c7))
    clear c7
    obtain rfl := Option.some.inj H
    have hcz8_0 : wr.cell? ⟨gb167, 0, none⟩ = some (.int .i64 a1_0) := (blk_cell BK167.out 0).trans rfl
    have hcz8_1 : wr.cell? ⟨gb167, 1, none⟩ = some (.int .i64 a1_1) := (blk_cell BK167.out 1).trans rfl
    have hfz8_0 := blk_frozen BK167.out 0
    have hfz8_1 := blk_frozen BK167.out 1
    have p168 : 0 ≤ (x8_1 : Int) := of_decide_eq_true za
    have q168 : x8_1 < (l0.length : Int) := of_decide_eq_true za
    obtain ⟨ad168, e168, hx168_0, hx168_1⟩ := at_T35 HR0.out x8_1 p168 q168
    cases e168
    replace hx168_0 := zk HB.out hx168_0
    replace hx168_1 := zk HB.out hx168_1
    replace p168 := eq_true p168
    replace q168 := eq_true q168
    go_wp2
    repeat (go_quiet (fail); try go_wp2)
    go_ret
    exact ⟨zw, zs GE167.out⟩
   rw [if_neg c7] at H
   have c7b0 : (a1_0 == ((rd_T35 l0 x8_1).f0) && (a1_1 == ((rd_T35 l0 x8_1).f1))) = false := by simpa using c7
   (try (have c7b1 : decide (a1_0 = ((rd_T35 l0 x8_1).f0) && (a1_1 == ((rd_T35 l0 x8_1).f1))) = false := by simpa using c7))
   (try (have c7b2 : (a1_0 == ((rd_T35 l0 x8_1).f0) && (a1_1 == ((rd_T35 l0 x8_1).f1))) = false := by simpa using c7))
   (try (have c7b3 : ¬ (a1_0 = ((rd_T35 l0 x8_1).f0) && (a1_1 == ((rd_T35 l0 x8_1).f1))) := by simpa using c7))
   clear c7
   have H' := aM H
   clear H
   have hcz9_0 : wr.cell? ⟨gb167, 0, none⟩ = some (.int .i64 a1_0) := (blk_cell BK167.out 0).trans rfl
   have hcz9_1 : wr.cell? ⟨gb167, 1, none⟩ = some (.int .i64 a1_1) := (blk_cell BK167.out 1).trans rfl
   have hfz9_0 := blk_frozen BK167.out 0
   have hfz9_1 := blk_frozen BK167.out 1
   have p168 : 0 ≤ (x8_1 : Int) := of_decide_eq_true za
   have q168 : x8_1 < (l0.length : Int) := of_decide_eq_true za
   obtain ⟨ad168, e168, hx168_0, hx168_1⟩ := at_T35 HR0.out x8_1 p168 q168
   cases e168
   replace hx168_0 := zk HB.out hx168_0
   replace hx168_1 := zk HB.out hx168_1
   replace p168 := eq_true p168
   replace q168 := eq_true q168
   go_wp2
   repeat (go_quiet (fail); try go_wp2)
   go_roundg k1
   case measure => have := HK1.out; omega
   case rel => exact ⟨(wrap64 (x8_1 + 1)), zr, H', ⟨by have := HK1.out; omega⟩, ⟨mB_ BK167.out⟩, ⟨zs GE167.out⟩⟩
def impl_Cell_20.f (k : Nat) (l0 : List (S35)) (a1_0 : Int) (a1_1 : Int) : Option (Bool) := (impl_Cell_32.f k l0 a1_0 a1_1).bind fun t170 => (some (decide (t170 ≥ 0)))
theorem impl_Cell_20.calls (k : Nat) (A0 : Option Addr) (c0 : Nat) (l0 : List (S35)) (a1_0 : Int) (a1_1 : Int) (r : Bool) (w : World) (hr0 : Kd.C k35 w A0 l0.length l0) (hc0 : l0.length ≤ c0) (h : impl_Cell_20.f k l0 a1_0 a1_1 = some r) :
  Calls Try.prog 20 #[.slice A0 l0.length c0, .agg #[.int .i64 a1_0, .int .i64 a1_1]] w fun e w' => e = .returned (.bool r) ∧ Below w.heap.size w w' := by
 have hu35 := Try.underlying35
 have HR0 := aM hr0
 have HC0 := aM hc0
 clear hr0 hc0
 have HB := aM (Below.refl w.heap.size w)
 have H : ((impl_Cell_32.f k l0 a1_0 a1_1).bind fun t170 => (some (decide (t170 ≥ 0)))) = some r := h
 clear h
 replace H := Option.bind_eq_some_iff.mp H
 obtain ⟨t170, A30, H⟩ := H
 replace H : (some (decide (t170 ≥ 0))) = some r := H
 have A3 := aM A30
 clear A30
 obtain rfl := Option.some.inj H
 go_enter Try.func20, Try.ntmps20
 go_wp2_with (first | ((with_reducible refine gate_dst (N := 3) rfl ?_); refine zx 3 #[.int .i64 a1_0, .int .i64 a1_1] 35 ?_; intro gb169 hg w4 hbox hb; have n0_ := aM (below_step zb hb); have n1_ := aM (hbox); have n2_ := aM ((ze : w.heap.size ≤ gb169)); have n3_ := aM ((ze : w.heap.size ≤ gb169)); clear HB; have HB := n0_; have BK169 := n1_; have GW169 := n2_; have GE169 := n3_; clear n0_ n1_ n2_ n3_ hb hbox hg; have hcz5_0 : w4.cell? ⟨gb169, 0, none⟩ = some (.int .i64 a1_0) := (blk_cell BK169.out 0).trans rfl; have hcz5_1 : w4.cell? ⟨gb169, 1, none⟩ = some (.int .i64 a1_1) := (blk_cell BK169.out 1).trans rfl; have hfz5_0 := blk_frozen BK169.out 0; have hfz5_1 := blk_frozen BK169.out 1) | ((with_reducible refine gate_callee (f := 32) rfl ?_); refine goesL_ (some 7) rfl rfl Try.func32 (by kernel_rfl) rfl #[.slice A0 l0.length c0, .agg #[.int .i64 a1_0, .int .i64 a1_1]] rfl zm ?_; (with_reducible refine (impl_Cell_32.calls k _ _ l0 a1_0 a1_1 t170 _ ?side1 ?side2 A3.out).mono ?_); (case side1 => repeat (first | exact (Kd.C_below HR0.out HB.out) | (with_reducible refine Kd.C_alloc ?_ _) | (with_reducible refine Kd.C_drewN ?_ _) | (with_reducible refine Kd.C_drew ?_))); (case side2 => exact HC0.out); rintro e w6 ⟨rfl, hb⟩; refine ⟨_, rfl, ?_⟩; have n0_ := aM (blk_below (g := gb169) (o := .cells #[.int .i64 a1_0, .int .i64 a1_1] 35 (0, 0)) (mB_ BK169.out) hb); have n1_ := aM (below_step (zs GE169.out) hb); clear BK169 HB; have BK169 := n0_; have HB := n1_; clear n0_ n1_; (try clear hb); (try clear hb2); (try clear hk); (try clear hi)))
 go_ret
 exact ⟨zw, zs GE169.out⟩
def cornL (c : S35) : List S35 := [c, ⟨wrap64 (c.f0 + 1), c.f1⟩, ⟨c.f0, wrap64 (c.f1 + 1)⟩, ⟨wrap64 (c.f0 + 1), wrap64 (c.f1 + 1)⟩]
def rawL (l : List S35) : List S35 := (l.map cornL).flatten
def addP (l : List S35) (p : S35) : List S35 := if l.any (fun q => q.f0 == p.f0 && q.f1 == p.f1) = true then l else l ++ [p]
def ptsL (l : List S35) : List S35 := (rawL l).foldl addP []
def nearL (p : S35) : List S35 := [⟨wrap64 (p.f0 - 1), wrap64 (p.f1 - 1)⟩, ⟨p.f0, wrap64 (p.f1 - 1)⟩, ⟨p.f0, p.f1⟩, ⟨wrap64 (p.f0 - 1), p.f1⟩]
def isIn (k : Nat) (l : List S35) (p : S35) : Bool := impl_Cell_20.f k l p.f0 p.f1 == some true
def cntB : List Bool → Nat
  | [] => 0
  | b :: r => (if b = true then 1 else 0) + cntB r
def termB (bs : List Bool) : Nat := (if cntB bs = 1 ∨ cntB bs = 3 then 1 else 0) + (if cntB bs = 2 ∧ (bs.getD 0 false == bs.getD 2 false) = true then 2 else 0)
def termP (k : Nat) (l : List S35) (p : S35) : Nat := termB ((nearL p).map (isIn k l))
def sumP (f : S35 → Nat) : List S35 → Nat
  | [] => 0
  | a :: r => f a + sumP f r
def wf9 (c : S35) : Bool := (Lit.int .i64 c.f0).wf && (Lit.int .i64 c.f1).wf
def impl_CornerCount.f (k : Nat) (l0 : List S35) : Option (Int × Int) :=
  (impl_IsShape.f k l0).bind fun t => if t = true then (if (l0.length ≤ 1000000 ∧ l0.all wf9 = true) ∧ ((ptsL l0).all fun p => (nearL p).all fun q => (impl_Cell_20.f k l0 q.f0 q.f1).isSome) = true then some ((sumP (termP k l0) (ptsL l0) : Int), 0) else none) else some (0, 1)
theorem any_same (l : List S35) (p : S35) : (l.any (fun q => q.f0 == p.f0 && q.f1 == p.f1) = true) ↔ p ∈ l := by
  rw [List.any_eq_true]
  constructor
  · rintro ⟨q, hq, h⟩
    rw [Bool.and_eq_true, beq_iff_eq, beq_iff_eq] at h
    have : q = p := by obtain ⟨a, b⟩ := q; obtain ⟨c, d⟩ := p; simp only at h; rw [h.1, h.2]
    exact this ▸ hq
  · intro h
    exact ⟨p, h, by simp⟩
theorem addP_mem {l : List S35} {p q : S35} : q ∈ addP l p ↔ q ∈ l ∨ q = p := by
  unfold addP
  split
  · rename_i h
    rw [any_same] at h
    exact ⟨.inl, fun h' => h'.elim id fun e => e ▸ h⟩
  · rw [List.mem_append, List.mem_singleton]
theorem addP_nodup {l : List S35} {p : S35} (h : l.Nodup) : (addP l p).Nodup := by
  unfold addP
  split
  · exact h
  · rename_i h'
    rw [any_same] at h'
    refine List.nodup_append.2 ⟨h, by simp, fun a ha b hb e => ?_⟩
    rw [List.mem_singleton] at hb
    exact h' (hb ▸ e ▸ ha)
theorem foldP_mem : ∀ (r l : List S35) (q : S35), q ∈ r.foldl addP l ↔ q ∈ l ∨ q ∈ r
  | [], l, q => by simp
  | a :: r, l, q => by
    rw [List.foldl_cons, foldP_mem r, addP_mem, List.mem_cons, or_assoc]
theorem foldP_nodup : ∀ (r l : List S35), l.Nodup → (r.foldl addP l).Nodup
  | [], _, h => h
  | a :: r, l, h => foldP_nodup r _ (addP_nodup h)
theorem ptsL_mem (l : List S35) (q : S35) : q ∈ ptsL l ↔ q ∈ rawL l := by
  unfold ptsL
  rw [foldP_mem]
  simp
theorem ptsL_nodup (l : List S35) : (ptsL l).Nodup := foldP_nodup _ _ List.nodup_nil
theorem addP_len (l : List S35) (p : S35) : (addP l p).length ≤ l.length + 1 := by
  unfold addP
  split <;> simp
theorem foldP_len : ∀ (r l : List S35), (r.foldl addP l).length ≤ l.length + r.length
  | [], l => by simp
  | a :: r, l => by
    have h1 := foldP_len r (addP l a)
    have h2 := addP_len l a
    rw [List.foldl_cons, List.length_cons]
    omega
theorem rawL_len : ∀ l : List S35, (rawL l).length = 4 * l.length
  | [] => rfl
  | a :: r => by
    have := rawL_len r
    unfold rawL at this ⊢
    rw [List.map_cons, List.flatten_cons, List.length_append, this, List.length_cons]
    show 4 + _ = _
    omega
theorem ptsL_len (l : List S35) : (ptsL l).length ≤ 4 * l.length := by
  have := foldP_len (rawL l) []
  rw [rawL_len] at this
  simpa [ptsL] using this
theorem termB_le (bs : List Bool) : termB bs ≤ 2 := by
  unfold termB
  split <;> split <;> omega
theorem sumP_le (f : S35 → Nat) (h : ∀ p, f p ≤ 2) : ∀ l, sumP f l ≤ 2 * l.length
  | [] => Nat.le_refl _
  | a :: r => by
    have := sumP_le f h r
    have := h a
    rw [sumP, List.length_cons]
    omega
theorem wf_wrap (b : Int) : (Lit.int .i64 (wrap64 b)).wf = true := by
  simp only [Lit.wf, IntKind.min, IntKind.max, IntKind.signed, IntKind.bits, Bool.and_eq_true, decide_eq_true_eq, if_true, wrap64]
  omega
theorem cornL_wf {c p : S35} (h : wf9 c = true) (hp : p ∈ cornL c) : wf9 p = true := by
  unfold wf9 at h
  rw [Bool.and_eq_true] at h
  unfold cornL at hp
  simp only [List.mem_cons, List.not_mem_nil, or_false] at hp
  rcases hp with rfl | rfl | rfl | rfl <;> unfold wf9 <;> simp only [h.1, h.2, wf_wrap, Bool.and_self]
theorem rawL_wf {l : List S35} (h : l.all wf9 = true) {p : S35} (hp : p ∈ rawL l) : wf9 p = true := by
  unfold rawL at hp
  obtain ⟨x, hx, hp⟩ := List.mem_flatten.1 hp
  obtain ⟨c, hc, rfl⟩ := List.mem_map.1 hx
  exact cornL_wf (List.all_eq_true.1 h c hc) hp
theorem laidOut9 : laidOutB Try.prog = true := by kernel_rfl
theorem keyed9 : Maps.Keyed Try.prog 35 := Maps.Keyed.of_law (deep_law_laid laidOut9 (m := 4) (by omega) (of_decide_eq_true (by kernel_rfl)) (by kernel_rfl) (by kernel_rfl))
theorem keyType9 : Try.prog.keyType 35 = true := by kernel_rfl
theorem cellsOf9 : Try.prog.cellsOf 35 = 2 := by kernel_rfl
theorem cellsOfI9 : Try.prog.cellsOf 2 = 1 := by kernel_rfl
theorem typesSize9 : ∃ n, Try.prog.types.size = n + 1 := ⟨Try.prog.types.size - 1, by have : (0 < Try.prog.types.size) := of_decide_eq_true (by kernel_rfl); omega⟩
abbrev val9 (c : S35) : Value := .agg #[.int .i64 c.f0, .int .i64 c.f1]
theorem key9 (c : S35) (h : wf9 c = true) : ∃ kl, keyOf Try.prog 35 (val9 c) = some kl := by
  unfold wf9 at h
  rw [Bool.and_eq_true] at h
  obtain ⟨n, hn⟩ := typesSize9
  unfold keyOf
  rw [Try.underlying35]
  have hf : (val9 c).formed Try.prog 35 = true := by
    simp only [Value.formed, Try.underlying35, cellsOf9]; rfl
  simp only [keyType9, hf, Bool.and_self, if_true, hn]
  refine ⟨_, Option.map_eq_some_iff.2 ⟨[.int .i64 c.f0, .int .i64 c.f1], ?_, rfl⟩⟩
  simp [Program.keyLits, Try.underlying35, Try.underlying2, cellsOf9, cellsOfI9, Value.cells, h.1, h.2]
theorem val9_inj {c d : S35} (h : val9 c = val9 d) : c = d := by
  obtain ⟨a, b⟩ := c
  obtain ⟨e, f⟩ := d
  simpa [val9] using h
theorem key9_inv {key : Value} {kl : Lit} (h : keyOf Try.prog 35 key = some kl) : ∃ x : S35, key = val9 x := by
  obtain ⟨n, hn⟩ := typesSize9
  unfold keyOf at h
  rw [Try.underlying35] at h
  by_cases hf : key.formed Try.prog 35 = true
  · simp only [keyType9, hf, Bool.and_self, if_true, hn] at h
    obtain ⟨ls, hls, _⟩ := Option.map_eq_some_iff.1 h
    cases key with
    | agg cs =>
      obtain ⟨cs⟩ := cs
      have hsz : cs.length = 2 := by simpa [Value.formed, Try.underlying35, cellsOf9] using hf
      obtain ⟨a, b, rfl⟩ : ∃ a b, cs = [a, b] := by
        match cs, hsz with
        | [a, b], _ => exact ⟨a, b, rfl⟩
      simp [Program.keyLits, Try.underlying35, cellsOf9, cellsOfI9, Value.cells] at hls
      cases a with
      | int q x =>
        by_cases h1 : q = IntKind.i64
        · cases b with
          | int q' y =>
            by_cases h2 : q' = IntKind.i64
            · subst h1 h2
              exact ⟨⟨x, y⟩, rfl⟩
            · simp [h2] at hls; split at hls <;> simp at hls
          | _ => simp at hls; split at hls <;> simp at hls
        · simp [h1] at hls
      | _ => simp at hls
    | _ => simp [Value.formed, Try.underlying35] at hf
  · simp [hf] at h
def CM (w : World) (b : Nat) (l : List S35) : Prop :=
  ∃ (D : DataW Unit) (n : Nat), w.ownsMap Try.prog 35 (plainElem Try.prog 4) b n D ∧ n ≤ l.length ∧ Maps.IsMap D ∧
    ∀ (c : S35) (kl : Lit), keyOf Try.prog 35 (val9 c) = some kl → (Maps.has D kl = true ↔ c ∈ l)
section
variable {w w1 W : World} {b g : Nat} {l : List S35}
theorem cm_kept (h : CM w b l) {row : Option Nat} (hg : w.grownBy w1 row) (hne : some b ≠ row) : CM w1 b l := by
  obtain ⟨D, n, ho, r⟩ := h
  exact ⟨D, n, ho.kept hg hne, r⟩
theorem cm_step (h : CM w b l) (hb : Below w.heap.size w w1) : CM w1 b l := cm_kept h (grown_of_below hb none) (by simp)
theorem cm_obj (h : CM w b l) : ∃ es clock, w.heap[b]? = some (.map es clock) := by
  obtain ⟨D, n, ⟨es, clock, hb, _⟩, r⟩ := h
  exact ⟨es, clock, hb⟩
theorem cm_neB (h : CM w b l) {cs : Array Value} {t : TypeId} {fr : Nat × Nat} (hg : w.heap[g]? = some (.cells cs t fr)) : b ≠ g := by
  obtain ⟨es, clock, hb⟩ := cm_obj h
  rintro rfl
  rw [hb] at hg
  simp at hg
theorem cm_far (h : CM w b l) (hne : b ≠ g) {j : Nat} (u : Value) : CM (w.setCell ⟨g, j, none⟩ u) b l :=
  cm_kept (row := some g) h ⟨rfl, rfl, rfl, by simp, fun k _ hk => Below.heap_setCell _ _ _ k (fun e => hk (by rw [e]))⟩ (by simpa using hne)
end
section
variable {rest : List Oper} {o : Oper} {a : Act} {ops : Array Oper} {Q : Exit → Act → World → Prop} {W : World} {b : Nat} {l : List S35}
theorem cm_make (hgd : o.guard = none) (hop : o.op = .makeMap 40 none) (h : ∀ b w1, Below W.heap.size W w1 → W.heap.size ≤ b → CM w1 b [] → wpList Try.prog ops Q rest (a.put o.dst (.map (some b))) w1) : wpList Try.prog ops Q (o :: rest) a W := by
  refine Kd.event_run hgd (v := .map (some W.heap.size)) (w1 := W.alloc (.map #[] 0)) ?_ (h _ _ (below_alloc (Below.refl _ _) _) (Nat.le_refl _) ⟨.map [], 0, World.ownsMap_made _ _ _ _, Nat.le_refl _, Maps.isMap_empty, fun c kl _ => ⟨fun h => by simp [Maps.has] at h, fun h => by simp at h⟩⟩)
  simp [execOp, hop, run_makeMap]
theorem cm_put (hgd : o.guard = none) (m x v : Operand) (hop : o.op = .mapUpdate 40 m x v) (hm : a.eval m = .map (some b)) (hM : CM W b l) (hl : l.length ≤ 35184372088832) (c : S35) (hx : a.eval x = val9 c) (hv : a.eval v = .bool true) (hc : wf9 c = true)
    (h : ∀ w1, W.grownBy w1 (some b) → CM w1 b (l ++ [c]) → wpList Try.prog ops Q rest (a.put o.dst undef) w1) : wpList Try.prog ops Q (o :: rest) a W := by
  obtain ⟨D, n, ho, hn, hI, hD⟩ := hM
  obtain ⟨kl, hk⟩ := key9 c hc
  refine wpList_mapUpdate_own W hgd m x v 40 hop 35 4 keyed9 Try.underlying40 (plainElem Try.prog 4) b n D hm ho (by simp only [maxLen]; omega) _ _ kl hx hv hk _ [] (plainElem_bool Try.underlying4 true) ?_
  intro w1 ho1 hg
  refine h w1 hg ⟨_, _, ho1, by simp; omega, hI.put _ _, fun d kd hd => ?_⟩
  rw [List.mem_append, List.mem_singleton]
  by_cases e : d = c
  · subst e
    rw [hk] at hd
    injection hd with hd
    subst hd
    rw [Maps.has_put_same hI (keyed9.key hk)]
    simp
  · have hne : kd ≠ kl := fun he => e (val9_inj (keyed9.inj hk (he ▸ hd))).symm
    rw [Maps.has_put_other hne, hD d kd hd]
    simp [e]
end
def CR (w : World) (b r : Nat) (rest : List S35) : Prop :=
  ∃ (D : DataW Unit) (n cnt : Nat) (left : Lit → Bool), w.ranges Try.prog 35 (plainElem Try.prog 4) b r n D left cnt ∧ rest.Nodup ∧ (∀ p ∈ rest, wf9 p = true) ∧
    ∀ (c : S35) (kl : Lit), keyOf Try.prog 35 (val9 c) = some kl → (left kl = true ↔ c ∈ rest)
section
variable {w w1 W : World} {b g r : Nat} {l : List S35}
theorem cr_kept (h : CR w b r l) {row : Option Nat} (hg : w.grownBy w1 row) (hb : some b ≠ row) (hr : some r ≠ row) : CR w1 b r l := by
  obtain ⟨D, n, cnt, left, ho, q⟩ := h
  exact ⟨D, n, cnt, left, ho.kept hg hb hr, q⟩
theorem cr_step (h : CR w b r l) (hb : Below w.heap.size w w1) : CR w1 b r l := cr_kept h (grown_of_below hb none) (by simp) (by simp)
theorem cr_neB (h : CR w b r l) {cs : Array Value} {t : TypeId} {fr : Nat × Nat} (hg : w.heap[g]? = some (.cells cs t fr)) : b ≠ g ∧ r ≠ g := by
  obtain ⟨D, n, cnt, left, ⟨es, clock, since, seen, c0, hb, _, _, _, hr, _⟩, q⟩ := h
  constructor
  · rintro rfl
    rw [hb] at hg
    simp at hg
  · rintro rfl
    rw [hr] at hg
    simp at hg
theorem cr_far (h : CR w b r l) (hb : b ≠ g) (hr : r ≠ g) {j : Nat} (u : Value) : CR (w.setCell ⟨g, j, none⟩ u) b r l :=
  cr_kept (row := some g) h ⟨rfl, rfl, rfl, by simp, fun k _ hk => Below.heap_setCell _ _ _ k (fun e => hk (by rw [e]))⟩ (by simpa using hb) (by simpa using hr)
end
theorem perm_drop {x : S35} : ∀ {l : List S35}, x ∈ l → ∃ r, l.Perm (x :: r)
  | [], h => by simp at h
  | a :: l, h => by
    rcases List.mem_cons.1 h with rfl | h
    · exact ⟨l, List.Perm.refl _⟩
    · obtain ⟨r, h1⟩ := perm_drop h
      exact ⟨a :: r, (h1.cons a).trans (List.Perm.swap _ _ _)⟩
section
variable {rest : List Oper} {o : Oper} {a : Act} {ops : Array Oper} {Q : Exit → Act → World → Prop} {W : World} {b r : Nat} {l : List S35}
theorem cr_range (hgd : o.guard = none) (m : Operand) (hop : o.op = .range 40 m) (hm : a.eval m = .map (some b)) (hM : CM W b l) (l' : List S35) (hn : l'.Nodup) (hw : ∀ p ∈ l', wf9 p = true) (he : ∀ p, p ∈ l' ↔ p ∈ l)
    (h : ∀ w1 r, Below W.heap.size W w1 → W.heap.size ≤ r → CR w1 b r l' → wpList Try.prog ops Q rest (a.put o.dst (.pointer (some ⟨r, 0, none⟩))) w1) : wpList Try.prog ops Q (o :: rest) a W := by
  obtain ⟨D, n, ho, _, _, hD⟩ := hM
  refine wpList_range_own W hgd m 40 hop 35 4 keyed9 Try.underlying40 (plainElem Try.prog 4) b n D hm ho ?_
  intro w1 hr hg hs
  refine h w1 _ ⟨hg.os, hg.tape, hg.output, hg.size, fun i hi => hg.block i hi (by simp)⟩ (Nat.le_refl _) ⟨D, n, _, _, hr, hn, hw, fun c kl hk => ?_⟩
  rw [hD c kl hk, he]
theorem cr_next (hgd : o.guard = none) (it : Operand) (hop : o.op = .next it false) (hit : a.eval it = .pointer (some ⟨r, 0, none⟩)) (hR : CR W b r l)
    (hDone : l = [] → wpList Try.prog ops Q rest (a.put o.dst (.tuple #[.bool false])) W)
    (hMore : ∀ (x : S35) (c : Bool) (l' : List S35) (w1 : World), wf9 x = true → l.Perm (x :: l') → CR w1 b r l' → W.grownBy w1 (some r) → w1.heap.size = W.heap.size → (Instr.entry (.pointer (some ⟨r, 0, none⟩))).run Try.prog w1 = .ok (.tuple #[.agg #[.int .i64 x.f0, .int .i64 x.f1], .bool c]) w1 → wpList Try.prog ops Q rest (a.put o.dst (.tuple #[.bool true, .agg #[.int .i64 x.f0, .int .i64 x.f1], .bool c])) w1) : wpList Try.prog ops Q (o :: rest) a W := by
  obtain ⟨D, n, cnt, left, hrg, hn, hw, hD⟩ := hR
  refine wpList_next_ranges W hgd it hop 35 keyed9 (plainElem Try.prog 4) (fun x : S35 => val9 x) (fun c : Bool => Value.bool c) (fun key kl h => key9_inv h) (fun v y h => ?_) b r n D left cnt hit hrg ?_ ?_
  · unfold plainElem at h
    rw [Try.underlying4] at h
    cases v <;> simp at h
    exact ⟨_, rfl⟩
  · intro _ hl
    refine hDone ?_
    cases l with
    | nil => rfl
    | cons x l =>
      obtain ⟨kl, hk⟩ := key9 x (hw x List.mem_cons_self)
      have := (hD x kl hk).2 List.mem_cons_self
      rw [hl kl] at this
      cases this
  · intro x c kl y w1 cnt1 hk hl _ _ hrg1 _ hg hs hen
    have hx := (hD x kl hk).1 hl
    obtain ⟨l', hp⟩ := perm_drop hx
    have hn' := hp.nodup_iff.1 hn
    rw [List.nodup_cons] at hn'
    refine hMore x c l' w1 (hw x hx) hp ⟨D, n, cnt1, _, hrg1, hn'.2, fun p h => hw p (hp.mem_iff.2 (List.mem_cons_of_mem _ h)), fun d kd hd => ?_⟩ hg hs hen
    rw [Bool.and_eq_true, hD d kd hd, hp.mem_iff, List.mem_cons]
    by_cases e : d = x
    · subst e
      rw [hk] at hd
      injection hd with hd
      subst hd
      rw [WideAt.sameKey_self (keyed9.key hk)]
      simp [hn'.1]
    · have hne : kd.sameKey kl = false := by
        cases hs : kd.sameKey kl
        · rfl
        · have := WideAt.sameKey_eq hs
          subst this
          exact absurd (val9_inj (keyed9.inj hd hk)) e
      rw [hne]
      simp [e]
end
section
variable {P : Program} {ops : Array Oper} {rest : List Oper} {o : Oper} {a : Act} {Q : Exit → Act → World → Prop}
theorem lit_event {W : World} (hgd : o.guard = none) {N : Tmp} (_hd : o.dst = some N) {cs : Array Value} {t n : Nat}
    (hrun : (execOp a.eval o).run P W = .ok (.value (.slice (some ⟨W.heap.size, 0, none⟩) n n)) (W.alloc (.cells cs t (0, 0))))
    (h : ∀ g, g = W.heap.size → ∀ w1, w1.heap[g]? = some (.cells cs t (0, 0)) → Below W.heap.size W w1 → wpList P ops Q rest (a.put o.dst (.slice (some ⟨g, 0, none⟩) n n)) w1) : wpList P ops Q (o :: rest) a W :=
  Kd.event_run hgd hrun (h _ rfl _ (blk_new W _) (below_alloc (Below.refl _ _) _))
end
def ST (w : World) (b : Nat) (l : List S35) (w' : World) : Prop := CM w' b l ∧ Below w.heap.size w w'
def SR (w : World) (b r : Nat) (l : List S35) (w' : World) : Prop := CR w' b r l ∧ Below w.heap.size w w'
theorem gate_map9 {P : Program} {ops : Array Oper} {rest : List Oper} {o : Oper} {a : Act} {Q : Exit → Act → World → Prop} {w : World} {t : TypeId} {m x v : Operand} (_ho : o.op = .mapUpdate t m x v) (h : wpList P ops Q (o :: rest) a w) : wpList P ops Q (o :: rest) a w := h
section
variable {w W w1 : World} {b r g : Nat} {l : List S35}
theorem st_below (h : ST w b l W) (hb : Below W.heap.size W w1) : ST w b l w1 := ⟨cm_step h.1 hb, below_step h.2 hb⟩
theorem st_set (h : ST w b l W) (hne : b ≠ g) (hg : w.heap.size ≤ g) (j : Nat) (u : Value) : ST w b l (W.setCell ⟨g, j, none⟩ u) := ⟨cm_far h.1 hne u, below_set h.2 hg⟩
theorem sr_below (h : SR w b r l W) (hb : Below W.heap.size W w1) : SR w b r l w1 := ⟨cr_step h.1 hb, below_step h.2 hb⟩
theorem sr_set (h : SR w b r l W) (hne : b ≠ g) (hnr : r ≠ g) (hg : w.heap.size ≤ g) (j : Nat) (u : Value) : SR w b r l (W.setCell ⟨g, j, none⟩ u) := ⟨cr_far h.1 hne hnr u, below_set h.2 hg⟩
end
def rowC : List S35 → List Value
  | [] => []
  | p :: r => .int .i64 p.f0 :: .int .i64 p.f1 :: rowC r
theorem rowC_at : ∀ (l : List S35) (j : Nat), j < l.length → (rowC l)[j * 2]? = some (.int .i64 (l.getD j z35).f0) ∧ (rowC l)[j * 2 + 1]? = some (.int .i64 (l.getD j z35).f1)
  | [], j, h => by simp at h
  | p :: r, 0, _ => ⟨rfl, rfl⟩
  | p :: r, j + 1, h => by
    have := rowC_at r j (by simpa using h)
    rw [Nat.succ_mul]
    exact this
theorem row_at {w : World} {g : Nat} {l : List S35} (h : w.heap[g]? = some (.cells (rowC l).toArray 35 (0, 0))) (j : Nat) (hj : j < l.length) : w.cell? ⟨g, j * 2, none⟩ = some (.int .i64 (l.getD j z35).f0) ∧ w.cell? ⟨g, j * 2 + 1, none⟩ = some (.int .i64 (l.getD j z35).f1) := by
  have := rowC_at l j hj
  rw [blk_cell h, blk_cell h]
  simpa using this
theorem rd_in9 {l : List S35} {j : Nat} (h : j < l.length) {z : S35} (hz : rd_T35 l (j : Int) = z) : l[j]? = some z := by
  subst hz
  simp [rd_T35, List.getD, h]
theorem rawL_next (l : List S35) (j : Nat) (h : j < l.length) {z : S35} (hz : rd_T35 l (j : Int) = z) : rawL (l.take j) ++ (cornL z).take 4 = rawL (l.take (j + 1)) := by
  have e := rd_in9 h hz
  unfold rawL
  rw [List.take_add_one (i := j), e, List.map_append, List.flatten_append]
  simp [cornL]
theorem wf_in9 {l : List S35} {j : Nat} (h : j < l.length) {z : S35} (hz : rd_T35 l (j : Int) = z) (hw : l.all wf9 = true) {i : Nat} (hi : i < 4) {p : S35} (hp : (cornL z).getD i z35 = p) : wf9 p = true := by
  have h1 := List.all_eq_true.1 hw z (List.mem_of_getElem? (rd_in9 h hz))
  refine cornL_wf h1 ?_
  have hl : i < (cornL z).length := hi
  rw [List.getD_eq_getElem?_getD, List.getElem?_eq_getElem hl] at hp
  subst hp
  exact List.getElem_mem hl
theorem corn_next {z p : S35} {i : Nat} (hi : i < 4) (hp : (cornL z).getD i z35 = p) (l : List S35) : l ++ (cornL z).take i ++ [p] = l ++ (cornL z).take (i + 1) := by
  have hl : i < (cornL z).length := hi
  rw [List.getD_eq_getElem?_getD, List.getElem?_eq_getElem hl] at hp
  rw [List.take_add_one (i := i), List.getElem?_eq_getElem hl, List.append_assoc]
  subst hp
  rfl
def boolsC (bs : List Bool) (j : Nat) : Array Value := ((bs.take j ++ List.replicate (4 - j) false).map Value.bool).toArray
theorem near_at {x : S35} {k : Nat} {l : List S35} {j : Nat} (hj : j < 4) : ((nearL x).map (isIn k l)).take (j + 1) = ((nearL x).map (isIn k l)).take j ++ [isIn k l ((nearL x).getD j z35)] := by
  have hl : j < (nearL x).length := hj
  rw [List.take_add_one (i := j), List.getElem?_map, List.getElem?_eq_getElem hl, List.getD_eq_getElem?_getD, List.getElem?_eq_getElem hl]
  rfl
theorem near_in {x : S35} {j : Nat} (hj : j < 4) : (nearL x).getD j z35 ∈ nearL x := by
  have hl : j < (nearL x).length := hj
  rw [List.getD_eq_getElem?_getD, List.getElem?_eq_getElem hl]
  exact List.getElem_mem hl
theorem cntB_snoc : ∀ (l : List Bool) (b : Bool), cntB (l ++ [b]) = cntB l + (if b = true then 1 else 0)
  | [], b => by simp [cntB]
  | a :: r, b => by
    rw [List.cons_append, cntB, cntB_snoc r b, cntB]
    omega
theorem cntB_le : ∀ l : List Bool, cntB l ≤ l.length
  | [] => Nat.le_refl _
  | a :: r => by
    have := cntB_le r
    rw [cntB, List.length_cons]
    split <;> omega
theorem bools_false {l : List Bool} {j : Nat} (hj : j < 4) (hl : l.length = 4) (h : l.take (j + 1) = l.take j ++ [false]) : boolsC l (j + 1) = boolsC l j := by
  unfold boolsC
  rw [h, show 4 - j = (4 - (j + 1)) + 1 by omega, List.replicate_succ, List.append_assoc]
  rfl
theorem bools_true {l : List Bool} {j : Nat} (hj : j < 4) (hl : l.length = 4) (h : l.take (j + 1) = l.take j ++ [true]) : (boolsC l j).setIfInBounds j (.bool true) = boolsC l (j + 1) := by
  unfold boolsC
  rw [h, show 4 - j = (4 - (j + 1)) + 1 by omega, List.replicate_succ]
  have hle : (l.take j).length = j := by rw [List.length_take]; omega
  simp only [List.map_append, List.map_cons, List.setIfInBounds_toArray, List.map_nil, List.append_assoc]
  congr 1
  rw [List.set_append_right _ _ (by rw [List.length_map]; omega), List.length_map, hle, Nat.sub_self]
  rfl
theorem boolsC_at {l : List Bool} {j : Nat} (hj : j < 4) (hl : l.length = 4) : (boolsC l j)[j]? = some (.bool false) := by
  have hle : (l.take j).length = j := by rw [List.length_take]; omega
  unfold boolsC
  rw [List.getElem?_toArray, List.map_append, List.getElem?_append_right (by rw [List.length_map]; omega), List.length_map, hle, Nat.sub_self, show 4 - j = (4 - (j + 1)) + 1 by omega, List.replicate_succ]
  rfl
theorem cr_nil {rest : List Oper} {o : Oper} {a : Act} {ops : Array Oper} {Q : Exit → Act → World → Prop} {W : World} {b r : Nat} (hgd : o.guard = none) (it : Operand) (hop : o.op = .next it false) (hit : a.eval it = .pointer (some ⟨r, 0, none⟩)) (hR : CR W b r [])
    (h : wpList Try.prog ops Q rest (a.put o.dst (.tuple #[.bool false])) W) : wpList Try.prog ops Q (o :: rest) a W :=
  cr_next hgd it hop hit hR (fun _ => h) (fun x c l' w1 _ hp => by have := hp.length_eq; simp at this)
theorem cr_cons {rest : List Oper} {o : Oper} {a : Act} {ops : Array Oper} {Q : Exit → Act → World → Prop} {W : World} {b r : Nat} {y : S35} {l : List S35} (hgd : o.guard = none) (it : Operand) (hop : o.op = .next it false) (hit : a.eval it = .pointer (some ⟨r, 0, none⟩)) (hR : CR W b r (y :: l))
    (h : ∀ (x : S35) (c : Bool) (l' : List S35) (w1 : World), (y :: l).Perm (x :: l') → CR w1 b r l' → W.grownBy w1 (some r) → w1.heap.size = W.heap.size → (Instr.entry (.pointer (some ⟨r, 0, none⟩))).run Try.prog w1 = .ok (.tuple #[.agg #[.int .i64 x.f0, .int .i64 x.f1], .bool c]) w1 → wpList Try.prog ops Q rest (a.put o.dst (.tuple #[.bool true, .agg #[.int .i64 x.f0, .int .i64 x.f1], .bool c])) w1) : wpList Try.prog ops Q (o :: rest) a W :=
  cr_next hgd it hop hit hR (fun h => by cases h) (fun x c l' w1 _ hp h1 h2 h3 h4 => h x c l' w1 hp h1 h2 h3 h4)
theorem sumP_perm (f : S35 → Nat) {l l' : List S35} (h : l.Perm l') : sumP f l = sumP f l' := by
  induction h with
  | nil => rfl
  | cons _ _ ih => simp only [sumP, ih]
  | swap a b l => simp only [sumP]; omega
  | trans _ _ ih1 ih2 => exact ih1.trans ih2
theorem impl_CornerCount.calls (k : Nat) (A0 : Option Addr) (c0 : Nat) (l0 : List S35) (r1 : Int) (r2 : Int) (w : World) (hr0 : Kd.C k35 w A0 l0.length l0) (hc0 : l0.length ≤ c0) (h : impl_CornerCount.f k l0 = some (r1, r2)) :
    Calls Try.prog 8 #[.slice A0 l0.length c0] w fun e w' => e = .returned (.tuple #[.int .i64 r1, .int .i64 r2]) ∧ Below w.heap.size w w' := by
  have hu := Try.underlying35
  have hi41 : Try.prog.underlying 41 = some (.array 4 4) := Try.underlying41
  have HR0 := aM hr0
  have HC0 := aM hc0
  clear hr0 hc0
  unfold impl_CornerCount.f at h
  obtain ⟨t, ht, h⟩ := Option.bind_eq_some_iff.mp h
  have HT := aM ht
  clear ht
  cases t with
  | false =>
    rw [if_neg (by simp)] at h
    simp only [Option.some.injEq, Prod.mk.injEq] at h
    obtain ⟨rfl, rfl⟩ := h
    go_enter Try.func8, Try.ntmps8
    go_wp2_with (go_at_call 19; refine (impl_IsShape.calls k A0 c0 l0 false _ HR0.out HC0.out HT.out).mono ?_; rintro e w1 ⟨rfl, hb⟩)
    go_ret2
    exact ⟨rfl, hb⟩
  | true =>
    rw [if_pos rfl] at h
    by_cases hg : ¬ ((l0.length ≤ 1000000 ∧ l0.all wf9 = true) ∧ ((ptsL l0).all fun p => (nearL p).all fun q => (impl_Cell_20.f k l0 q.f0 q.f1).isSome) = true)
    · rw [if_neg hg] at h
      cases h
    replace hg := Classical.not_not.1 hg
    rw [if_pos hg] at h
    simp only [Option.some.injEq, Prod.mk.injEq] at h
    obtain ⟨rfl, rfl⟩ := h
    have HG := aM hg
    clear hg
    go_enter Try.func8, Try.ntmps8
    go_wp2_with (first
      | (go_at_call 19; refine (impl_IsShape.calls k A0 c0 l0 true _ HR0.out HC0.out HT.out).mono ?_; rintro e w1 ⟨rfl, hb1⟩; have HB1 := aM hb1; clear hb1)
      | ((with_reducible refine gate_dst (N := 18) rfl ?_); refine cm_make rfl rfl ?_; intro bm w2 hb hlt hM; have HS := aM (show ST w bm [] w2 from ⟨hM, below_step HB1.out hb⟩); have HL := aM (Nat.le_trans (below_size HB1.out) hlt); clear HB1 hb hlt hM))
    go_loopg [21] l0.length (fun gg v21 w' => ∃ kk : Nat, v21 = .int .i64 kk ∧ Aside0 (kk ≤ l0.length ∧ l0.length - kk ≤ gg) ∧ Aside0 (ST w bm (rawL (l0.take kk)) w'))
    case atStart => exact ⟨0, rfl, ⟨Nat.zero_le _, by omega⟩, ⟨HS.out⟩⟩
    case round =>
      clear HS
      obtain ⟨kk, rfl, HK, HS⟩ := hrel
      by_cases hlt : kk < l0.length
      · have hltz : decide ((kk : Int) < (l0.length : Int)) = true := decide_eq_true (by omega)
        have p9 : 0 ≤ (kk : Int) := by omega
        have q9 : (kk : Int) < (l0.length : Int) := by omega
        obtain ⟨ad9, e9, hx9, hy9⟩ := at_T35 (Kd.C_below HR0.out HS.out.2) (kk : Int) p9 q9
        cases e9
        rw [Int.toNat_natCast] at hx9 hy9
        replace p9 := eq_true p9
        replace q9 := eq_true q9
        generalize hz : rd_T35 l0 (kk : Int) = z at hx9 hy9
        have HZ := aM hz
        clear hz
        have HLT := aM hlt
        clear hlt
        go_wp2_with (first
          | ((with_reducible refine gate_dst (N := 6) rfl ?_); refine zx 6 #[.int .i64 0, .int .i64 0] 35 ?_; intro g6 hg6 w3 hbox hb; have hx9' := pw_cell_below hb hx9; have hy9' := pw_cell_below hb hy9; have HS6 := aM (st_below HS.out hb); have NE6 := aM (cm_neB HS6.out.1 hbox); have GE6 := aM (show w.heap.size ≤ g6 by rw [hg6]; exact below_size HS.out.2); clear hb hg6 HS hx9 hy9; have hcz6_0 : w3.cell? ⟨g6, 0, none⟩ = some (.int .i64 0) := (blk_cell hbox 0).trans rfl; have hcz6_1 : w3.cell? ⟨g6, 1, none⟩ = some (.int .i64 0) := (blk_cell hbox 1).trans rfl; have hfz6_0 := blk_frozen hbox 0; have hfz6_1 := blk_frozen hbox 1; clear hbox)
          | ((with_reducible refine gate_dst (N := 45) rfl ?_); refine lit_event ?hg (N := 45) ?hd (cs := (rowC (cornL z)).toArray) (t := 35) (n := 4) ?hr ?_; (case hd => rfl); (case hg => rfl); (case hr => first | (go_simp; done) | (go_simp; rfl)); intro g45 hg45 w4 hrow hb; have HS7 := aM (st_below (st_set (st_set HS6.out NE6.out GE6.out 0 (.int .i64 z.f0)) NE6.out GE6.out 1 (.int .i64 z.f1)) hb); have NE45 := aM (cm_neB HS7.out.1 hrow); have HROW := aM hrow; clear hb hg45 hrow HS6 hcz6_0 hcz6_1 hfz6_0 hfz6_1 hx9' hy9'))
        go_loopg [47] 4 (fun gg v47 w' => ∃ jj : Nat, v47 = .int .i64 jj ∧ Aside0 (jj ≤ 4 ∧ 4 - jj ≤ gg) ∧ Aside0 (w'.heap[g45]? = some (.cells (rowC (cornL z)).toArray 35 (0, 0))) ∧ Aside0 (ST w bm (rawL (l0.take kk) ++ (cornL z).take jj) w'))
        case atStart => exact ⟨0, rfl, ⟨by omega, by omega⟩, HROW, ⟨by simpa using HS7.out⟩⟩
        case round =>
          clear HROW HS7
          obtain ⟨jj, rfl, HJ, HROW, HS⟩ := hrel
          by_cases hlj : jj < 4
          · have hltj : decide ((jj : Int) < 4) = true := decide_eq_true (by omega)
            have hltk : (jj : Int) < 4 := by omega
            obtain ⟨hx7, hy7⟩ := row_at HROW.out jj hlj
            generalize hp : (cornL z).getD jj z35 = p at hx7 hy7
            have HP := aM hp
            clear hp
            have HLJ := aM hlj
            clear hlj
            have p7 : (0 ≤ (jj : Int)) = True := eq_true (by omega)
            replace hltk := eq_true hltk
            go_wp2_with (first
              | ((with_reducible refine gate_dst (N := 8) rfl ?_); refine zx 8 #[.int .i64 0, .int .i64 0] 35 ?_; intro g8 hg8 w5 hbox hb; have hx7' := pw_cell_below hb hx7; have hy7' := pw_cell_below hb hy7; have HS8 := aM (st_below HS.out hb); have NE8 := aM (cm_neB HS8.out.1 hbox); have GE8 := aM (show w.heap.size ≤ g8 by rw [hg8]; exact below_size HS.out.2); have NR8 := aM (show g45 ≠ g8 by rw [hg8]; exact Nat.ne_of_lt (blk_lt HROW.out)); have HROW8 := aM (blk_below HROW.out hb); clear hb hg8 HS HROW hx7 hy7; have hcz8_0 : w5.cell? ⟨g8, 0, none⟩ = some (.int .i64 0) := (blk_cell hbox 0).trans rfl; have hcz8_1 : w5.cell? ⟨g8, 1, none⟩ = some (.int .i64 0) := (blk_cell hbox 1).trans rfl; have hfz8_0 := blk_frozen hbox 0; have hfz8_1 := blk_frozen hbox 1; clear hbox)
              | ((with_reducible refine gate_map9 (t := 40) (m := .tmp 51) (x := .tmp 52) (v := .const (.bool true)) rfl ?_); refine cm_put (b := bm) (l := rawL (l0.take kk) ++ (cornL z).take jj) rfl _ _ _ rfl rfl ?hM ?hl p rfl rfl ?hc ?_; (case hM => exact (st_set (st_set HS8.out NE8.out GE8.out 0 (.int .i64 p.f0)) NE8.out GE8.out 1 (.int .i64 p.f1)).1); (case hl => have h1 := HG.out.1.1; have h2 := HLJ.out; have h3 := rawL_len (l0.take kk); rw [List.length_take] at h3; rw [List.length_append, List.length_take]; omega); (case hc => exact wf_in9 HLT.out HZ.out HG.out.1.2 HLJ.out HP.out); intro w6 hg hM6; rw [corn_next HLJ.out HP.out] at hM6; have HS9 := aM (show ST w bm (rawL (l0.take kk) ++ (cornL z).take (jj + 1)) w6 from ⟨hM6, pw_below_grown (st_set (st_set HS8.out NE8.out GE8.out 0 (.int .i64 p.f0)) NE8.out GE8.out 1 (.int .i64 p.f1)).2 (some bm) (below_size (st_set (st_set HS8.out NE8.out GE8.out 0 (.int .i64 p.f0)) NE8.out GE8.out 1 (.int .i64 p.f1)).2) hg (fun _ hk_ => by injection hk_ with hk_; subst hk_; exact HL.out)⟩); have HROW9 := aM (blk_grown (blk_far (blk_far HROW8.out NR8.out (.int .i64 p.f0)) NR8.out (.int .i64 p.f1)) hg (by simpa using Ne.symm NE45.out)); clear hg hM6 HS8 HROW8 hx7' hy7' hcz8_0 hcz8_1 hfz8_0 hfz8_1))
            go_roundg (4 - (jj + 1))
            case measure => have := HJ.out; have := HLJ.out; omega
            case rel => exact ⟨jj + 1, by rw [show wrap64 ((jj : Int) + 1) = ((jj + 1 : Nat) : Int) from by have := HLJ.out; unfold wrap64; omega], ⟨by have := HLJ.out; omega, Nat.le_refl _⟩, HROW9, HS9⟩
          · have hltj : decide ((jj : Int) < 4) = false := decide_eq_false (by omega)
            have e : jj = 4 := by have := HJ.out.1; omega
            subst e
            go_wp2
            go_roundg (l0.length - (kk + 1))
            case measure => have := HK.out; have := HLT.out; omega
            case rel => exact ⟨kk + 1, by rw [show wrap64 ((kk : Int) + 1) = ((kk + 1 : Nat) : Int) from by have := HLT.out; have := HG.out.1.1; unfold wrap64; omega], ⟨HLT.out, Nat.le_refl _⟩, ⟨by rw [← rawL_next l0 kk HLT.out HZ.out]; exact HS.out⟩⟩
      · have hltz : decide ((kk : Int) < (l0.length : Int)) = false := decide_eq_false (by omega)
        have e : kk = l0.length := by have := HK.out.1; omega
        subst e
        rw [List.take_length] at HS
        go_wp2_with (first
          | ((with_reducible refine gate_dst (N := 56) rfl ?_); refine cr_range (b := bm) (l := rawL l0) rfl _ rfl rfl HS.out.1 (ptsL l0) (ptsL_nodup l0) ?hw ?he ?_; (case hw => intro p hp; exact rawL_wf HG.out.1.2 ((ptsL_mem l0 p).1 hp)); (case he => exact ptsL_mem l0); intro w7 rm hb hle hR; have HRM := aM (Nat.le_trans (below_size HS.out.2) hle); have HS1 := aM (show SR w bm rm (ptsL l0) w7 from ⟨hR, below_step HS.out.2 hb⟩); clear hb hle hR HS))
        go_frame
        have HTOT := aM (show sumP (termP k l0) (ptsL l0) ≤ 8000000 by have h1 := sumP_le (termP k l0) (fun p => termB_le _) (ptsL l0); have h2 := ptsL_len l0; have h3 := HG.out.1.1; omega)
        go_loopg [9] (ptsL l0).length (fun gg v9 w' => ∃ (n : Nat) (rest : List S35), v9 = .int .i64 n ∧ Aside0 (rest.length ≤ gg ∧ n + sumP (termP k l0) rest = sumP (termP k l0) (ptsL l0) ∧ ∀ p ∈ rest, p ∈ ptsL l0) ∧ Aside0 (SR w bm rm rest w'))
        case atStart => exact ⟨0, ptsL l0, rfl, ⟨Nat.le_refl _, Nat.zero_add _, fun p hp => hp⟩, HS1⟩
        case round =>
          clear HS1
          obtain ⟨n, rest, rfl, HN, HS⟩ := hrel
          cases rest with
          | nil =>
            go_wp2_with (first
              | ((with_reducible refine gate_dst (N := 57) rfl ?_); refine cr_nil rfl _ rfl rfl HS.out.1 ?_))
            go_ret2
            refine ⟨?_, HS.out.2⟩
            rw [← HN.out.2.1]
            rfl
          | cons y rest =>
            go_wp2_with (first
              | ((with_reducible refine gate_dst (N := 57) rfl ?_); refine cr_cons rfl _ rfl rfl HS.out.1 ?_; intro x c rest' w8 hp hR hg hsz hen; have HP := aM hp; have HS2 := aM (show SR w bm rm rest' w8 from ⟨hR, pw_below_grown HS.out.2 (some rm) (below_size HS.out.2) hg (fun _ hk_ => by injection hk_ with hk_; subst hk_; exact HRM.out)⟩); clear hp hR hg hsz HS)
              | ((with_reducible refine gate_dst (N := 10) rfl ?_); refine zx 10 #[.int .i64 0, .int .i64 0] 35 ?_; intro g10 hg10 w9 hbox hb; clear hen; have HS3 := aM (sr_below HS2.out hb); have NE10 := aM (cr_neB HS3.out.1 hbox); have GE10 := aM (show w.heap.size ≤ g10 by rw [hg10]; exact below_size HS2.out.2); have HB10 := aM hbox; clear hb hg10 HS2; have hcz10_0 : w9.cell? ⟨g10, 0, none⟩ = some (.int .i64 0) := (blk_cell hbox 0).trans rfl; have hcz10_1 : w9.cell? ⟨g10, 1, none⟩ = some (.int .i64 0) := (blk_cell hbox 1).trans rfl; have hfz10_0 := blk_frozen hbox 0; have hfz10_1 := blk_frozen hbox 1; clear hbox)
              | ((with_reducible refine gate_dst (N := 11) rfl ?_); refine zx 11 #[.bool false, .bool false, .bool false, .bool false] 41 ?_; intro g11 hg11 w10 hbox hb; have HS4 := aM (sr_below (sr_set (sr_set HS3.out NE10.out.1 NE10.out.2 GE10.out 0 (.int .i64 x.f0)) NE10.out.1 NE10.out.2 GE10.out 1 (.int .i64 x.f1)) hb); have H10_ := blk_put (cs' := #[.int .i64 x.f0, .int .i64 x.f1]) (blk_put (cs' := #[.int .i64 x.f0, .int .i64 0]) HB10.out 0 (.int .i64 x.f0) rfl) 1 (.int .i64 x.f1) rfl; have hn1 : g11 ≠ g10 := (by rw [hg11]; exact Nat.ne_of_gt (blk_lt H10_)); have hn2 : g10 ≠ g11 := Ne.symm hn1; have H10 := aM (blk_below H10_ hb); have NE11 := aM (cr_neB HS4.out.1 hbox); have GE11 := aM (show w.heap.size ≤ g11 by rw [hg11]; exact below_size (sr_set (sr_set HS3.out NE10.out.1 NE10.out.2 GE10.out 0 (.int .i64 x.f0)) NE10.out.1 NE10.out.2 GE10.out 1 (.int .i64 x.f1)).2); have H11 := aM hbox; clear hb hg11 HS3 HB10 H10_ hcz10_0 hcz10_1 hfz10_0 hfz10_1; have hcz10_0 : w10.cell? ⟨g10, 0, none⟩ = some (.int .i64 x.f0) := (blk_cell H10.out 0).trans rfl; have hcz10_1 : w10.cell? ⟨g10, 1, none⟩ = some (.int .i64 x.f1) := (blk_cell H10.out 1).trans rfl; have hcz11_0 : w10.cell? ⟨g11, 0, none⟩ = some (.bool false) := (blk_cell hbox 0).trans rfl; have hcz11_1 : w10.cell? ⟨g11, 1, none⟩ = some (.bool false) := (blk_cell hbox 1).trans rfl; have hcz11_2 : w10.cell? ⟨g11, 2, none⟩ = some (.bool false) := (blk_cell hbox 2).trans rfl; have hcz11_3 : w10.cell? ⟨g11, 3, none⟩ = some (.bool false) := (blk_cell hbox 3).trans rfl; have hfz11_0 := blk_frozen hbox 0; have hfz11_1 := blk_frozen hbox 1; have hfz11_2 := blk_frozen hbox 2; have hfz11_3 := blk_frozen hbox 3; clear hbox)
              | ((with_reducible refine gate_dst (N := 86) rfl ?_); refine lit_event ?hg (N := 86) ?hd (cs := (rowC (nearL x)).toArray) (t := 35) (n := 4) ?hr ?_; (case hd => rfl); (case hg => rfl); (case hr => first | (go_simp; done) | (go_simp; rfl)); intro g86 hg86 w11 hrow hb; have HS5 := aM (sr_below (sr_set (sr_set (sr_set (sr_set HS4.out NE11.out.1 NE11.out.2 GE11.out 0 (.bool false)) NE11.out.1 NE11.out.2 GE11.out 1 (.bool false)) NE11.out.1 NE11.out.2 GE11.out 2 (.bool false)) NE11.out.1 NE11.out.2 GE11.out 3 (.bool false)) hb); have H11_ := blk_below (blk_put (cs := #[.bool false, .bool false, .bool false, .bool false]) (cs' := #[.bool false, .bool false, .bool false, .bool false]) (blk_put (cs := #[.bool false, .bool false, .bool false, .bool false]) (cs' := #[.bool false, .bool false, .bool false, .bool false]) (blk_put (cs := #[.bool false, .bool false, .bool false, .bool false]) (cs' := #[.bool false, .bool false, .bool false, .bool false]) (blk_put (cs := #[.bool false, .bool false, .bool false, .bool false]) (cs' := #[.bool false, .bool false, .bool false, .bool false]) H11.out 0 (.bool false) rfl) 1 (.bool false) rfl) 2 (.bool false) rfl) 3 (.bool false) rfl) hb; have NRA := aM (show g86 ≠ g11 by rw [hg86]; exact Nat.ne_of_gt (blk_lt (blk_put (cs := #[.bool false, .bool false, .bool false, .bool false]) (cs' := #[.bool false, .bool false, .bool false, .bool false]) (blk_put (cs := #[.bool false, .bool false, .bool false, .bool false]) (cs' := #[.bool false, .bool false, .bool false, .bool false]) (blk_put (cs := #[.bool false, .bool false, .bool false, .bool false]) (cs' := #[.bool false, .bool false, .bool false, .bool false]) (blk_put (cs := #[.bool false, .bool false, .bool false, .bool false]) (cs' := #[.bool false, .bool false, .bool false, .bool false]) H11.out 0 (.bool false) rfl) 1 (.bool false) rfl) 2 (.bool false) rfl) 3 (.bool false) rfl))); have H11' := aM (show w11.heap[g11]? = some (.cells (boolsC ((nearL x).map (isIn k l0)) 0) 41 (0, 0)) from H11_); have HROW := aM hrow; clear hb hg86 H11 H11_ HS4 hrow hn1 hn2 H10 hcz10_0 hcz10_1 hcz11_0 hcz11_1 hcz11_2 hcz11_3 hfz11_0 hfz11_1 hfz11_2 hfz11_3))
            go_loopg [12, 88] 4 (fun gg v12 v88 w' => ∃ jj : Nat, v12 = .int .i64 (cntB (((nearL x).map (isIn k l0)).take jj) : Nat) ∧ v88 = .int .i64 jj ∧ Aside0 (jj ≤ 4 ∧ 4 - jj ≤ gg) ∧ Aside0 (w'.heap[g86]? = some (.cells (rowC (nearL x)).toArray 35 (0, 0))) ∧ Aside0 (w'.heap[g11]? = some (.cells (boolsC ((nearL x).map (isIn k l0)) jj) 41 (0, 0))) ∧ Aside0 (SR w bm rm rest' w'))
            case atStart => exact ⟨0, rfl, rfl, ⟨by omega, by omega⟩, HROW, H11', HS5⟩
            case round =>
              clear HROW H11' HS5
              obtain ⟨jj, rfl, rfl, HJ, HROW, H11, HS⟩ := hrel
              by_cases hlj : jj < 4
              · have hltj : decide ((jj : Int) < 4) = true := decide_eq_true (by omega)
                have hltk : ((jj : Int) < 4) = True := eq_true (by omega)
                have p7 : (0 ≤ (jj : Int)) = True := eq_true (by omega)
                obtain ⟨hx7, hy7⟩ := row_at HROW.out jj hlj
                have hnx := near_at (x := x) (k := k) (l := l0) hlj
                have hmem := near_in (x := x) hlj
                generalize (nearL x).getD jj z35 = p at hx7 hy7 hnx hmem
                have hxp : x ∈ ptsL l0 := HN.out.2.2 x (HP.out.mem_iff.2 List.mem_cons_self)
                obtain ⟨bb, hbb⟩ := Option.isSome_iff_exists.1 (List.all_eq_true.1 (List.all_eq_true.1 HG.out.2 x hxp) p hmem)
                have hin : isIn k l0 p = bb := by unfold isIn; rw [hbb]; cases bb <;> rfl
                rw [hin] at hnx
                have HNX := aM hnx
                have HBB := aM hbb
                clear hnx hbb hin hmem hxp
                have HLJ := aM hlj
                clear hlj
                cases bb with
                | true =>
                  go_wp2_with (first
                    | ((with_reducible refine gate_dst (N := 14) rfl ?_); refine zx 14 #[.int .i64 0, .int .i64 0] 35 ?_; intro g14 hg14 w12 hbox hb; have HS6 := aM (sr_below HS.out hb); have NE14 := aM (cr_neB HS6.out.1 hbox); have GE14 := aM (show w.heap.size ≤ g14 by rw [hg14]; exact below_size HS.out.2); have NA14 := aM (show g11 ≠ g14 by rw [hg14]; exact Nat.ne_of_lt (blk_lt H11.out)); have NR14 := aM (show g86 ≠ g14 by rw [hg14]; exact Nat.ne_of_lt (blk_lt HROW.out)); have H11b := aM (blk_below H11.out hb); have HROWb := aM (blk_below HROW.out hb); clear hb hg14 HS H11 HROW hx7 hy7; have hcz14_0 : w12.cell? ⟨g14, 0, none⟩ = some (.int .i64 0) := (blk_cell hbox 0).trans rfl; have hcz14_1 : w12.cell? ⟨g14, 1, none⟩ = some (.int .i64 0) := (blk_cell hbox 1).trans rfl; have hfz14_0 := blk_frozen hbox 0; have hfz14_1 := blk_frozen hbox 1; clear hbox)
                    | (go_at_call 20; refine (impl_Cell_20.calls k A0 c0 l0 p.f0 p.f1 true _ (Kd.C_below HR0.out (sr_set (sr_set HS6.out NE14.out.1 NE14.out.2 GE14.out 0 (.int .i64 p.f0)) NE14.out.1 NE14.out.2 GE14.out 1 (.int .i64 p.f1)).2) HC0.out HBB.out).mono ?_; rintro e w13 ⟨rfl, hb⟩; have HS7 := aM (sr_below (sr_set (sr_set HS6.out NE14.out.1 NE14.out.2 GE14.out 0 (.int .i64 p.f0)) NE14.out.1 NE14.out.2 GE14.out 1 (.int .i64 p.f1)) hb); have H11c := aM (blk_below (blk_far (blk_far H11b.out NA14.out (.int .i64 p.f0)) NA14.out (.int .i64 p.f1)) hb); have HROWc := aM (blk_below (blk_far (blk_far HROWb.out NR14.out (.int .i64 p.f0)) NR14.out (.int .i64 p.f1)) hb); clear hb HS6 H11b HROWb hcz14_0 hcz14_1 hfz14_0 hfz14_1; have hc9 := (blk_cell H11c.out jj).trans (boolsC_at (l := (nearL x).map (isIn k l0)) HLJ.out rfl); have hf9 := blk_frozen H11c.out jj))
                  go_roundg (4 - (jj + 1))
                  case measure => have := HJ.out; have := HLJ.out; omega
                  case rel =>
                    refine ⟨jj + 1, ?_, by rw [show wrap64 ((jj : Int) + 1) = ((jj + 1 : Nat) : Int) from by have := HLJ.out; unfold wrap64; omega], ⟨by have := HLJ.out; omega, Nat.le_refl _⟩, ⟨blk_far HROWc.out NRA.out _⟩, ⟨blk_put H11c.out jj (.bool true) (bools_true HLJ.out rfl HNX.out)⟩, ⟨sr_set HS7.out NE11.out.1 NE11.out.2 GE11.out jj _⟩⟩
                    rw [HNX.out, cntB_snoc]
                    have h1 := cntB_le (((nearL x).map (isIn k l0)).take jj)
                    rw [List.length_take] at h1
                    have h2 := HLJ.out
                    generalize cntB (((nearL x).map (isIn k l0)).take jj) = m at h1 ⊢
                    rw [if_pos rfl, show wrap64 ((m : Int) + 1) = ((m + 1 : Nat) : Int) from by unfold wrap64; omega]
                | false =>
                  go_wp2_with (first
                    | ((with_reducible refine gate_dst (N := 14) rfl ?_); refine zx 14 #[.int .i64 0, .int .i64 0] 35 ?_; intro g14 hg14 w12 hbox hb; have HS6 := aM (sr_below HS.out hb); have NE14 := aM (cr_neB HS6.out.1 hbox); have GE14 := aM (show w.heap.size ≤ g14 by rw [hg14]; exact below_size HS.out.2); have NA14 := aM (show g11 ≠ g14 by rw [hg14]; exact Nat.ne_of_lt (blk_lt H11.out)); have NR14 := aM (show g86 ≠ g14 by rw [hg14]; exact Nat.ne_of_lt (blk_lt HROW.out)); have H11b := aM (blk_below H11.out hb); have HROWb := aM (blk_below HROW.out hb); clear hb hg14 HS H11 HROW hx7 hy7; have hcz14_0 : w12.cell? ⟨g14, 0, none⟩ = some (.int .i64 0) := (blk_cell hbox 0).trans rfl; have hcz14_1 : w12.cell? ⟨g14, 1, none⟩ = some (.int .i64 0) := (blk_cell hbox 1).trans rfl; have hfz14_0 := blk_frozen hbox 0; have hfz14_1 := blk_frozen hbox 1; clear hbox)
                    | (go_at_call 20; refine (impl_Cell_20.calls k A0 c0 l0 p.f0 p.f1 false _ (Kd.C_below HR0.out (sr_set (sr_set HS6.out NE14.out.1 NE14.out.2 GE14.out 0 (.int .i64 p.f0)) NE14.out.1 NE14.out.2 GE14.out 1 (.int .i64 p.f1)).2) HC0.out HBB.out).mono ?_; rintro e w13 ⟨rfl, hb⟩; have HS7 := aM (sr_below (sr_set (sr_set HS6.out NE14.out.1 NE14.out.2 GE14.out 0 (.int .i64 p.f0)) NE14.out.1 NE14.out.2 GE14.out 1 (.int .i64 p.f1)) hb); have H11c := aM (blk_below (blk_far (blk_far H11b.out NA14.out (.int .i64 p.f0)) NA14.out (.int .i64 p.f1)) hb); have HROWc := aM (blk_below (blk_far (blk_far HROWb.out NR14.out (.int .i64 p.f0)) NR14.out (.int .i64 p.f1)) hb); clear hb HS6 H11b HROWb hcz14_0 hcz14_1 hfz14_0 hfz14_1; skip))
                  go_roundg (4 - (jj + 1))
                  case measure => have := HJ.out; have := HLJ.out; omega
                  case rel =>
                    refine ⟨jj + 1, ?_, by rw [show wrap64 ((jj : Int) + 1) = ((jj + 1 : Nat) : Int) from by have := HLJ.out; unfold wrap64; omega], ⟨by have := HLJ.out; omega, Nat.le_refl _⟩, HROWc, ⟨by rw [bools_false HLJ.out rfl HNX.out]; exact H11c.out⟩, HS7⟩
                    rw [HNX.out, cntB_snoc, if_neg (by simp)]
                    rfl
              · have hltj : decide ((jj : Int) < 4) = false := decide_eq_false (by omega)
                have e : jj = 4 := by have := HJ.out.1; omega
                subst e
                obtain ⟨b0, b1, b2, b3, hbs⟩ : ∃ b0 b1 b2 b3, (nearL x).map (isIn k l0) = [b0, b1, b2, b3] := ⟨_, _, _, _, rfl⟩
                have hterm : termP k l0 x = termB [b0, b1, b2, b3] := by unfold termP; rw [hbs]
                rw [hbs] at H11 ⊢
                have hc0 : wr.cell? ⟨g11, 0, none⟩ = some (.bool b0) := (blk_cell H11.out 0).trans rfl
                have hc2 : wr.cell? ⟨g11, 2, none⟩ = some (.bool b2) := (blk_cell H11.out 2).trans rfl
                have hf0 := blk_frozen H11.out 0
                have hf2 := blk_frozen H11.out 2
                have hsum : sumP (termP k l0) (y :: rest) = termB [b0, b1, b2, b3] + sumP (termP k l0) rest' := by rw [sumP_perm _ HP.out, sumP, hterm]
                obtain ⟨tt, htt⟩ : ∃ tt, tt = termB [b0, b1, b2, b3] := ⟨_, rfl⟩
                rw [← htt] at hsum
                have HSUM := aM hsum
                have HTT := aM htt
                clear hbs hterm hsum htt
                have hlen : rest'.length < (y :: rest).length := by have := HP.out.length_eq; simp only [List.length_cons] at this ⊢; omega
                have HLEN := aM hlen
                clear hlen
                have HMEM := aM (show ∀ p ∈ rest', p ∈ ptsL l0 from fun p hp => HN.out.2.2 p (HP.out.mem_iff.2 (List.mem_cons_of_mem _ hp)))
                cases b0 <;> cases b1 <;> cases b2 <;> cases b3 <;> simp only [cntB, List.take, if_true, reduceCtorEq, if_false, Bool.false_eq_true, Nat.add_zero, Nat.zero_add, Nat.reduceAdd, Int.cast_ofNat_Int] <;> go_wp2 <;>
                  (go_roundg rest'.length
                   case measure => have := HN.out.1; have := HLEN.out; omega
                   case rel =>
                     refine ⟨n + tt, rest', ?_, ⟨Nat.le_refl _, by have h1 := HN.out.2.1; have h2 := HSUM.out; omega, HMEM.out⟩, HS⟩
                     have hn9 : n ≤ 8000000 := by have h1 := HN.out.2.1; have h2 := HTOT.out; omega
                     first
                       | (have h9 : tt = 0 := HTT.out
                          subst h9
                          rfl)
                       | (have h9 : tt = 1 := HTT.out
                          subst h9
                          rw [show wrap64 ((n : Int) + 1) = ((n + 1 : Nat) : Int) from by unfold wrap64; omega])
                       | (have h9 : tt = 2 := HTT.out
                          subst h9
                          rw [show wrap64 ((n : Int) + 2) = ((n + 2 : Nat) : Int) from by unfold wrap64; omega]))
end Go.Proofs.Ytpoiiaephcddoaa.F
end
section
namespace Go.Proofs.Ytpoiiaephcddoaa.F
open Go.RowKit Go.Proofs.YtpoiiaephcddoaaW.PrintWords Go.Proofs.YtpoiiaephcddoaaW.PrintLast Go.Proofs.YtpoiiaephcddoaaW.PrintMore
attribute [local go_sem] max2_int min2_int max_two min_two max_three min_three max_four min_four
set_option linter.unusedVariables false
set_option linter.unusedSimpArgs false
def laws_big.f (l0 : List Int) : Option (Bool) := some (decide ((l0.length : Int) > 4096))
theorem laws_big.calls (A0 : Option Addr) (c0 : Nat) (l0 : List Int) (r : Bool) (w : World) (hr0 : Kd.C (Kd.int .u8) w A0 l0.length l0) (hc0 : l0.length ≤ c0) (h : laws_big.f l0 = some r) :
  Calls Try.prog 10 #[.slice A0 l0.length c0] w fun e w' => e = .returned (.bool r) ∧ Drawn0 w w' := by
 have HR0 := aM hr0
 have HC0 := aM hc0
 clear hr0 hc0
 have H : (some (decide ((l0.length : Int) > 4096))) = some r := h
 clear h
 obtain rfl := Option.some.inj H
 go_enter Try.func10, Try.ntmps10
 go_wp2
 go_ret
 exact ⟨by first | rfl | (simp; done) | (simp [*]; done), by repeat (first | exact Drawn0.refl _ | apply Drawn0.step)⟩
def IsS56 (w0 W : World) (g : Nat) (f0 : List Int) (f1 : Int) (f2 : Int) : Prop := ∃ A0 c0, W.heap[g]? = some (.cells #[.slice A0 f0.length c0, .int .i64 f1, .int .i64 f2] 56 (0, 0)) ∧ w0.heap.size ≤ g ∧ Kd.C (Kd.int .u8) w0 A0 f0.length f0
theorem IsS56.grown {w0 W : World} {g : Nat} {f0 : List Int} {f1 : Int} {f2 : Int} {W1 : World} {row : Option Nat} (h : IsS56 w0 W g f0 f1 f2) (hw : W.grownBy W1 row) (hne : some g ≠ row) : IsS56 w0 W1 g f0 f1 f2 := by
 obtain ⟨A0, c0, hb, hg, hr0⟩ := h
 exact ⟨A0, c0, blk_grown hb hw hne, hg, hr0⟩
theorem IsS56.kept {w0 W : World} {g : Nat} {f0 : List Int} {f1 : Int} {f2 : Int} {W1 : World} {S : Nat → Prop} (h : IsS56 w0 W g f0 f1 f2) (hk : Kept W W1 S) (hne : ¬ S g) : IsS56 w0 W1 g f0 f1 f2 := by
 obtain ⟨A0, c0, hb, hg, hr0⟩ := h
 exact ⟨A0, c0, blk_kept hb hk hne, hg, hr0⟩
theorem IsS56.below {w0 W : World} {g : Nat} {f0 : List Int} {f1 : Int} {f2 : Int} {W1 : World} (h : IsS56 w0 W g f0 f1 f2) (hw : Below W.heap.size W W1) : IsS56 w0 W1 g f0 f1 f2 := h.grown (grown_of_below hw none) (by simp)
theorem IsS56.alloc {w0 W : World} {g : Nat} {f0 : List Int} {f1 : Int} {f2 : Int} (h : IsS56 w0 W g f0 f1 f2) (o : Obj) : IsS56 w0 (W.alloc o) g f0 f1 f2 := h.below (below_alloc (Below.refl _ _) o)
theorem IsS56.drewN {w0 W : World} {g : Nat} {f0 : List Int} {f1 : Int} {f2 : Int} (h : IsS56 w0 W g f0 f1 f2) (m : Nat) : IsS56 w0 (W.drewN m) g f0 f1 f2 := h
theorem IsS56.drew {w0 W : World} {g : Nat} {f0 : List Int} {f1 : Int} {f2 : Int} (h : IsS56 w0 W g f0 f1 f2) : IsS56 w0 W.drew g f0 f1 f2 := h
theorem IsS56.at_ {w0 W : World} {g : Nat} {f0 : List Int} {f1 : Int} {f2 : Int} {w' : World} {m : Nat} (hq : W.drewN m = w') (h : IsS56 w0 W g f0 f1 f2) : IsS56 w0 w' g f0 f1 f2 := by subst hq; exact IsS56.drewN h m
theorem IsS56.apart {w0 W : World} {g : Nat} {f0 : List Int} {f1 : Int} {f2 : Int} {α : Type} {d : Kd α} {e : Nat} {base : Nat} {ok : Nat → Prop} {v : Value} {xs : List α} (h : IsS56 w0 W g f0 f1 f2) (ho : d.R e W base ok v xs) (ht : ∀ q, q ∈ e :: d.E → q ≠ 56) : d.R e W base (fun k => ok k ∧ k ≠ g) v xs := by
 obtain ⟨A0, c0, hb, hg, hr0⟩ := h
 exact Kd.R_types ho hb ht
theorem IsS56.own_ne {w0 W : World} {g : Nat} {f0 : List Int} {f1 : Int} {f2 : Int} {α : Type} {d : Kd α} {e : Nat} {base : Nat} {ok : Nat → Prop} {v : Value} {xs : List α} (h : IsS56 w0 W g f0 f1 f2) (ho : d.R e W base ok v xs) (ht : e ≠ 56) : some g ≠ v.ownBlock := by
 obtain ⟨A0, c0, hb, hg, hr0⟩ := h
 exact Kd.R_ne ho hb ht
theorem IsS56.ge {w0 W : World} {g : Nat} {f0 : List Int} {f1 : Int} {f2 : Int} (h : IsS56 w0 W g f0 f1 f2) : w0.heap.size ≤ g := by
 obtain ⟨A0, c0, hb, hg, hr0⟩ := h
 exact hg
theorem cellS56_0 {W : World} {g : Nat} {A0 : Option Addr} {c0 : Nat} {f0 : List Int} {f1 : Int} {f2 : Int} (h : W.heap[g]? = some (.cells #[.slice A0 f0.length c0, .int .i64 f1, .int .i64 f2] 56 (0, 0))) : W.cell? ⟨g, 0, none⟩ = some (.slice A0 f0.length c0) := (blk_cell h 0).trans rfl
theorem cellS56_1 {W : World} {g : Nat} {A0 : Option Addr} {c0 : Nat} {f0 : List Int} {f1 : Int} {f2 : Int} (h : W.heap[g]? = some (.cells #[.slice A0 f0.length c0, .int .i64 f1, .int .i64 f2] 56 (0, 0))) : W.cell? ⟨g, 1, none⟩ = some (.int .i64 f1) := (blk_cell h 1).trans rfl
theorem IsS56.set_1 {w0 W : World} {g : Nat} {f0 : List Int} {f1 : Int} {f2 : Int} (h : IsS56 w0 W g f0 f1 f2) (x : Int) : IsS56 w0 (W.setCell ⟨g, 1, none⟩ (.int .i64 x)) g f0 x f2 := by
 obtain ⟨A0, c0, hb, hg, hr0⟩ := h
 exact ⟨A0, c0, by simpa using blk_set hb 1 (.int .i64 x), hg, hr0⟩
theorem cellS56_2 {W : World} {g : Nat} {A0 : Option Addr} {c0 : Nat} {f0 : List Int} {f1 : Int} {f2 : Int} (h : W.heap[g]? = some (.cells #[.slice A0 f0.length c0, .int .i64 f1, .int .i64 f2] 56 (0, 0))) : W.cell? ⟨g, 2, none⟩ = some (.int .i64 f2) := (blk_cell h 2).trans rfl
theorem IsS56.set_2 {w0 W : World} {g : Nat} {f0 : List Int} {f1 : Int} {f2 : Int} (h : IsS56 w0 W g f0 f1 f2) (x : Int) : IsS56 w0 (W.setCell ⟨g, 2, none⟩ (.int .i64 x)) g f0 f1 x := by
 obtain ⟨A0, c0, hb, hg, hr0⟩ := h
 exact ⟨A0, c0, by simpa using blk_set hb 2 (.int .i64 x), hg, hr0⟩
def spec_l01Next.f (s0_0 : List Int) (s0_1 : Int) (s0_2 : Int) (a1 : Int) : Option (Int × Int × Int) := if a1 ≤ 1 then (some (0, s0_1, s0_2)) else (if s0_1 < (s0_0.length : Int) then (if 0 ≤ s0_1 then (if a1 ≤ 256 then (if (Int.tmod (wrap64 (s0_1 + 1)) 2) = 0 then (if 0 ≤ (wrap64 ((wrap64 (s0_1 + 1)) - 1)) then (if (wrap64 ((wrap64 (s0_1 + 1)) - 1)) < (s0_0.length : Int) then (if a1 = 0 then (none) else (some (Int.tmod (wrap64 (rd s0_0 (wrap64 ((wrap64 (s0_1 + 1)) - 1)))) a1, wrap64 (s0_1 + 1), Int.tmod (wrap64 ((wrap64 (s0_2 * 48271)) + 29)) 2147483647))) else (none)) else (none)) else (if a1 = 0 then (none) else (some (Int.tmod (wrap64 ((wrap64 (Int.tdiv (Int.tmod (wrap64 ((wrap64 (s0_2 * 48271)) + 29)) 2147483647) 31)) + (wrap64 (rd s0_0 s0_1)))) a1, wrap64 (s0_1 + 1), Int.tmod (wrap64 ((wrap64 (s0_2 * 48271)) + 29)) 2147483647)))) else (if a1 = 0 then (none) else (some (Int.tmod (wrap64 ((wrap64 (Int.tdiv (Int.tmod (wrap64 ((wrap64 (s0_2 * 48271)) + 29)) 2147483647) 31)) + (wrap64 (rd s0_0 s0_1)))) a1, wrap64 (s0_1 + 1), Int.tmod (wrap64 ((wrap64 (s0_2 * 48271)) + 29)) 2147483647)))) else (none)) else (if a1 = 0 then (none) else (some (Int.tmod (wrap64 (Int.tdiv (Int.tmod (wrap64 ((wrap64 (s0_2 * 48271)) + 29)) 2147483647) 31)) a1, s0_1, Int.tmod (wrap64 ((wrap64 (s0_2 * 48271)) + 29)) 2147483647))))
theorem spec_l01Next.calls (g : Nat) (s0_0 : List Int) (s0_1 : Int) (s0_2 : Int) (a1 : Int) (r1 : Int) (r2 : Int) (r3 : Int) (w0 w : World) (hI : IsS56 w0 w g s0_0 s0_1 s0_2) (hB : Below w0.heap.size w0 w) (h : spec_l01Next.f s0_0 s0_1 s0_2 a1 = some (r1, r2, r3)) :
  Calls Try.prog 33 #[.pointer (some ⟨g, 0, none⟩), .int .i64 a1] w fun e w' => e = .returned (.int .i64 r1) ∧ IsS56 w0 w' g s0_0 r2 r3 ∧ Below w0.heap.size w0 w' ∧ KeepBut w w' g none := by
 have HI0 := aM hI
 have HK := aM (KeepBut.refl w g none)
 have HL := aM hB.size
 clear hI
 have HW0 := aM hB.size
 have HB := aM hB
 clear hB
 have H : (if a1 ≤ 1 then (some (0, s0_1, s0_2)) else (if s0_1 < (s0_0.length : Int) then (if 0 ≤ s0_1 then (if a1 ≤ 256 then (if (Int.tmod (wrap64 (s0_1 + 1)) 2) = 0 then (if 0 ≤ (wrap64 ((wrap64 (s0_1 + 1)) - 1)) then (if (wrap64 ((wrap64 (s0_1 + 1)) - 1)) < (s0_0.length : Int) then (if a1 = 0 then (none) else (some (Int.tmod (wrap64 (rd s0_0 (wrap64 ((wrap64 (s0_1 + 1)) - 1)))) a1, wrap64 (s0_1 + 1), Int.tmod (wrap64 ((wrap64 (s0_2 * 48271)) + 29)) 2147483647))) else (none)) else (none)) else (if a1 = 0 then (none) else (some (Int.tmod (wrap64 ((wrap64 (Int.tdiv (Int.tmod (wrap64 ((wrap64 (s0_2 * 48271)) + 29)) 2147483647) 31)) + (wrap64 (rd s0_0 s0_1)))) a1, wrap64 (s0_1 + 1), Int.tmod (wrap64 ((wrap64 (s0_2 * 48271)) + 29)) 2147483647)))) else (if a1 = 0 then (none) else (some (Int.tmod (wrap64 ((wrap64 (Int.tdiv (Int.tmod (wrap64 ((wrap64 (s0_2 * 48271)) + 29)) 2147483647) 31)) + (wrap64 (rd s0_0 s0_1)))) a1, wrap64 (s0_1 + 1), Int.tmod (wrap64 ((wrap64 (s0_2 * 48271)) + 29)) 2147483647)))) else (none)) else (if a1 = 0 then (none) else (some (Int.tmod (wrap64 (Int.tdiv (Int.tmod (wrap64 ((wrap64 (s0_2 * 48271)) + 29)) 2147483647) 31)) a1, s0_1, Int.tmod (wrap64 ((wrap64 (s0_2 * 48271)) + 29)) 2147483647))))) = some (r1, r2, r3) := h
 clear h
 by_cases c3 : a1 ≤ 1
 ·rw [if_pos c3] at H
  have c3b0 : decide (a1 ≤ 1) = true := decide_eq_true c3
  clear c3
  simp only [Option.some.injEq, Prod.mk.injEq] at H
  obtain ⟨rfl, rfl, rfl⟩ := H
  go_enter Try.func33, Try.ntmps33
  go_wp2
  repeat (go_quiet (fail); try go_wp2)
  go_ret
  exact ⟨zw, zI56 HI0.out, zs (IsS56.ge HI0.out), zK HK.out⟩
 rw [if_neg c3] at H
 have c3b0 : decide (a1 ≤ 1) = false := decide_eq_false c3
 clear c3
 by_cases c4 : s0_1 < (s0_0.length : Int)
 rotate_left
 ·rw [if_neg c4] at H
  have c4b0 : decide (s0_1 < (s0_0.length : Int)) = false := decide_eq_false c4
  clear c4
  by_cases c17 : a1 = 0
  ·rw [if_pos c17] at H
   exact absurd H (by simp)
  rw [if_neg c17] at H
  have c17b0 : (a1 == 0) = false := beq_eq_false_iff_ne.mpr c17
  have c17b1 : (a1 != 0) = true := bne_iff_ne.mpr c17
  simp only [Option.some.injEq, Prod.mk.injEq] at H
  obtain ⟨rfl, rfl, rfl⟩ := H
  obtain ⟨ASz18_0, cSz18_0, HGz18, hgz18, HSz18_0⟩ := HI0.out
  have hcz18_0 := cellS56_0 HGz18
  have hcz18_1 := cellS56_1 HGz18
  have hcz18_2 := cellS56_2 HGz18
  have hfz18_1 := blk_frozen HGz18 1
  have hfz18_2 := blk_frozen HGz18 2
  clear HGz18 hgz18
  go_enter Try.func33, Try.ntmps33
  go_wp2
  repeat (go_quiet (fail); try go_wp2)
  go_ret
  exact ⟨zw, zI56 HI0.out, zs (IsS56.ge HI0.out), zK HK.out⟩
 rw [if_pos c4] at H
 have c4b0 : decide (s0_1 < (s0_0.length : Int)) = true := decide_eq_true c4
 clear c4
 by_cases c5 : 0 ≤ s0_1
 rotate_left
 ·rw [if_neg c5] at H
  exact absurd H (by simp)
 rw [if_pos c5] at H
 have c5b0 : decide (0 ≤ s0_1) = true := decide_eq_true c5
 clear c5
 by_cases c6 : a1 ≤ 256
 rotate_left
 ·rw [if_neg c6] at H
  have c6b0 : decide (a1 ≤ 256) = false := decide_eq_false c6
  clear c6
  by_cases c15 : a1 = 0
  ·rw [if_pos c15] at H
   exact absurd H (by simp)
  rw [if_neg c15] at H
  have c15b0 : (a1 == 0) = false := beq_eq_false_iff_ne.mpr c15
  have c15b1 : (a1 != 0) = true := bne_iff_ne.mpr c15
  simp only [Option.some.injEq, Prod.mk.injEq] at H
  obtain ⟨rfl, rfl, rfl⟩ := H
  obtain ⟨ASz16_0, cSz16_0, HGz16, hgz16, HSz16_0⟩ := HI0.out
  have hcz16_0 := cellS56_0 HGz16
  have hcz16_1 := cellS56_1 HGz16
  have hcz16_2 := cellS56_2 HGz16
  have hfz16_1 := blk_frozen HGz16 1
  have hfz16_2 := blk_frozen HGz16 2
  clear HGz16 hgz16
  have p191 : 0 ≤ (s0_1 : Int) := of_decide_eq_true za
  have q191 : s0_1 < (s0_0.length : Int) := of_decide_eq_true za
  obtain ⟨ad191, e191, hx191_0⟩ := Kd.at_int HSz16_0 s0_1 p191 q191
  cases e191
  have hn191_0 : ad191.block ≠ g := Nat.ne_of_lt (Nat.lt_of_lt_of_le (by have := World.block_lt_of_cell? _ _ hx191_0; first | rwa [add_block] at this | exact this) (IsS56.ge HI0.out))
  replace hx191_0 := pw_cell_below HB.out hx191_0
  replace hx191_0 := (cell_far (p := ⟨g, 2, none⟩) (by first | (rw [add_block]; exact hn191_0) | (show (Addr.add _ _).block ≠ _; rw [add_block]; exact hn191_0) | exact hn191_0) (.int .i64 (Int.tmod (wrap64 ((wrap64 (s0_2 * 48271)) + 29)) 2147483647))).trans hx191_0
  (try have hy191_0 := fun (n_ : Nat) => (show (((w.drewN n_).setCell ⟨g, 2, none⟩ (.int .i64 (Int.tmod (wrap64 ((wrap64 (s0_2 * 48271)) + 29)) 2147483647)))).cell? _ = some _ from hx191_0))
  clear hn191_0
  replace p191 := eq_true p191
  replace q191 := eq_true q191
  go_enter Try.func33, Try.ntmps33
  go_wp2
  repeat (go_quiet (fail); try go_wp2)
  go_ret
  exact ⟨zw, zI56 HI0.out, zs (IsS56.ge HI0.out), zK HK.out⟩
 rw [if_pos c6] at H
 have c6b0 : decide (a1 ≤ 256) = true := decide_eq_true c6
 clear c6
 by_cases c7 : (Int.tmod (wrap64 (s0_1 + 1)) 2) = 0
 rotate_left
 ·rw [if_neg c7] at H
  have c7b0 : ((Int.tmod (wrap64 (s0_1 + 1)) 2) == 0) = false := beq_eq_false_iff_ne.mpr c7
  have c7b1 : ((Int.tmod (wrap64 (s0_1 + 1)) 2) != 0) = true := bne_iff_ne.mpr c7
  by_cases c13 : a1 = 0
  ·rw [if_pos c13] at H
   exact absurd H (by simp)
  rw [if_neg c13] at H
  have c13b0 : (a1 == 0) = false := beq_eq_false_iff_ne.mpr c13
  have c13b1 : (a1 != 0) = true := bne_iff_ne.mpr c13
  simp only [Option.some.injEq, Prod.mk.injEq] at H
  obtain ⟨rfl, rfl, rfl⟩ := H
  obtain ⟨ASz14_0, cSz14_0, HGz14, hgz14, HSz14_0⟩ := HI0.out
  have hcz14_0 := cellS56_0 HGz14
  have hcz14_1 := cellS56_1 HGz14
  have hcz14_2 := cellS56_2 HGz14
  have hfz14_1 := blk_frozen HGz14 1
  have hfz14_2 := blk_frozen HGz14 2
  clear HGz14 hgz14
  have p191 : 0 ≤ (s0_1 : Int) := of_decide_eq_true za
  have q191 : s0_1 < (s0_0.length : Int) := of_decide_eq_true za
  obtain ⟨ad191, e191, hx191_0⟩ := Kd.at_int HSz14_0 s0_1 p191 q191
  cases e191
  have hn191_0 : ad191.block ≠ g := Nat.ne_of_lt (Nat.lt_of_lt_of_le (by have := World.block_lt_of_cell? _ _ hx191_0; first | rwa [add_block] at this | exact this) (IsS56.ge HI0.out))
  replace hx191_0 := pw_cell_below HB.out hx191_0
  replace hx191_0 := (cell_far (p := ⟨g, 2, none⟩) (by first | (rw [add_block]; exact hn191_0) | (show (Addr.add _ _).block ≠ _; rw [add_block]; exact hn191_0) | exact hn191_0) (.int .i64 (Int.tmod (wrap64 ((wrap64 (s0_2 * 48271)) + 29)) 2147483647))).trans hx191_0
  (try have hy191_0 := fun (n_ : Nat) => (show (((w.drewN n_).setCell ⟨g, 2, none⟩ (.int .i64 (Int.tmod (wrap64 ((wrap64 (s0_2 * 48271)) + 29)) 2147483647)))).cell? _ = some _ from hx191_0))
  clear hn191_0
  replace p191 := eq_true p191
  replace q191 := eq_true q191
  go_enter Try.func33, Try.ntmps33
  go_wp2
  repeat (go_quiet (fail); try go_wp2)
  go_ret
  exact ⟨zw, zI56 HI0.out, zs (IsS56.ge HI0.out), zK HK.out⟩
 rw [if_pos c7] at H
 have c7b0 : ((Int.tmod (wrap64 (s0_1 + 1)) 2) == 0) = true := beq_iff_eq.mpr c7
 have c7b1 : ((Int.tmod (wrap64 (s0_1 + 1)) 2) != 0) = false := bne_eq_false_iff_eq.mpr c7
 clear c7
 obtain ⟨ji8, hji8⟩ : ∃ j_ : Int, (wrap64 ((wrap64 (s0_1 + 1)) - 1)) = j_ := ⟨_, rfl⟩
 replace H : (if 0 ≤ (ji8) then (if (ji8) < (s0_0.length : Int) then (if a1 = 0 then (none) else (some (Int.tmod (wrap64 (rd s0_0 (ji8))) a1, wrap64 (s0_1 + 1), Int.tmod (wrap64 ((wrap64 (s0_2 * 48271)) + 29)) 2147483647))) else (none)) else (none)) = some (r1, r2, r3) := by first | (rw [hji8] at H; exact H) | (simp only [hji8] at H ⊢; exact H)
 have hji8w : (IntKind.i64.wrap ((wrap64 (s0_1 + 1)) - 1)) = ji8 := (i64_w _).trans hji8
 by_cases c9 : 0 ≤ (ji8)
 rotate_left
 ·rw [if_neg c9] at H
  exact absurd H (by simp)
 rw [if_pos c9] at H
 have c9b0 : decide (0 ≤ (ji8)) = true := decide_eq_true c9
 clear c9
 by_cases c10 : (ji8) < (s0_0.length : Int)
 rotate_left
 ·rw [if_neg c10] at H
  exact absurd H (by simp)
 rw [if_pos c10] at H
 have c10b0 : decide ((ji8) < (s0_0.length : Int)) = true := decide_eq_true c10
 clear c10
 by_cases c11 : a1 = 0
 ·rw [if_pos c11] at H
  exact absurd H (by simp)
 rw [if_neg c11] at H
 have c11b0 : (a1 == 0) = false := beq_eq_false_iff_ne.mpr c11
 have c11b1 : (a1 != 0) = true := bne_iff_ne.mpr c11
 simp only [Option.some.injEq, Prod.mk.injEq] at H
 obtain ⟨rfl, rfl, rfl⟩ := H
 obtain ⟨ASz12_0, cSz12_0, HGz12, hgz12, HSz12_0⟩ := HI0.out
 have hcz12_0 := cellS56_0 HGz12
 have hcz12_1 := cellS56_1 HGz12
 have hcz12_2 := cellS56_2 HGz12
 have hfz12_1 := blk_frozen HGz12 1
 have hfz12_2 := blk_frozen HGz12 2
 clear HGz12 hgz12
 have p191 : 0 ≤ (s0_1 : Int) := of_decide_eq_true za
 have q191 : s0_1 < (s0_0.length : Int) := of_decide_eq_true za
 obtain ⟨ad191, e191, hx191_0⟩ := Kd.at_int HSz12_0 s0_1 p191 q191
 cases e191
 have hn191_0 : ad191.block ≠ g := Nat.ne_of_lt (Nat.lt_of_lt_of_le (by have := World.block_lt_of_cell? _ _ hx191_0; first | rwa [add_block] at this | exact this) (IsS56.ge HI0.out))
 replace hx191_0 := pw_cell_below HB.out hx191_0
 replace hx191_0 := (cell_far (p := ⟨g, 2, none⟩) (by first | (rw [add_block]; exact hn191_0) | (show (Addr.add _ _).block ≠ _; rw [add_block]; exact hn191_0) | exact hn191_0) (.int .i64 (Int.tmod (wrap64 ((wrap64 (s0_2 * 48271)) + 29)) 2147483647))).trans hx191_0
 (try have hy191_0 := fun (n_ : Nat) => (show (((w.drewN n_).setCell ⟨g, 2, none⟩ (.int .i64 (Int.tmod (wrap64 ((wrap64 (s0_2 * 48271)) + 29)) 2147483647)))).cell? _ = some _ from hx191_0))
 clear hn191_0
 replace p191 := eq_true p191
 replace q191 := eq_true q191
 have p192 : 0 ≤ ((ji8) : Int) := of_decide_eq_true za
 have q192 : (ji8) < (s0_0.length : Int) := of_decide_eq_true za
 obtain ⟨ad192, e192, hx192_0⟩ := Kd.at_int HSz12_0 (ji8) p192 q192
 obtain rfl : ad191 = ad192 := (by injection e192)
 have hn192_0 : ad191.block ≠ g := Nat.ne_of_lt (Nat.lt_of_lt_of_le (by have := World.block_lt_of_cell? _ _ hx192_0; first | rwa [add_block] at this | exact this) (IsS56.ge HI0.out))
 have hn192_1 : ad191.block ≠ g := Nat.ne_of_lt (Nat.lt_of_lt_of_le (by have := World.block_lt_of_cell? _ _ hx192_0; first | rwa [add_block] at this | exact this) (IsS56.ge HI0.out))
 replace hx192_0 := pw_cell_below HB.out hx192_0
 replace hx192_0 := (cell_far (p := ⟨g, 2, none⟩) (by first | (rw [add_block]; exact hn192_0) | (show (Addr.add _ _).block ≠ _; rw [add_block]; exact hn192_0) | exact hn192_0) (.int .i64 (Int.tmod (wrap64 ((wrap64 (s0_2 * 48271)) + 29)) 2147483647))).trans hx192_0
 replace hx192_0 := (cell_far (p := ⟨g, 1, none⟩) (by first | (rw [add_block]; exact hn192_1) | (show (Addr.add _ _).block ≠ _; rw [add_block]; exact hn192_1) | exact hn192_1) (.int .i64 (wrap64 (s0_1 + 1)))).trans hx192_0
 (try have hy192_0 := fun (n_ : Nat) => (show ((((w.drewN n_).setCell ⟨g, 2, none⟩ (.int .i64 (Int.tmod (wrap64 ((wrap64 (s0_2 * 48271)) + 29)) 2147483647))).setCell ⟨g, 1, none⟩ (.int .i64 (wrap64 (s0_1 + 1))))).cell? _ = some _ from hx192_0))
 (try have hv192_0 := fun (n_ : Nat) => (show ((((w.setCell ⟨g, 2, none⟩ (.int .i64 (Int.tmod (wrap64 ((wrap64 (s0_2 * 48271)) + 29)) 2147483647))).drewN n_).setCell ⟨g, 1, none⟩ (.int .i64 (wrap64 (s0_1 + 1))))).cell? _ = some _ from hx192_0))
 clear hn192_0
 clear hn192_1
 replace p192 := eq_true p192
 replace q192 := eq_true q192
 go_enter Try.func33, Try.ntmps33
 go_wp2
 repeat (go_quiet (fail); try go_wp2)
 go_ret
 exact ⟨by first | rfl | (simp [errW_none, errW_some] <;> rfl) | (simp only [← hji8]; first | rfl | (simp [errW_none, errW_some] <;> rfl)) | (simp [*, errW_none, errW_some] <;> rfl), zI56 HI0.out, zs (IsS56.ge HI0.out), zK HK.out⟩
def spec_l02Move.l0 : Nat → List (S35) → Int → Int → List (S35) → Int → Option ((List (S35)))
 | 0, _, _, _, _, _ => none
 | k + 1, x0, x1, x2, x7, x8 => if x8 < (x0.length : Int) then (if 0 ≤ x8 then (if x7.length < 8796093022208 then (spec_l02Move.l0 k x0 x1 x2 (x7 ++ [(⟨wrap64 (((rd_T35 x0 x8).f0) + x1), wrap64 (((rd_T35 x0 x8).f1) + x2)⟩ : S35)]) (wrap64 (x8 + 1))) else (none)) else (none)) else (some x7)
def spec_l02Move.f (k : Nat) (l0 : List (S35)) (a1 : Int) (a2 : Int) : Option ((List (S35))) := spec_l02Move.l0 k l0 a1 a2 (([] : List (S35))) 0
def spec_l02Move.T5 : Bool × List (List Nat × List Nat) := (true, [([], []), ([], []), ([], []), ([1, 2], [1, 2]), ([3], [3]), ([4], [4]), ([], []), ([5, 6], [5, 6]), ([], []), ([], []), ([8, 9], [8, 9]), ([10], [10]), ([11], [11]), ([], []), ([12, 13], [12, 13]), ([7, 14], [7, 14]), ([15], [15]), ([0, 16], [0, 16]), ([17, 17, 0, 1, 2, 3, 4, 5, 6, 7, 8, 9, 10, 11, 12, 13, 14, 15, 16, 17], [0, 17])])
def spec_l02Move.B5 : List Nat := [0, 0, 0, 6, 14, 30, 0, 126, 0, 0, 768, 1792, 3840, 0, 16128, 32766, 65534, 131071, 262143]
theorem spec_l02Move.tab5 : rtab .any (opsOf Try.f39 5) = spec_l02Move.T5 := by kernel_rfl
theorem spec_l02Move.bits5 : waitsOk spec_l02Move.T5.2 spec_l02Move.B5 = true := by kernel_rfl
theorem spec_l02Move.calls (k : Nat) (A0 : Option Addr) (c0 : Nat) (l0 : List (S35)) (a1 : Int) (a2 : Int) (r : List (S35)) (w : World) (hr0 : Kd.C k35 w A0 l0.length l0) (hc0 : l0.length ≤ c0) (h : spec_l02Move.f k l0 a1 a2 = some r) :
  Calls Try.prog 39 #[.slice A0 l0.length c0, .int .i64 a1, .int .i64 a2] w fun e w' => ∃ v0_ : Value, e = .returned (v0_) ∧ Kd.R k35 35 w' w.heap.size (fun _ => True) v0_ r ∧ Below w.heap.size w w' := by
 have hu35 := Try.underlying35
 have HR0 := aM hr0
 have HC0 := aM hc0
 clear hr0 hc0
 have HB := aM (Below.refl w.heap.size w)
 have H : (spec_l02Move.l0 k l0 a1 a2 (([] : List (S35))) 0) = some r := h
 clear h
 obtain ⟨y193, hy193⟩ : ∃ y_ : List (S35), y_ = (([] : List (S35))) := ⟨_, rfl⟩
 replace H : (spec_l02Move.l0 k l0 a1 a2 y193 0) = some r := zy H hy193
 have Ny193 := aM hy193
 clear hy193
 have H' := aM H
 clear H
 go_enter Try.func39, Try.ntmps39
 go_wp2_with (first | ((with_reducible refine gate_dst (N := 9) rfl ?_); refine Kd.R_lit k35 _ 35 ?hg (N := 9) ?hd (xs := ([] : List (S35))) (inner := []) (ok := fun _ => True) (okp := fun _ => True) ?hr ?hp (fun _ hk => hk) trivial (Below.refl _ _) (Nat.le_refl _) (by simp) ?_; (case hd => rfl); (case hg => rfl); (case hr => first | (go_simp; done) | (go_simp; rfl)); (case hp => exact (Reps.none _ _)); intro v194 w4 ho5 hb hg_ hnew_; clear hg_ hnew_; (first | rw [← Ny193.out] at ho5 | (simp only [Int.reduceToNat] at ho5; rw [← Ny193.out] at ho5)); have n0_ := aM (Kd.R_lower ho5 (below_size zb)); have n1_ := aM (below_step zb hb); clear HB; have HO195 := n0_; have HB := n1_; clear n0_ n1_; clear hb ho5))
 go_loopg [7, 8] k (fun kq v7 v8 w' => ∃ (x7_1 : List (S35)) (x8_1 : Int), v8 = .int .i64 x8_1 ∧ Aside0 (spec_l02Move.l0 kq l0 a1 a2 x7_1 x8_1 = some r) ∧ Aside0 (kq ≤ k) ∧ Aside0 (Kd.R k35 35 w' w.heap.size (fun _ => True) v7 x7_1) ∧ Aside0 (Below w.heap.size w w'))
 case atStart => exact ⟨(y193), (0), zr, H', ⟨Nat.le_refl _⟩, ⟨mR_ HO195.out⟩, ⟨zb⟩⟩
 case round =>
  clear H'
  try clear p2
  try clear c3
  obtain ⟨x7_1, x8_1, rfl, HA, HK1, HO_7, HB⟩ := hrel
  cases gk with
  | zero => exact absurd HA.out (by simp [spec_l02Move.l0])
  | succ k1 =>
   have H := HA.out
   clear HA
   simp only [spec_l02Move.l0] at H
   by_cases c6 : x8_1 < (l0.length : Int)
   rotate_left
   ·rw [if_neg c6] at H
    have c6b0 : decide (x8_1 < (l0.length : Int)) = false := decide_eq_false c6
    clear c6
    obtain rfl := Option.some.inj H
    go_wp2
    go_ret
    exact ⟨_, zw, mR_ HO_7.out, zb⟩
   rw [if_pos c6] at H
   have c6b0 : decide (x8_1 < (l0.length : Int)) = true := decide_eq_true c6
   clear c6
   by_cases c7 : 0 ≤ x8_1
   rotate_left
   ·rw [if_neg c7] at H
    exact absurd H (by simp)
   rw [if_pos c7] at H
   have c7b0 : decide (0 ≤ x8_1) = true := decide_eq_true c7
   clear c7
   by_cases c8 : x7_1.length < 8796093022208
   rotate_left
   ·rw [if_neg c8] at H
    exact absurd H (by simp)
   rw [if_pos c8] at H
   have LMc8 := aM c8
   clear c8
   obtain ⟨y198, hy198⟩ : ∃ y_ : List (S35), y_ = (x7_1 ++ [(⟨wrap64 (((rd_T35 l0 x8_1).f0) + a1), wrap64 (((rd_T35 l0 x8_1).f1) + a2)⟩ : S35)]) := ⟨_, rfl⟩
   replace H : (spec_l02Move.l0 k1 l0 a1 a2 y198 (wrap64 (x8_1 + 1))) = some r := zy H hy198
   have Ny198 := aM hy198
   clear hy198
   have H' := aM H
   clear H
   try go_wp2
   have n0_ := aM (Kd.R_drew HO_7.out)
   have n1_ := aM (below_drew1 HB.out)
   clear HO_7
   clear HB
   have HO_7 := n0_
   have HB := n1_
   clear n0_ n1_
   have p196 : 0 ≤ (x8_1 : Int) := of_decide_eq_true za
   have q196 : x8_1 < (l0.length : Int) := of_decide_eq_true za
   obtain ⟨ad196, e196, hx196_0, hx196_1⟩ := at_T35 HR0.out x8_1 p196 q196
   have hw196_1 := hx196_1
   have hw196_0 := hx196_0
   cases e196
   replace hx196_0 := zk HB.out hx196_0
   replace hx196_1 := zk HB.out hx196_1
   replace p196 := eq_true p196
   replace q196 := eq_true q196
   have p197 : 0 ≤ (x8_1 : Int) := of_decide_eq_true za
   have q197 : x8_1 < (l0.length : Int) := of_decide_eq_true za
   obtain ⟨ad197, e197, hx197_0, hx197_1⟩ := at_T35 HR0.out x8_1 p197 q197
   have hw197_1 := hx197_1
   have hw197_0 := hx197_0
   obtain rfl : ad196 = ad197 := (by injection e197)
   replace hx197_0 := zk HB.out hx197_0
   replace hx197_1 := zk HB.out hx197_1
   replace p197 := eq_true p197
   replace q197 := eq_true q197
   refine start_ (n := 19) (S := fun w' => w'.cell? (ad196.add ((x8_1).toNat * 2)) = some (.int .i64 ((rd_T35 l0 x8_1).f0)) ∧ w'.cell? ⟨(ad196.add ((x8_1).toNat * 2)).block, (ad196.add ((x8_1).toNat * 2)).off + 1, none⟩ = some (.int .i64 ((rd_T35 l0 x8_1).f1)) ∧ w'.cell? (ad196.add ((x8_1).toNat * 2)) = some (.int .i64 ((rd_T35 l0 x8_1).f0)) ∧ w'.cell? ⟨(ad196.add ((x8_1).toNat * 2)).block, (ad196.add ((x8_1).toNat * 2)).off + 1, none⟩ = some (.int .i64 ((rd_T35 l0 x8_1).f1))) (ds := []) zA52 (by kernel_rfl) rfl rfl ⟨(zk HB.out hw196_0), (zk HB.out hw196_1), (zk HB.out hw197_0), (zk HB.out hw197_1)⟩ (fun hHeld => ?_); refine with_tabW spec_l02Move.tab5 spec_l02Move.bits5 (fun HT_ HW_ => ?_)
   generalize wr.drew = w9 at HO_7 HB hx196_0 hx196_1 hx197_0 hx197_1 hHeld ⊢
   refine zp 0 (some 16) ?_ zA53 rfl rfl (Or.inl ⟨by rfl, ?_⟩) ?_ ?_ ?_
   rotate_left
   ·intro w'
    go_simp
    with_reducible rfl
   rotate_left
   ·simp only [Act.put, xA, xB, xC, i64_w, i32_w]
    rfl
   refine zp 1 (some 17) ?_ zA54 rfl rfl (Or.inl ⟨by rfl, ?_⟩) ?_ ?_ ?_
   rotate_left
   ·intro w'
    go_simp
    with_reducible rfl
   rotate_left
   ·simp only [Act.put, xA, xB, xC, i64_w, i32_w]
    rfl
   refine zp 2 (some 18) ?_ zA55 rfl rfl (Or.inl ⟨by rfl, ?_⟩) ?_ ?_ ?_
   rotate_left
   ·intro w'
    go_simp
    with_reducible rfl
   rotate_left
   ·simp only [Act.put, xA, xB, xC, i64_w, i32_w]
    rfl
   refine zp 3 (some 19) ?_ zA56 rfl rfl (Or.inl ⟨by rfl, ?_⟩) ?_ ?_ ?_
   rotate_left
   ·intro w'
    go_simp
    with_reducible rfl
   rotate_left
   ·simp only [Act.put, xA, xB, xC, i64_w, i32_w]
    rfl
   refine zp 4 (some 20) ?_ zA57 rfl rfl (Or.inl ⟨by rfl, ?_⟩) ?_ ?_ ?_
   rotate_left
   ·intro w'
    go_simp
    with_reducible rfl
   rotate_left
   ·simp only [Act.put, xA, xB, xC, i64_w, i32_w]
    rfl
   refine zp 6 (some 22) ?_ zA58 rfl rfl (Or.inl ⟨by rfl, ?_⟩) ?_ ?_ ?_
   rotate_left
   ·intro w'
    go_simp
    with_reducible rfl
   rotate_left
   ·simp only [Act.put, xA, xB, xC, i64_w, i32_w]
    rfl
   refine zp 8 (some 24) ?_ zA59 rfl rfl (Or.inl ⟨by rfl, ?_⟩) ?_ ?_ ?_
   rotate_left
   ·intro w'
    go_simp
    with_reducible rfl
   rotate_left
   ·simp only [Act.put, xA, xB, xC, i64_w, i32_w]
    rfl
   refine zp 9 (some 25) ?_ zA60 rfl rfl (Or.inl ⟨by rfl, ?_⟩) ?_ ?_ ?_
   rotate_left
   ·intro w'
    go_simp
    with_reducible rfl
   rotate_left
   ·simp only [Act.put, xA, xB, xC, i64_w, i32_w]
    rfl
   refine zp 10 (some 26) ?_ zA61 rfl rfl (Or.inl ⟨by rfl, ?_⟩) ?_ ?_ ?_
   rotate_left
   ·intro w'
    go_simp
    with_reducible rfl
   rotate_left
   ·simp only [Act.put, xA, xB, xC, i64_w, i32_w]
    rfl
   refine zp 11 (some 27) ?_ zA62 rfl rfl (Or.inl ⟨by rfl, ?_⟩) ?_ ?_ ?_
   rotate_left
   ·intro w'
    go_simp
    with_reducible rfl
   rotate_left
   ·simp only [Act.put, xA, xB, xC, i64_w, i32_w]
    rfl
   refine zp 13 (some 29) ?_ zA63 rfl rfl (Or.inl ⟨by rfl, ?_⟩) ?_ ?_ ?_
   rotate_left
   ·intro w'
    go_simp
    with_reducible rfl
   rotate_left
   ·simp only [Act.put, xA, xB, xC, i64_w, i32_w]
    rfl
   refine zu 5 (some 21) ?_ zA64 rfl rfl (Or.inl ⟨by rfl, ?_⟩) hHeld ?_ ?_ ?_
   rotate_left
   ·rintro w' ⟨s0, s1, s2, s3⟩
    go_simp
    with_reducible rfl
   rotate_left
   ·simp only [Act.put, xA, xB, xC, i64_w, i32_w]
    rfl
   refine zp 7 (some 23) ?_ zA65 rfl rfl (Or.inl ⟨by rfl, ?_⟩) ?_ ?_ ?_
   rotate_left
   ·intro w'
    go_simp
    with_reducible rfl
   rotate_left
   ·simp only [Act.put, xA, xB, xC, i64_w, i32_w]
    rfl
   refine zu 12 (some 28) ?_ zA66 rfl rfl (Or.inl ⟨by rfl, ?_⟩) hHeld ?_ ?_ ?_
   rotate_left
   ·rintro w' ⟨s0, s1, s2, s3⟩
    go_simp
    with_reducible rfl
   rotate_left
   ·simp only [Act.put, xA, xB, xC, i64_w, i32_w]
    rfl
   refine zp 14 (some 30) ?_ zA67 rfl rfl (Or.inl ⟨by rfl, ?_⟩) ?_ ?_ ?_
   rotate_left
   ·intro w'
    go_simp
    with_reducible rfl
   rotate_left
   ·simp only [Act.put, xA, xB, xC, i64_w, i32_w]
    rfl
   refine zp 15 (some 31) ?_ zA68 rfl rfl (Or.inl ⟨by rfl, ?_⟩) ?_ ?_ ?_
   rotate_left
   ·intro w'
    go_simp
    with_reducible rfl
   rotate_left
   ·simp only [Act.put, xA, xB, xC, i64_w, i32_w]
    rfl
   refine one_ (i := 16) (N := some 32) zA69 rfl rfl (one_of HT_.out (by kernel_rfl)) (by decide) (fun K hK => ?_)
   refine value_ (w1 := ?_) (v := ?_) (by rfl) rfl ?_ ?_
   rotate_left 2
   ·go_simp
    constructor
    ·rfl
    ·rfl
   refine hK.out _ _ ⟨(World.cell?_alloc_lt _ _ _ (World.block_lt_of_cell? _ _ ((zk HB.out hw196_0)))).trans ((zk HB.out hw196_0)), (World.cell?_alloc_lt _ _ _ (World.block_lt_of_cell? _ _ ((zk HB.out hw196_1)))).trans ((zk HB.out hw196_1)), (World.cell?_alloc_lt _ _ _ (World.block_lt_of_cell? _ _ ((zk HB.out hw197_0)))).trans ((zk HB.out hw197_0)), (World.cell?_alloc_lt _ _ _ (World.block_lt_of_cell? _ _ ((zk HB.out hw197_1)))).trans ((zk HB.out hw197_1))⟩ (fun hHeld => ?_)
   clear hK K
   refine norm_ (a' := ?_) ?_ ?_
   rotate_left
   ·show Act.put _ (some 32) _ = _
    simp only [Act.put, xA, xB, xC, i64_w, i32_w]
    rfl
   refine one_ (i := 17) (N := some 33) zA70 rfl rfl (one_of HT_.out (by kernel_rfl)) (by decide) (fun K hK => ?_)
   refine Kd.R_append_step k35 (w0 := w) w.heap.size (by rfl) (.tmp 16) (.tmp 32) 26 35 (.agg #[(.int .i64 0), (.int .i64 0)]) 16 rfl Try.underlying26 info35 rfl (by decide) (by omega) u7 x7_1 (⟨wrap64 (((rd_T35 l0 x8_1).f0) + a1), wrap64 (((rd_T35 l0 x8_1).f1) + a2)⟩ : S35) [.int .i64 (wrap64 (((rd_T35 l0 x8_1).f0) + a1)), .int .i64 (wrap64 (((rd_T35 l0 x8_1).f1) + a2))] (fun _ => True) (fun _ => False) rfl rfl ?aP (fun _ hk => hk.elim) ?aF ?aO ?aB ?aS ?aL ?_
   (case aP => exact k35_mkM _ _ _ (⟨wrap64 (((rd_T35 l0 x8_1).f0) + a1), wrap64 (((rd_T35 l0 x8_1).f1) + a2)⟩ : S35))
   (case aB => exact zb)
   (case aF => exact (fun _ _ => trivial))
   (case aO => exact (mR_ HO_7.out))
   (case aS => exact (below_size zb))
   (case aL => have := LMc8.out; omega)
   intro v199 w10 ho hb hg hat
   rw [← Ny198.out] at ho
   have n0_ := aM (hb)
   have n1_ := aM (ho)
   clear HB
   clear HO_7
   have HB := n0_
   have HO200 := n1_
   clear n0_ n1_
   clear ho hb hg hat
   refine hK.out _ _ ⟨(zk HB.out hw196_0), (zk HB.out hw196_1), (zk HB.out hw197_0), (zk HB.out hw197_1)⟩ (fun hHeld => ?_)
   clear hK K
   refine norm_ (a' := ?_) ?_ ?_
   rotate_left
   ·show Act.put _ (some 33) _ = _
    simp only [Act.put, xA, xB, xC, i64_w, i32_w]
    rfl
   refine zp 18 (some 7) ?_ zA71 rfl rfl (Or.inl ⟨by rfl, ?_⟩) ?_ ?_ ?_
   rotate_left
   ·intro w'
    go_simp
    with_reducible rfl
   rotate_left
   ·simp only [Act.put, xA, xB, xC, i64_w, i32_w]
    rfl
   refine done_ (done_of HT_.out (by kernel_rfl)) ?_
   try go_wp2
   go_roundg k1
   case measure => have := HK1.out; omega
   case rel => exact ⟨(y198), (wrap64 (x8_1 + 1)), zr, H', ⟨by have := HK1.out; omega⟩, ⟨mR_ HO200.out⟩, ⟨zb⟩⟩
def spec_l02Around.f (a0_0 : Int) (a0_1 : Int) : Option ((List (S35))) := some (([(⟨a0_0, wrap64 (a0_1 - 1)⟩ : S35), (⟨wrap64 (a0_0 - 1), a0_1⟩ : S35), (⟨wrap64 (a0_0 + 1), a0_1⟩ : S35), (⟨a0_0, wrap64 (a0_1 + 1)⟩ : S35)] : List (S35)))
theorem spec_l02Around.calls (a0_0 : Int) (a0_1 : Int) (r : List (S35)) (w : World) (h : spec_l02Around.f a0_0 a0_1 = some r) :
  Calls Try.prog 36 #[.agg #[.int .i64 a0_0, .int .i64 a0_1]] w fun e w' => ∃ v0_ : Value, e = .returned (v0_) ∧ Kd.R k35 35 w' w.heap.size (fun _ => True) v0_ r ∧ Below w.heap.size w w' := by
 have hu35 := Try.underlying35
 have HB := aM (Below.refl w.heap.size w)
 have H : (some (([(⟨a0_0, wrap64 (a0_1 - 1)⟩ : S35), (⟨wrap64 (a0_0 - 1), a0_1⟩ : S35), (⟨wrap64 (a0_0 + 1), a0_1⟩ : S35), (⟨a0_0, wrap64 (a0_1 + 1)⟩ : S35)] : List (S35)))) = some r := h
 clear h
 obtain ⟨y202, hy202⟩ : ∃ y_ : List (S35), y_ = (([(⟨a0_0, wrap64 (a0_1 - 1)⟩ : S35), (⟨wrap64 (a0_0 - 1), a0_1⟩ : S35), (⟨wrap64 (a0_0 + 1), a0_1⟩ : S35), (⟨a0_0, wrap64 (a0_1 + 1)⟩ : S35)] : List (S35))) := ⟨_, rfl⟩
 replace H : (some y202) = some r := zy H hy202
 have Ny202 := aM hy202
 clear hy202
 obtain rfl := Option.some.inj H
 go_enter Try.func36, Try.ntmps36
 go_wp2_with (first | ((with_reducible refine gate_dst (N := 1) rfl ?_); refine zx 1 #[.int .i64 a0_0, .int .i64 a0_1] 35 ?_; intro gb201 hg w2 hbox hb; have n0_ := aM (below_step zb hb); have n1_ := aM (hbox); have n2_ := aM ((ze : w.heap.size ≤ gb201)); have n3_ := aM ((ze : w.heap.size ≤ gb201)); clear HB; have HB := n0_; have BK201 := n1_; have GW201 := n2_; have GE201 := n3_; clear n0_ n1_ n2_ n3_ hb hbox hg; have hcz3_0 : w2.cell? ⟨gb201, 0, none⟩ = some (.int .i64 a0_0) := (blk_cell BK201.out 0).trans rfl; have hcz3_1 : w2.cell? ⟨gb201, 1, none⟩ = some (.int .i64 a0_1) := (blk_cell BK201.out 1).trans rfl; have hfz3_0 := blk_frozen BK201.out 0; have hfz3_1 := blk_frozen BK201.out 1) | ((with_reducible refine gate_dst (N := 27) rfl ?_); refine Kd.R_lit k35 _ 35 ?hg (N := 27) ?hd (xs := ([(⟨a0_0, wrap64 (a0_1 - 1)⟩ : S35), (⟨wrap64 (a0_0 - 1), a0_1⟩ : S35), (⟨wrap64 (a0_0 + 1), a0_1⟩ : S35), (⟨a0_0, wrap64 (a0_1 + 1)⟩ : S35)] : List (S35))) (inner := [.int .i64 a0_0, .int .i64 (wrap64 (a0_1 - 1)), .int .i64 (wrap64 (a0_0 - 1)), .int .i64 a0_1, .int .i64 (wrap64 (a0_0 + 1)), .int .i64 a0_1, .int .i64 a0_0, .int .i64 (wrap64 (a0_1 + 1))]) (ok := fun _ => True) (okp := fun _ => True) ?hr ?hp (fun _ hk => hk) trivial (Below.refl _ _) (Nat.le_refl _) (by simp) ?_; (case hd => rfl); (case hg => rfl); (case hr => first | (go_simp; done) | (go_simp; rfl)); (case hp => exact (Reps.c2 (show Kd.M k35 _ _ _ (⟨a0_0, wrap64 (a0_1 - 1)⟩ : S35) [.int .i64 a0_0, .int .i64 (wrap64 (a0_1 - 1))] from (k35_mkM _ _ _ (⟨a0_0, wrap64 (a0_1 - 1)⟩ : S35) )) (Reps.c2 (show Kd.M k35 _ _ _ (⟨wrap64 (a0_0 - 1), a0_1⟩ : S35) [.int .i64 (wrap64 (a0_0 - 1)), .int .i64 a0_1] from (k35_mkM _ _ _ (⟨wrap64 (a0_0 - 1), a0_1⟩ : S35) )) (Reps.c2 (show Kd.M k35 _ _ _ (⟨wrap64 (a0_0 + 1), a0_1⟩ : S35) [.int .i64 (wrap64 (a0_0 + 1)), .int .i64 a0_1] from (k35_mkM _ _ _ (⟨wrap64 (a0_0 + 1), a0_1⟩ : S35) )) (Reps.c2 (show Kd.M k35 _ _ _ (⟨a0_0, wrap64 (a0_1 + 1)⟩ : S35) [.int .i64 a0_0, .int .i64 (wrap64 (a0_1 + 1))] from (k35_mkM _ _ _ (⟨a0_0, wrap64 (a0_1 + 1)⟩ : S35) )) (Reps.none _ _)))))); intro v203 w4 ho5 hb hg_ hnew_; clear hg_ hnew_; (first | rw [← Ny202.out] at ho5 | (simp only [Int.reduceToNat] at ho5; rw [← Ny202.out] at ho5)); have n0_ := aM (Kd.R_lower (Kd.R_newB ho5 (g := gb201) (o := .cells #[.int .i64 a0_0, .int .i64 a0_1] 35 (0, 0)) (mB_ BK201.out)) (below_size (zs GE201.out))); have n1_ := aM (blk_below (g := gb201) (o := .cells #[.int .i64 a0_0, .int .i64 a0_1] 35 (0, 0)) (mB_ BK201.out) hb); have n2_ := aM (below_step (zs GE201.out) hb); clear BK201 HB; have HO204 := n0_; have BK201 := n1_; have HB := n2_; clear n0_ n1_ n2_; clear hb ho5))
 go_ret
 exact ⟨_, zw, zd2 HO204.out, zs GE201.out⟩
end Go.Proofs.Ytpoiiaephcddoaa.F
end
section
namespace Go.Proofs.Ytpoiiaephcddoaa.F
open Go.RowKit Go.Proofs.YtpoiiaephcddoaaW.PrintWords Go.Proofs.YtpoiiaephcddoaaW.PrintLast Go.Proofs.YtpoiiaephcddoaaW.PrintMore
attribute [local go_sem] max2_int min2_int max_two min_two max_three min_three max_four min_four
set_option linter.unusedVariables false
set_option linter.unusedSimpArgs false
end Go.Proofs.Ytpoiiaephcddoaa.F
end
