/- The row of FnHexForms, with what it needs: text 5 of 11. -/
import Derived.Test.YtlnliahadgmbcaaKHF3
set_option maxHeartbeats 8000000
set_option maxRecDepth 100000
section
namespace Go.Proofs.Ytlnliahadgmbcaa.F
open Go.RowKit Go.Proofs.YtlnliahadgmbcaaW.PrintWords Go.Proofs.YtlnliahadgmbcaaW.PrintLast Go.Proofs.YtlnliahadgmbcaaW.PrintMore
attribute [local go_sem] max2_int min2_int max_two min_two max_three min_three max_four min_four
set_option linter.unusedVariables false
set_option linter.unusedSimpArgs false
theorem impl_IsShape.calls (k : Nat) (A0 : Option Addr) (c0 : Nat) (l0 : List (S59)) (r : Bool) (w : World) (hr0 : Kd.C k59 w A0 l0.length l0) (hc0 : l0.length ≤ c0) (h : impl_IsShape.f k l0 = some r) :
  Calls Try.prog 40 #[.slice A0 l0.length c0] w fun e w' => e = .returned (.bool r) ∧ Below w.heap.size w w' := by
 have hu59 := Try.underlying59
 have HR0 := aM hr0
 have HC0 := aM hc0
 clear hr0 hc0
 have HB := aM (Below.refl w.heap.size w)
 have H : (impl_IsShape.l0 k l0 l0 (l0.length : Int) 0) = some r := h
 clear h
 have H' := aM H
 clear H
 go_enter Try.func40, Try.ntmps40
 go_wp2
 go_loopg [7] k (fun kq v7 w' => ∃ (x7_1 : Int), v7 = .int .i64 x7_1 ∧ Aside0 (impl_IsShape.l0 kq l0 l0 (l0.length : Int) x7_1 = some r) ∧ Aside0 (kq ≤ k) ∧ Aside0 (Below w.heap.size w w'))
 case atStart => exact ⟨(0), zr, H', ⟨Nat.le_refl _⟩, ⟨zb⟩⟩
 case round =>
  clear H'
  obtain ⟨x7_1, rfl, HA, HK1, HB⟩ := hrel
  cases gk with
  | zero => exact absurd HA.out (by simp [impl_IsShape.l0])
  | succ k1 =>
   have H := HA.out
   clear HA
   simp only [impl_IsShape.l0] at H
   by_cases c2 : x7_1 < (l0.length : Int)
   rotate_left
   ·rw [if_neg c2] at H
    have c2b0 : decide (x7_1 < (l0.length : Int)) = false := decide_eq_false c2
    clear c2
    by_cases c37 : (l0.length : Int) ≥ 1
    ·rw [if_pos c37] at H
     have c37b0 : decide (1 ≤ (l0.length : Int)) = true := decide_eq_true c37
     have c37b1 : decide (1 ≤ l0.length) = true := decide_eq_true (by omega)
     clear c37
     obtain rfl := Option.some.inj H
     go_wp2
     go_ret
     exact ⟨zw, zb⟩
    rw [if_neg c37] at H
    have c37b0 : decide (1 ≤ (l0.length : Int)) = false := decide_eq_false c37
    have c37b1 : decide (1 ≤ l0.length) = false := decide_eq_false (by omega)
    clear c37
    obtain rfl := Option.some.inj H
    go_wp2
    go_ret
    exact ⟨zw, zb⟩
   rw [if_pos c2] at H
   have c2b0 : decide (x7_1 < (l0.length : Int)) = true := decide_eq_true c2
   clear c2
   by_cases c3 : 0 ≤ x7_1
   rotate_left
   ·rw [if_neg c3] at H
    exact absurd H (by simp)
   rw [if_pos c3] at H
   have c3b0 : decide (0 ≤ x7_1) = true := decide_eq_true c3
   clear c3
   by_cases c4 : x7_1 < (l0.length : Int)
   rotate_left
   ·rw [if_neg c4] at H
    exact absurd H (by simp)
   rw [if_pos c4] at H
   have c4b0 : decide (x7_1 < (l0.length : Int)) = true := decide_eq_true c4
   clear c4
   replace H := Option.bind_eq_some_iff.mp H
   obtain ⟨t260, A50, H⟩ := H
   replace H : (if t260 = true then ((impl_isCoordinate.f ((rd_T59 l0 x7_1).f1)).bind fun t261 => (if t261 = true then (if x7_1 > 0 then (if 0 ≤ (wrap64 (x7_1 - 1)) then (if (wrap64 (x7_1 - 1)) < (l0.length : Int) then ((impl_compareCells.f ((rd_T59 l0 (wrap64 (x7_1 - 1))).f0) ((rd_T59 l0 (wrap64 (x7_1 - 1))).f1) ((rd_T59 l0 x7_1).f0) ((rd_T59 l0 x7_1).f1)).bind fun t263 => (if t263 ≥ 0 then (some false) else (impl_IsShape.l0 k1 l0 l0 (l0.length : Int) (wrap64 (x7_1 + 1))))) else (none)) else (none)) else (impl_IsShape.l0 k1 l0 l0 (l0.length : Int) (wrap64 (x7_1 + 1)))) else (some false))) else (some false)) = some r := H
   have A5 := aM A50
   clear A50
   by_cases c6 : t260 = true
   rotate_left
   ·replace c6 := Bool.eq_false_iff.mpr c6
    subst c6
    have H1 : (some false) = some r := by rw [if_neg (show ¬ (false = true) by decide)] at H; exact H
    clear H
    have H := H1
    clear H1
    obtain rfl := Option.some.inj H
    have p258 : 0 ≤ (x7_1 : Int) := of_decide_eq_true za
    have q258 : x7_1 < (l0.length : Int) := of_decide_eq_true za
    obtain ⟨ad258, e258, hx258_0, hx258_1⟩ := at_T59 HR0.out x7_1 p258 q258
    cases e258
    replace hx258_0 := zk HB.out hx258_0
    replace hx258_1 := zk HB.out hx258_1
    replace p258 := eq_true p258
    replace q258 := eq_true q258
    try go_wp2_with (first | ((with_reducible refine gate_dst (N := 4) rfl ?_); (try (refine gate_guard (by rfl) ?_; dsimp only)); refine zx 4 #[.int .i64 0, .int .i64 0] 59 ?_; intro gb259 hg w33 hbox hb; have n0_ := aM (below_step zb hb); have n1_ := aM (hbox); have n2_ := aM ((ze : w.heap.size ≤ gb259)); have n3_ := aM ((ze : w.heap.size ≤ gb259)); clear HB; have HB := n0_; have BK259 := n1_; have GW259 := n2_; have GE259 := n3_; clear n0_ n1_ n2_ n3_ hb hbox hg; have hcz34_0 : w33.cell? ⟨gb259, 0, none⟩ = some (.int .i64 0) := (blk_cell BK259.out 0).trans rfl; have hcz34_1 : w33.cell? ⟨gb259, 1, none⟩ = some (.int .i64 0) := (blk_cell BK259.out 1).trans rfl; have hfz34_0 := blk_frozen BK259.out 0; have hfz34_1 := blk_frozen BK259.out 1))
    have n0_ : Aside0 (((w33.setCell ⟨gb259, 0, none⟩ (.int .i64 ((rd_T59 l0 x7_1).f0))).setCell ⟨gb259, 1, none⟩ (.int .i64 ((rd_T59 l0 x7_1).f1))).heap[gb259]? = some (.cells #[.int .i64 ((rd_T59 l0 x7_1).f0), .int .i64 ((rd_T59 l0 x7_1).f1)] 59 (0, 0))) := ⟨by (with_reducible repeat (first | refine blk_drewN ?_ _ | refine blk_drew ?_ | refine blk_alloc ?_ _)); refine blk_put (cs := #[.int .i64 ((rd_T59 l0 x7_1).f0), .int .i64 0]) ?_ 1 _ rfl; (with_reducible repeat (first | refine blk_drewN ?_ _ | refine blk_drew ?_ | refine blk_alloc ?_ _)); refine blk_put (cs := #[.int .i64 0, .int .i64 0]) ?_ 0 _ rfl; (with_reducible repeat (first | refine blk_drewN ?_ _ | refine blk_drew ?_ | refine blk_alloc ?_ _)); exact BK259.out⟩
    have n1_ : Aside0 (Below w.heap.size w ((w33.setCell ⟨gb259, 0, none⟩ (.int .i64 ((rd_T59 l0 x7_1).f0))).setCell ⟨gb259, 1, none⟩ (.int .i64 ((rd_T59 l0 x7_1).f1)))) := ⟨zs GE259.out⟩
    (try clear BK259)
    (try clear HB)
    generalize ((w33.setCell ⟨gb259, 0, none⟩ (.int .i64 ((rd_T59 l0 x7_1).f0))).setCell ⟨gb259, 1, none⟩ (.int .i64 ((rd_T59 l0 x7_1).f1))) = w35 at n0_ n1_ ⊢
    have BK259 := n0_
    have HB := n1_
    clear n0_ n1_
    have n0_ := aM (blk_drew BK259.out)
    have n1_ := aM (below_drew1 HB.out)
    clear BK259
    clear HB
    have BK259 := n0_
    have HB := n1_
    clear n0_ n1_
    refine start_ (n := 24) (S := fun w' => w'.cell? ⟨gb259, 0, none⟩ = some (.int .i64 ((rd_T59 l0 x7_1).f0)) ∧ w'.cell? ⟨gb259, 1, none⟩ = some (.int .i64 ((rd_T59 l0 x7_1).f1))) (ds := []) zA84 (by kernel_rfl) rfl rfl ⟨(blk_cell BK259.out 0).trans rfl, (blk_cell BK259.out 1).trans rfl⟩ (fun hHeld => ?_); refine with_tabW impl_IsShape.tab4 impl_IsShape.bits4 (fun HT_ HW_ => ?_)
    generalize w35.drew = w36 at BK259 HB hHeld ⊢
    refine zp 0 (some 12) ?_ zA85 rfl rfl (Or.inl ⟨by rfl, ?_⟩) ?_ ?_ ?_
    rotate_left
    ·intro w'
     go_simp
     with_reducible rfl
    rotate_left
    ·simp only [Act.put, xA, xB, xC, i64_w, i32_w]
     rfl
    refine zu 1 (some 13) ?_ zA86 rfl rfl (Or.inl ⟨by rfl, ?_⟩) hHeld ?_ ?_ ?_
    rotate_left
    ·rintro w' ⟨s0, s1⟩
     go_simp
     with_reducible rfl
    rotate_left
    ·simp only [Act.put, xA, xB, xC, i64_w, i32_w]
     rfl
    refine one_ (i := 2) (N := some 14) zA87 rfl rfl (one_of HT_.out (by kernel_rfl)) (by decide) (fun K hK => ?_)
    refine goes_ Try.func77 (by kernel_rfl) rfl #[.int .i64 ((rd_T59 l0 x7_1).f0)] (by rfl) rfl rfl zm ?_
    with_reducible refine (impl_isCoordinate.calls ((rd_T59 l0 x7_1).f0) false _ A5.out).mono ?_
    rintro e w' ⟨rfl, ⟨nd, rfl⟩⟩
    refine ⟨_, rfl, ?_⟩
    refine hK.out _ _ ⟨(blk_cell BK259.out 0).trans rfl, (blk_cell BK259.out 1).trans rfl⟩ (fun hHeld => ?_)
    clear hK K
    refine norm_ (a' := ?_) ?_ ?_
    rotate_left
    ·show Act.put _ (some 14) _ = _
     simp only [Act.put, xA, xB, xC, i64_w, i32_w]
     rfl
    refine zp 3 (some 15) ?_ zA88 rfl rfl (Or.inl ⟨by rfl, ?_⟩) ?_ ?_ ?_
    rotate_left
    ·intro w'
     go_simp
     with_reducible rfl
    rotate_left
    ·simp only [Act.put, xA, xB, xC, i64_w, i32_w]
     rfl
    refine zp 4 (some 16) ?_ zA89 rfl rfl (Or.inl ⟨by rfl, ?_⟩) ?_ ?_ ?_
    rotate_left
    ·intro w'
     go_simp
     with_reducible rfl
    rotate_left
    ·simp only [Act.put, xA, xB, xC, i64_w, i32_w]
     rfl
    refine zp 5 (some 17) undef zA90 rfl rfl (Or.inr ⟨by rfl, rfl⟩) ?_ ?_ ?_
    rotate_left
    ·simp only [Act.put, xA, xB, xC, i64_w, i32_w]
     rfl
    refine zp 6 (some 18) undef zA91 rfl rfl (Or.inr ⟨by rfl, rfl⟩) ?_ ?_ ?_
    rotate_left
    ·simp only [Act.put, xA, xB, xC, i64_w, i32_w]
     rfl
    refine zp 7 (some 19) undef zA92 rfl rfl (Or.inr ⟨by rfl, rfl⟩) ?_ ?_ ?_
    rotate_left
    ·simp only [Act.put, xA, xB, xC, i64_w, i32_w]
     rfl
    refine zp 8 (some 20) undef zA93 rfl rfl (Or.inr ⟨by rfl, rfl⟩) ?_ ?_ ?_
    rotate_left
    ·simp only [Act.put, xA, xB, xC, i64_w, i32_w]
     rfl
    refine zp 9 (some 21) ?_ zA94 rfl rfl (Or.inl ⟨by rfl, ?_⟩) ?_ ?_ ?_
    rotate_left
    ·intro w'
     go_simp
     with_reducible rfl
    rotate_left
    ·simp only [Act.put, xA, xB, xC, i64_w, i32_w]
     rfl
    refine zp 10 (some 22) ?_ zA95 rfl rfl (Or.inl ⟨by rfl, ?_⟩) ?_ ?_ ?_
    rotate_left
    ·intro w'
     go_simp
     with_reducible rfl
    rotate_left
    ·simp only [Act.put, xA, xB, xC, i64_w, i32_w]
     rfl
    refine zp 11 (some 23) undef zA96 rfl rfl (Or.inr ⟨by rfl, rfl⟩) ?_ ?_ ?_
    rotate_left
    ·simp only [Act.put, xA, xB, xC, i64_w, i32_w]
     rfl
    refine zp 12 (some 24) undef zA97 rfl rfl (Or.inr ⟨by rfl, rfl⟩) ?_ ?_ ?_
    rotate_left
    ·simp only [Act.put, xA, xB, xC, i64_w, i32_w]
     rfl
    refine zp 13 (some 25) undef zA98 rfl rfl (Or.inr ⟨by rfl, rfl⟩) ?_ ?_ ?_
    rotate_left
    ·simp only [Act.put, xA, xB, xC, i64_w, i32_w]
     rfl
    refine zp 14 (some 26) undef zA99 rfl rfl (Or.inr ⟨by rfl, rfl⟩) ?_ ?_ ?_
    rotate_left
    ·simp only [Act.put, xA, xB, xC, i64_w, i32_w]
     rfl
    refine zp 15 (some 27) undef zA100 rfl rfl (Or.inr ⟨by rfl, rfl⟩) ?_ ?_ ?_
    rotate_left
    ·simp only [Act.put, xA, xB, xC, i64_w, i32_w]
     rfl
    refine zp 16 (some 28) undef zA101 rfl rfl (Or.inr ⟨by rfl, rfl⟩) ?_ ?_ ?_
    rotate_left
    ·simp only [Act.put, xA, xB, xC, i64_w, i32_w]
     rfl
    refine zp 17 (some 29) undef zA102 rfl rfl (Or.inr ⟨by rfl, rfl⟩) ?_ ?_ ?_
    rotate_left
    ·simp only [Act.put, xA, xB, xC, i64_w, i32_w]
     rfl
    refine zp 18 (some 30) undef zA103 rfl rfl (Or.inr ⟨by rfl, rfl⟩) ?_ ?_ ?_
    rotate_left
    ·simp only [Act.put, xA, xB, xC, i64_w, i32_w]
     rfl
    refine zp 19 (some 31) undef zA104 rfl rfl (Or.inr ⟨by rfl, rfl⟩) ?_ ?_ ?_
    rotate_left
    ·simp only [Act.put, xA, xB, xC, i64_w, i32_w]
     rfl
    refine zp 20 (some 32) undef zA105 rfl rfl (Or.inr ⟨by rfl, rfl⟩) ?_ ?_ ?_
    rotate_left
    ·simp only [Act.put, xA, xB, xC, i64_w, i32_w]
     rfl
    refine zp 21 (some 33) undef zA106 rfl rfl (Or.inr ⟨by rfl, rfl⟩) ?_ ?_ ?_
    rotate_left
    ·simp only [Act.put, xA, xB, xC, i64_w, i32_w]
     rfl
    refine zp 22 (some 34) undef zA107 rfl rfl (Or.inr ⟨by rfl, rfl⟩) ?_ ?_ ?_
    rotate_left
    ·simp only [Act.put, xA, xB, xC, i64_w, i32_w]
     rfl
    refine zp 23 (some 35) ?_ zA108 rfl rfl (Or.inl ⟨by rfl, ?_⟩) ?_ ?_ ?_
    rotate_left
    ·intro w'
     go_simp
     with_reducible rfl
    rotate_left
    ·simp only [Act.put, xA, xB, xC, i64_w, i32_w]
     rfl
    refine done_ (done_of HT_.out (by kernel_rfl)) ?_
    try go_wp2
    go_ret
    exact ⟨zw, zs GE259.out⟩
   subst c6
   have H1 : ((impl_isCoordinate.f ((rd_T59 l0 x7_1).f1)).bind fun t261 => (if t261 = true then (if x7_1 > 0 then (if 0 ≤ (wrap64 (x7_1 - 1)) then (if (wrap64 (x7_1 - 1)) < (l0.length : Int) then ((impl_compareCells.f ((rd_T59 l0 (wrap64 (x7_1 - 1))).f0) ((rd_T59 l0 (wrap64 (x7_1 - 1))).f1) ((rd_T59 l0 x7_1).f0) ((rd_T59 l0 x7_1).f1)).bind fun t263 => (if t263 ≥ 0 then (some false) else (impl_IsShape.l0 k1 l0 l0 (l0.length : Int) (wrap64 (x7_1 + 1))))) else (none)) else (none)) else (impl_IsShape.l0 k1 l0 l0 (l0.length : Int) (wrap64 (x7_1 + 1)))) else (some false))) = some r := by rw [if_pos rfl] at H; exact H
   clear H
   have H := H1
   clear H1
   replace H := Option.bind_eq_some_iff.mp H
   obtain ⟨t261, A70, H⟩ := H
   replace H : (if t261 = true then (if x7_1 > 0 then (if 0 ≤ (wrap64 (x7_1 - 1)) then (if (wrap64 (x7_1 - 1)) < (l0.length : Int) then ((impl_compareCells.f ((rd_T59 l0 (wrap64 (x7_1 - 1))).f0) ((rd_T59 l0 (wrap64 (x7_1 - 1))).f1) ((rd_T59 l0 x7_1).f0) ((rd_T59 l0 x7_1).f1)).bind fun t263 => (if t263 ≥ 0 then (some false) else (impl_IsShape.l0 k1 l0 l0 (l0.length : Int) (wrap64 (x7_1 + 1))))) else (none)) else (none)) else (impl_IsShape.l0 k1 l0 l0 (l0.length : Int) (wrap64 (x7_1 + 1)))) else (some false)) = some r := H
   have A7 := aM A70
   clear A70
   by_cases c8 : t261 = true
   rotate_left
   ·replace c8 := Bool.eq_false_iff.mpr c8
    subst c8
    have H1 : (some false) = some r := by rw [if_neg (show ¬ (false = true) by decide)] at H; exact H
    clear H
    have H := H1
    clear H1
    obtain rfl := Option.some.inj H
    have p258 : 0 ≤ (x7_1 : Int) := of_decide_eq_true za
    have q258 : x7_1 < (l0.length : Int) := of_decide_eq_true za
    obtain ⟨ad258, e258, hx258_0, hx258_1⟩ := at_T59 HR0.out x7_1 p258 q258
    cases e258
    replace hx258_0 := zk HB.out hx258_0
    replace hx258_1 := zk HB.out hx258_1
    replace p258 := eq_true p258
    replace q258 := eq_true q258
    try go_wp2_with (first | ((with_reducible refine gate_dst (N := 4) rfl ?_); (try (refine gate_guard (by rfl) ?_; dsimp only)); refine zx 4 #[.int .i64 0, .int .i64 0] 59 ?_; intro gb259 hg w29 hbox hb; have n0_ := aM (below_step zb hb); have n1_ := aM (hbox); have n2_ := aM ((ze : w.heap.size ≤ gb259)); have n3_ := aM ((ze : w.heap.size ≤ gb259)); clear HB; have HB := n0_; have BK259 := n1_; have GW259 := n2_; have GE259 := n3_; clear n0_ n1_ n2_ n3_ hb hbox hg; have hcz30_0 : w29.cell? ⟨gb259, 0, none⟩ = some (.int .i64 0) := (blk_cell BK259.out 0).trans rfl; have hcz30_1 : w29.cell? ⟨gb259, 1, none⟩ = some (.int .i64 0) := (blk_cell BK259.out 1).trans rfl; have hfz30_0 := blk_frozen BK259.out 0; have hfz30_1 := blk_frozen BK259.out 1))
    have n0_ : Aside0 (((w29.setCell ⟨gb259, 0, none⟩ (.int .i64 ((rd_T59 l0 x7_1).f0))).setCell ⟨gb259, 1, none⟩ (.int .i64 ((rd_T59 l0 x7_1).f1))).heap[gb259]? = some (.cells #[.int .i64 ((rd_T59 l0 x7_1).f0), .int .i64 ((rd_T59 l0 x7_1).f1)] 59 (0, 0))) := ⟨by (with_reducible repeat (first | refine blk_drewN ?_ _ | refine blk_drew ?_ | refine blk_alloc ?_ _)); refine blk_put (cs := #[.int .i64 ((rd_T59 l0 x7_1).f0), .int .i64 0]) ?_ 1 _ rfl; (with_reducible repeat (first | refine blk_drewN ?_ _ | refine blk_drew ?_ | refine blk_alloc ?_ _)); refine blk_put (cs := #[.int .i64 0, .int .i64 0]) ?_ 0 _ rfl; (with_reducible repeat (first | refine blk_drewN ?_ _ | refine blk_drew ?_ | refine blk_alloc ?_ _)); exact BK259.out⟩
    have n1_ : Aside0 (Below w.heap.size w ((w29.setCell ⟨gb259, 0, none⟩ (.int .i64 ((rd_T59 l0 x7_1).f0))).setCell ⟨gb259, 1, none⟩ (.int .i64 ((rd_T59 l0 x7_1).f1)))) := ⟨zs GE259.out⟩
    (try clear BK259)
    (try clear HB)
    generalize ((w29.setCell ⟨gb259, 0, none⟩ (.int .i64 ((rd_T59 l0 x7_1).f0))).setCell ⟨gb259, 1, none⟩ (.int .i64 ((rd_T59 l0 x7_1).f1))) = w31 at n0_ n1_ ⊢
    have BK259 := n0_
    have HB := n1_
    clear n0_ n1_
    have n0_ := aM (blk_drew BK259.out)
    have n1_ := aM (below_drew1 HB.out)
    clear BK259
    clear HB
    have BK259 := n0_
    have HB := n1_
    clear n0_ n1_
    refine start_ (n := 24) (S := fun w' => w'.cell? ⟨gb259, 0, none⟩ = some (.int .i64 ((rd_T59 l0 x7_1).f0)) ∧ w'.cell? ⟨gb259, 1, none⟩ = some (.int .i64 ((rd_T59 l0 x7_1).f1))) (ds := []) zA84 (by kernel_rfl) rfl rfl ⟨(blk_cell BK259.out 0).trans rfl, (blk_cell BK259.out 1).trans rfl⟩ (fun hHeld => ?_); refine with_tabW impl_IsShape.tab4 impl_IsShape.bits4 (fun HT_ HW_ => ?_)
    generalize w31.drew = w32 at BK259 HB hHeld ⊢
    refine zp 0 (some 12) ?_ zA85 rfl rfl (Or.inl ⟨by rfl, ?_⟩) ?_ ?_ ?_
    rotate_left
    ·intro w'
     go_simp
     with_reducible rfl
    rotate_left
    ·simp only [Act.put, xA, xB, xC, i64_w, i32_w]
     rfl
    refine zu 1 (some 13) ?_ zA86 rfl rfl (Or.inl ⟨by rfl, ?_⟩) hHeld ?_ ?_ ?_
    rotate_left
    ·rintro w' ⟨s0, s1⟩
     go_simp
     with_reducible rfl
    rotate_left
    ·simp only [Act.put, xA, xB, xC, i64_w, i32_w]
     rfl
    refine one_ (i := 2) (N := some 14) zA87 rfl rfl (one_of HT_.out (by kernel_rfl)) (by decide) (fun K hK => ?_)
    refine goes_ Try.func77 (by kernel_rfl) rfl #[.int .i64 ((rd_T59 l0 x7_1).f0)] (by rfl) rfl rfl zm ?_
    with_reducible refine (impl_isCoordinate.calls ((rd_T59 l0 x7_1).f0) true _ A5.out).mono ?_
    rintro e w' ⟨rfl, ⟨nd, rfl⟩⟩
    refine ⟨_, rfl, ?_⟩
    refine hK.out _ _ ⟨(blk_cell BK259.out 0).trans rfl, (blk_cell BK259.out 1).trans rfl⟩ (fun hHeld => ?_)
    clear hK K
    refine norm_ (a' := ?_) ?_ ?_
    rotate_left
    ·show Act.put _ (some 14) _ = _
     simp only [Act.put, xA, xB, xC, i64_w, i32_w]
     rfl
    refine zp 3 (some 15) ?_ zA88 rfl rfl (Or.inl ⟨by rfl, ?_⟩) ?_ ?_ ?_
    rotate_left
    ·intro w'
     go_simp
     with_reducible rfl
    rotate_left
    ·simp only [Act.put, xA, xB, xC, i64_w, i32_w]
     rfl
    refine zp 4 (some 16) ?_ zA89 rfl rfl (Or.inl ⟨by rfl, ?_⟩) ?_ ?_ ?_
    rotate_left
    ·intro w'
     go_simp
     with_reducible rfl
    rotate_left
    ·simp only [Act.put, xA, xB, xC, i64_w, i32_w]
     rfl
    refine zp 5 (some 17) ?_ zA90 rfl rfl (Or.inl ⟨by rfl, ?_⟩) ?_ ?_ ?_
    rotate_left
    ·intro w'
     go_simp
     with_reducible rfl
    rotate_left
    ·simp only [Act.put, xA, xB, xC, i64_w, i32_w]
     rfl
    refine zu 6 (some 18) ?_ zA91 rfl rfl (Or.inl ⟨by rfl, ?_⟩) hHeld ?_ ?_ ?_
    rotate_left
    ·rintro w' ⟨s0, s1⟩
     go_simp
     with_reducible rfl
    rotate_left
    ·simp only [Act.put, xA, xB, xC, i64_w, i32_w]
     rfl
    refine one_ (i := 7) (N := some 19) zA92 rfl rfl (one_of HT_.out (by kernel_rfl)) (by decide) (fun K hK => ?_)
    refine goes_ Try.func77 (by kernel_rfl) rfl #[.int .i64 ((rd_T59 l0 x7_1).f1)] (by rfl) rfl rfl zm ?_
    with_reducible refine (impl_isCoordinate.calls ((rd_T59 l0 x7_1).f1) false _ A7.out).mono ?_
    rintro e w' ⟨rfl, ⟨nd, rfl⟩⟩
    refine ⟨_, rfl, ?_⟩
    refine hK.out _ _ ⟨(blk_cell BK259.out 0).trans rfl, (blk_cell BK259.out 1).trans rfl⟩ (fun hHeld => ?_)
    clear hK K
    refine norm_ (a' := ?_) ?_ ?_
    rotate_left
    ·show Act.put _ (some 19) _ = _
     simp only [Act.put, xA, xB, xC, i64_w, i32_w]
     rfl
    refine zp 8 (some 20) ?_ zA93 rfl rfl (Or.inl ⟨by rfl, ?_⟩) ?_ ?_ ?_
    rotate_left
    ·intro w'
     go_simp
     with_reducible rfl
    rotate_left
    ·simp only [Act.put, xA, xB, xC, i64_w, i32_w]
     rfl
    refine zp 9 (some 21) ?_ zA94 rfl rfl (Or.inl ⟨by rfl, ?_⟩) ?_ ?_ ?_
    rotate_left
    ·intro w'
     go_simp
     with_reducible rfl
    rotate_left
    ·simp only [Act.put, xA, xB, xC, i64_w, i32_w]
     rfl
    refine zp 10 (some 22) ?_ zA95 rfl rfl (Or.inl ⟨by rfl, ?_⟩) ?_ ?_ ?_
    rotate_left
    ·intro w'
     go_simp
     with_reducible rfl
    rotate_left
    ·simp only [Act.put, xA, xB, xC, i64_w, i32_w]
     rfl
    refine zp 11 (some 23) undef zA96 rfl rfl (Or.inr ⟨by rfl, rfl⟩) ?_ ?_ ?_
    rotate_left
    ·simp only [Act.put, xA, xB, xC, i64_w, i32_w]
     rfl
    refine zp 12 (some 24) undef zA97 rfl rfl (Or.inr ⟨by rfl, rfl⟩) ?_ ?_ ?_
    rotate_left
    ·simp only [Act.put, xA, xB, xC, i64_w, i32_w]
     rfl
    refine zp 13 (some 25) undef zA98 rfl rfl (Or.inr ⟨by rfl, rfl⟩) ?_ ?_ ?_
    rotate_left
    ·simp only [Act.put, xA, xB, xC, i64_w, i32_w]
     rfl
    refine zp 14 (some 26) undef zA99 rfl rfl (Or.inr ⟨by rfl, rfl⟩) ?_ ?_ ?_
    rotate_left
    ·simp only [Act.put, xA, xB, xC, i64_w, i32_w]
     rfl
    refine zp 15 (some 27) undef zA100 rfl rfl (Or.inr ⟨by rfl, rfl⟩) ?_ ?_ ?_
    rotate_left
    ·simp only [Act.put, xA, xB, xC, i64_w, i32_w]
     rfl
    refine zp 16 (some 28) undef zA101 rfl rfl (Or.inr ⟨by rfl, rfl⟩) ?_ ?_ ?_
    rotate_left
    ·simp only [Act.put, xA, xB, xC, i64_w, i32_w]
     rfl
    refine zp 17 (some 29) undef zA102 rfl rfl (Or.inr ⟨by rfl, rfl⟩) ?_ ?_ ?_
    rotate_left
    ·simp only [Act.put, xA, xB, xC, i64_w, i32_w]
     rfl
    refine zp 18 (some 30) undef zA103 rfl rfl (Or.inr ⟨by rfl, rfl⟩) ?_ ?_ ?_
    rotate_left
    ·simp only [Act.put, xA, xB, xC, i64_w, i32_w]
     rfl
    refine zp 19 (some 31) undef zA104 rfl rfl (Or.inr ⟨by rfl, rfl⟩) ?_ ?_ ?_
    rotate_left
    ·simp only [Act.put, xA, xB, xC, i64_w, i32_w]
     rfl
    refine zp 20 (some 32) undef zA105 rfl rfl (Or.inr ⟨by rfl, rfl⟩) ?_ ?_ ?_
    rotate_left
    ·simp only [Act.put, xA, xB, xC, i64_w, i32_w]
     rfl
    refine zp 21 (some 33) undef zA106 rfl rfl (Or.inr ⟨by rfl, rfl⟩) ?_ ?_ ?_
    rotate_left
    ·simp only [Act.put, xA, xB, xC, i64_w, i32_w]
     rfl
    refine zp 22 (some 34) undef zA107 rfl rfl (Or.inr ⟨by rfl, rfl⟩) ?_ ?_ ?_
    rotate_left
    ·simp only [Act.put, xA, xB, xC, i64_w, i32_w]
     rfl
    refine zp 23 (some 35) ?_ zA108 rfl rfl (Or.inl ⟨by rfl, ?_⟩) ?_ ?_ ?_
    rotate_left
    ·intro w'
     go_simp
     with_reducible rfl
    rotate_left
    ·simp only [Act.put, xA, xB, xC, i64_w, i32_w]
     rfl
    refine done_ (done_of HT_.out (by kernel_rfl)) ?_
    try go_wp2
    go_ret
    exact ⟨zw, zs GE259.out⟩
   subst c8
   have H1 : (if x7_1 > 0 then (if 0 ≤ (wrap64 (x7_1 - 1)) then (if (wrap64 (x7_1 - 1)) < (l0.length : Int) then ((impl_compareCells.f ((rd_T59 l0 (wrap64 (x7_1 - 1))).f0) ((rd_T59 l0 (wrap64 (x7_1 - 1))).f1) ((rd_T59 l0 x7_1).f0) ((rd_T59 l0 x7_1).f1)).bind fun t263 => (if t263 ≥ 0 then (some false) else (impl_IsShape.l0 k1 l0 l0 (l0.length : Int) (wrap64 (x7_1 + 1))))) else (none)) else (none)) else (impl_IsShape.l0 k1 l0 l0 (l0.length : Int) (wrap64 (x7_1 + 1)))) = some r := by rw [if_pos rfl] at H; exact H
   clear H
   have H := H1
   clear H1
   by_cases c9 : x7_1 > 0
   rotate_left
   ·rw [if_neg c9] at H
    have c9b0 : decide (0 < x7_1) = false := decide_eq_false c9
    clear c9
    have H' := aM H
    clear H
    have p258 : 0 ≤ (x7_1 : Int) := of_decide_eq_true za
    have q258 : x7_1 < (l0.length : Int) := of_decide_eq_true za
    obtain ⟨ad258, e258, hx258_0, hx258_1⟩ := at_T59 HR0.out x7_1 p258 q258
    cases e258
    replace hx258_0 := zk HB.out hx258_0
    replace hx258_1 := zk HB.out hx258_1
    replace p258 := eq_true p258
    replace q258 := eq_true q258
    try go_wp2_with (first | ((with_reducible refine gate_dst (N := 4) rfl ?_); (try (refine gate_guard (by rfl) ?_; dsimp only)); refine zx 4 #[.int .i64 0, .int .i64 0] 59 ?_; intro gb259 hg w25 hbox hb; have n0_ := aM (below_step zb hb); have n1_ := aM (hbox); have n2_ := aM ((ze : w.heap.size ≤ gb259)); have n3_ := aM ((ze : w.heap.size ≤ gb259)); clear HB; have HB := n0_; have BK259 := n1_; have GW259 := n2_; have GE259 := n3_; clear n0_ n1_ n2_ n3_ hb hbox hg; have hcz26_0 : w25.cell? ⟨gb259, 0, none⟩ = some (.int .i64 0) := (blk_cell BK259.out 0).trans rfl; have hcz26_1 : w25.cell? ⟨gb259, 1, none⟩ = some (.int .i64 0) := (blk_cell BK259.out 1).trans rfl; have hfz26_0 := blk_frozen BK259.out 0; have hfz26_1 := blk_frozen BK259.out 1))
    have n0_ : Aside0 (((w25.setCell ⟨gb259, 0, none⟩ (.int .i64 ((rd_T59 l0 x7_1).f0))).setCell ⟨gb259, 1, none⟩ (.int .i64 ((rd_T59 l0 x7_1).f1))).heap[gb259]? = some (.cells #[.int .i64 ((rd_T59 l0 x7_1).f0), .int .i64 ((rd_T59 l0 x7_1).f1)] 59 (0, 0))) := ⟨by (with_reducible repeat (first | refine blk_drewN ?_ _ | refine blk_drew ?_ | refine blk_alloc ?_ _)); refine blk_put (cs := #[.int .i64 ((rd_T59 l0 x7_1).f0), .int .i64 0]) ?_ 1 _ rfl; (with_reducible repeat (first | refine blk_drewN ?_ _ | refine blk_drew ?_ | refine blk_alloc ?_ _)); refine blk_put (cs := #[.int .i64 0, .int .i64 0]) ?_ 0 _ rfl; (with_reducible repeat (first | refine blk_drewN ?_ _ | refine blk_drew ?_ | refine blk_alloc ?_ _)); exact BK259.out⟩
    have n1_ : Aside0 (Below w.heap.size w ((w25.setCell ⟨gb259, 0, none⟩ (.int .i64 ((rd_T59 l0 x7_1).f0))).setCell ⟨gb259, 1, none⟩ (.int .i64 ((rd_T59 l0 x7_1).f1)))) := ⟨zs GE259.out⟩
    (try clear BK259)
    (try clear HB)
    generalize ((w25.setCell ⟨gb259, 0, none⟩ (.int .i64 ((rd_T59 l0 x7_1).f0))).setCell ⟨gb259, 1, none⟩ (.int .i64 ((rd_T59 l0 x7_1).f1))) = w27 at n0_ n1_ ⊢
    have BK259 := n0_
    have HB := n1_
    clear n0_ n1_
    have n0_ := aM (blk_drew BK259.out)
    have n1_ := aM (below_drew1 HB.out)
    clear BK259
    clear HB
    have BK259 := n0_
    have HB := n1_
    clear n0_ n1_
    refine start_ (n := 24) (S := fun w' => w'.cell? ⟨gb259, 0, none⟩ = some (.int .i64 ((rd_T59 l0 x7_1).f0)) ∧ w'.cell? ⟨gb259, 1, none⟩ = some (.int .i64 ((rd_T59 l0 x7_1).f1))) (ds := []) zA84 (by kernel_rfl) rfl rfl ⟨(blk_cell BK259.out 0).trans rfl, (blk_cell BK259.out 1).trans rfl⟩ (fun hHeld => ?_); refine with_tabW impl_IsShape.tab4 impl_IsShape.bits4 (fun HT_ HW_ => ?_)
    generalize w27.drew = w28 at BK259 HB hHeld ⊢
    refine zp 0 (some 12) ?_ zA85 rfl rfl (Or.inl ⟨by rfl, ?_⟩) ?_ ?_ ?_
    rotate_left
    ·intro w'
     go_simp
     with_reducible rfl
    rotate_left
    ·simp only [Act.put, xA, xB, xC, i64_w, i32_w]
     rfl
    refine zu 1 (some 13) ?_ zA86 rfl rfl (Or.inl ⟨by rfl, ?_⟩) hHeld ?_ ?_ ?_
    rotate_left
    ·rintro w' ⟨s0, s1⟩
     go_simp
     with_reducible rfl
    rotate_left
    ·simp only [Act.put, xA, xB, xC, i64_w, i32_w]
     rfl
    refine one_ (i := 2) (N := some 14) zA87 rfl rfl (one_of HT_.out (by kernel_rfl)) (by decide) (fun K hK => ?_)
    refine goes_ Try.func77 (by kernel_rfl) rfl #[.int .i64 ((rd_T59 l0 x7_1).f0)] (by rfl) rfl rfl zm ?_
    with_reducible refine (impl_isCoordinate.calls ((rd_T59 l0 x7_1).f0) true _ A5.out).mono ?_
    rintro e w' ⟨rfl, ⟨nd, rfl⟩⟩
    refine ⟨_, rfl, ?_⟩
    refine hK.out _ _ ⟨(blk_cell BK259.out 0).trans rfl, (blk_cell BK259.out 1).trans rfl⟩ (fun hHeld => ?_)
    clear hK K
    refine norm_ (a' := ?_) ?_ ?_
    rotate_left
    ·show Act.put _ (some 14) _ = _
     simp only [Act.put, xA, xB, xC, i64_w, i32_w]
     rfl
    refine zp 3 (some 15) ?_ zA88 rfl rfl (Or.inl ⟨by rfl, ?_⟩) ?_ ?_ ?_
    rotate_left
    ·intro w'
     go_simp
     with_reducible rfl
    rotate_left
    ·simp only [Act.put, xA, xB, xC, i64_w, i32_w]
     rfl
    refine zp 4 (some 16) ?_ zA89 rfl rfl (Or.inl ⟨by rfl, ?_⟩) ?_ ?_ ?_
    rotate_left
    ·intro w'
     go_simp
     with_reducible rfl
    rotate_left
    ·simp only [Act.put, xA, xB, xC, i64_w, i32_w]
     rfl
    refine zp 5 (some 17) ?_ zA90 rfl rfl (Or.inl ⟨by rfl, ?_⟩) ?_ ?_ ?_
    rotate_left
    ·intro w'
     go_simp
     with_reducible rfl
    rotate_left
    ·simp only [Act.put, xA, xB, xC, i64_w, i32_w]
     rfl
    refine zu 6 (some 18) ?_ zA91 rfl rfl (Or.inl ⟨by rfl, ?_⟩) hHeld ?_ ?_ ?_
    rotate_left
    ·rintro w' ⟨s0, s1⟩
     go_simp
     with_reducible rfl
    rotate_left
    ·simp only [Act.put, xA, xB, xC, i64_w, i32_w]
     rfl
    refine one_ (i := 7) (N := some 19) zA92 rfl rfl (one_of HT_.out (by kernel_rfl)) (by decide) (fun K hK => ?_)
    refine goes_ Try.func77 (by kernel_rfl) rfl #[.int .i64 ((rd_T59 l0 x7_1).f1)] (by rfl) rfl rfl zm ?_
    with_reducible refine (impl_isCoordinate.calls ((rd_T59 l0 x7_1).f1) true _ A7.out).mono ?_
    rintro e w' ⟨rfl, ⟨nd, rfl⟩⟩
    refine ⟨_, rfl, ?_⟩
    refine hK.out _ _ ⟨(blk_cell BK259.out 0).trans rfl, (blk_cell BK259.out 1).trans rfl⟩ (fun hHeld => ?_)
    clear hK K
    refine norm_ (a' := ?_) ?_ ?_
    rotate_left
    ·show Act.put _ (some 19) _ = _
     simp only [Act.put, xA, xB, xC, i64_w, i32_w]
     rfl
    refine zp 8 (some 20) ?_ zA93 rfl rfl (Or.inl ⟨by rfl, ?_⟩) ?_ ?_ ?_
    rotate_left
    ·intro w'
     go_simp
     with_reducible rfl
    rotate_left
    ·simp only [Act.put, xA, xB, xC, i64_w, i32_w]
     rfl
    refine zp 9 (some 21) ?_ zA94 rfl rfl (Or.inl ⟨by rfl, ?_⟩) ?_ ?_ ?_
    rotate_left
    ·intro w'
     go_simp
     with_reducible rfl
    rotate_left
    ·simp only [Act.put, xA, xB, xC, i64_w, i32_w]
     rfl
    refine zp 10 (some 22) ?_ zA95 rfl rfl (Or.inl ⟨by rfl, ?_⟩) ?_ ?_ ?_
    rotate_left
    ·intro w'
     go_simp
     with_reducible rfl
    rotate_left
    ·simp only [Act.put, xA, xB, xC, i64_w, i32_w]
     rfl
    refine zp 11 (some 23) ?_ zA96 rfl rfl (Or.inl ⟨by rfl, ?_⟩) ?_ ?_ ?_
    rotate_left
    ·intro w'
     go_simp
     with_reducible rfl
    rotate_left
    ·simp only [Act.put, xA, xB, xC, i64_w, i32_w]
     rfl
    refine zp 12 (some 24) ?_ zA97 rfl rfl (Or.inl ⟨by rfl, ?_⟩) ?_ ?_ ?_
    rotate_left
    ·intro w'
     go_simp
     with_reducible rfl
    rotate_left
    ·simp only [Act.put, xA, xB, xC, i64_w, i32_w]
     rfl
    refine zp 13 (some 25) ?_ zA98 rfl rfl (Or.inl ⟨by rfl, ?_⟩) ?_ ?_ ?_
    rotate_left
    ·intro w'
     go_simp
     with_reducible rfl
    rotate_left
    ·simp only [Act.put, xA, xB, xC, i64_w, i32_w]
     rfl
    refine zp 14 (some 26) undef zA99 rfl rfl (Or.inr ⟨by rfl, rfl⟩) ?_ ?_ ?_
    rotate_left
    ·simp only [Act.put, xA, xB, xC, i64_w, i32_w]
     rfl
    refine zp 15 (some 27) undef zA100 rfl rfl (Or.inr ⟨by rfl, rfl⟩) ?_ ?_ ?_
    rotate_left
    ·simp only [Act.put, xA, xB, xC, i64_w, i32_w]
     rfl
    refine zp 16 (some 28) undef zA101 rfl rfl (Or.inr ⟨by rfl, rfl⟩) ?_ ?_ ?_
    rotate_left
    ·simp only [Act.put, xA, xB, xC, i64_w, i32_w]
     rfl
    refine zp 17 (some 29) undef zA102 rfl rfl (Or.inr ⟨by rfl, rfl⟩) ?_ ?_ ?_
    rotate_left
    ·simp only [Act.put, xA, xB, xC, i64_w, i32_w]
     rfl
    refine zp 18 (some 30) undef zA103 rfl rfl (Or.inr ⟨by rfl, rfl⟩) ?_ ?_ ?_
    rotate_left
    ·simp only [Act.put, xA, xB, xC, i64_w, i32_w]
     rfl
    refine zp 19 (some 31) undef zA104 rfl rfl (Or.inr ⟨by rfl, rfl⟩) ?_ ?_ ?_
    rotate_left
    ·simp only [Act.put, xA, xB, xC, i64_w, i32_w]
     rfl
    refine zp 20 (some 32) undef zA105 rfl rfl (Or.inr ⟨by rfl, rfl⟩) ?_ ?_ ?_
    rotate_left
    ·simp only [Act.put, xA, xB, xC, i64_w, i32_w]
     rfl
    refine zp 21 (some 33) undef zA106 rfl rfl (Or.inr ⟨by rfl, rfl⟩) ?_ ?_ ?_
    rotate_left
    ·simp only [Act.put, xA, xB, xC, i64_w, i32_w]
     rfl
    refine zp 22 (some 34) ?_ zA107 rfl rfl (Or.inl ⟨by rfl, ?_⟩) ?_ ?_ ?_
    rotate_left
    ·intro w'
     go_simp
     with_reducible rfl
    rotate_left
    ·simp only [Act.put, xA, xB, xC, i64_w, i32_w]
     rfl
    refine zp 23 (some 35) ?_ zA108 rfl rfl (Or.inl ⟨by rfl, ?_⟩) ?_ ?_ ?_
    rotate_left
    ·intro w'
     go_simp
     with_reducible rfl
    rotate_left
    ·simp only [Act.put, xA, xB, xC, i64_w, i32_w]
     rfl
    refine done_ (done_of HT_.out (by kernel_rfl)) ?_
    try go_wp2
    go_roundg k1
    case measure => have := HK1.out; omega
    case rel => exact ⟨(wrap64 (x7_1 + 1)), zr, H', ⟨by have := HK1.out; omega⟩, ⟨zs GE259.out⟩⟩
   rw [if_pos c9] at H
   have c9b0 : decide (0 < x7_1) = true := decide_eq_true c9
   clear c9
   obtain ⟨ji10, hji10⟩ : ∃ j_ : Int, (wrap64 (x7_1 - 1)) = j_ := ⟨_, rfl⟩
   replace H : (if 0 ≤ (ji10) then (if (ji10) < (l0.length : Int) then ((impl_compareCells.f ((rd_T59 l0 (ji10)).f0) ((rd_T59 l0 (ji10)).f1) ((rd_T59 l0 x7_1).f0) ((rd_T59 l0 x7_1).f1)).bind fun t263 => (if t263 ≥ 0 then (some false) else (impl_IsShape.l0 k1 l0 l0 (l0.length : Int) (wrap64 (x7_1 + 1))))) else (none)) else (none)) = some r := by first | (rw [hji10] at H; exact H) | (simp only [hji10] at H ⊢; exact H)
   (try rw [hji10] at A5)
   (try rw [hji10] at A7)
   have hji10w : (IntKind.i64.wrap (x7_1 - 1)) = ji10 := (i64_w _).trans hji10
   by_cases c11 : 0 ≤ (ji10)
   rotate_left
   ·rw [if_neg c11] at H
    exact absurd H (by simp)
   rw [if_pos c11] at H
   have c11b0 : decide (0 ≤ (ji10)) = true := decide_eq_true c11
   clear c11
   by_cases c12 : (ji10) < (l0.length : Int)
   rotate_left
   ·rw [if_neg c12] at H
    exact absurd H (by simp)
   rw [if_pos c12] at H
   have c12b0 : decide ((ji10) < (l0.length : Int)) = true := decide_eq_true c12
   clear c12
   replace H := Option.bind_eq_some_iff.mp H
   obtain ⟨t263, A130, H⟩ := H
   replace H : (if t263 ≥ 0 then (some false) else (impl_IsShape.l0 k1 l0 l0 (l0.length : Int) (wrap64 (x7_1 + 1)))) = some r := H
   have A13 := aM A130
   clear A130
   by_cases c14 : t263 ≥ 0
   ·rw [if_pos c14] at H
    have c14b0 : decide (0 ≤ t263) = true := decide_eq_true c14
    clear c14
    obtain rfl := Option.some.inj H
    have p258 : 0 ≤ (x7_1 : Int) := of_decide_eq_true za
    have q258 : x7_1 < (l0.length : Int) := of_decide_eq_true za
    obtain ⟨ad258, e258, hx258_0, hx258_1⟩ := at_T59 HR0.out x7_1 p258 q258
    cases e258
    replace hx258_0 := zk HB.out hx258_0
    replace hx258_1 := zk HB.out hx258_1
    replace p258 := eq_true p258
    replace q258 := eq_true q258
    try go_wp2_with (first | ((with_reducible refine gate_dst (N := 4) rfl ?_); (try (refine gate_guard (by rfl) ?_; dsimp only)); refine zx 4 #[.int .i64 0, .int .i64 0] 59 ?_; intro gb259 hg w15 hbox hb; have n0_ := aM (below_step zb hb); have n1_ := aM (hbox); have n2_ := aM ((ze : w.heap.size ≤ gb259)); have n3_ := aM ((ze : w.heap.size ≤ gb259)); clear HB; have HB := n0_; have BK259 := n1_; have GW259 := n2_; have GE259 := n3_; clear n0_ n1_ n2_ n3_ hb hbox hg; have hcz16_0 : w15.cell? ⟨gb259, 0, none⟩ = some (.int .i64 0) := (blk_cell BK259.out 0).trans rfl; have hcz16_1 : w15.cell? ⟨gb259, 1, none⟩ = some (.int .i64 0) := (blk_cell BK259.out 1).trans rfl; have hfz16_0 := blk_frozen BK259.out 0; have hfz16_1 := blk_frozen BK259.out 1))
    have n0_ : Aside0 (((w15.setCell ⟨gb259, 0, none⟩ (.int .i64 ((rd_T59 l0 x7_1).f0))).setCell ⟨gb259, 1, none⟩ (.int .i64 ((rd_T59 l0 x7_1).f1))).heap[gb259]? = some (.cells #[.int .i64 ((rd_T59 l0 x7_1).f0), .int .i64 ((rd_T59 l0 x7_1).f1)] 59 (0, 0))) := ⟨by (with_reducible repeat (first | refine blk_drewN ?_ _ | refine blk_drew ?_ | refine blk_alloc ?_ _)); refine blk_put (cs := #[.int .i64 ((rd_T59 l0 x7_1).f0), .int .i64 0]) ?_ 1 _ rfl; (with_reducible repeat (first | refine blk_drewN ?_ _ | refine blk_drew ?_ | refine blk_alloc ?_ _)); refine blk_put (cs := #[.int .i64 0, .int .i64 0]) ?_ 0 _ rfl; (with_reducible repeat (first | refine blk_drewN ?_ _ | refine blk_drew ?_ | refine blk_alloc ?_ _)); exact BK259.out⟩
    have n1_ : Aside0 (Below w.heap.size w ((w15.setCell ⟨gb259, 0, none⟩ (.int .i64 ((rd_T59 l0 x7_1).f0))).setCell ⟨gb259, 1, none⟩ (.int .i64 ((rd_T59 l0 x7_1).f1)))) := ⟨zs GE259.out⟩
    (try clear BK259)
    (try clear HB)
    generalize ((w15.setCell ⟨gb259, 0, none⟩ (.int .i64 ((rd_T59 l0 x7_1).f0))).setCell ⟨gb259, 1, none⟩ (.int .i64 ((rd_T59 l0 x7_1).f1))) = w17 at n0_ n1_ ⊢
    have BK259 := n0_
    have HB := n1_
    clear n0_ n1_
    have n0_ := aM (blk_drew BK259.out)
    have n1_ := aM (below_drew1 HB.out)
    clear BK259
    clear HB
    have BK259 := n0_
    have HB := n1_
    clear n0_ n1_
    have p262 : 0 ≤ ((ji10) : Int) := of_decide_eq_true za
    have q262 : (ji10) < (l0.length : Int) := of_decide_eq_true za
    obtain ⟨ad262, e262, hx262_0, hx262_1⟩ := at_T59 HR0.out (ji10) p262 q262
    have hw262_1 := hx262_1
    have hw262_0 := hx262_0
    obtain rfl : ad258 = ad262 := (by injection e262)
    replace hx262_0 := zk HB.out hx262_0
    replace hx262_1 := zk HB.out hx262_1
    replace p262 := eq_true p262
    replace q262 := eq_true q262
    refine start_ (n := 24) (S := fun w' => w'.cell? ⟨gb259, 0, none⟩ = some (.int .i64 ((rd_T59 l0 x7_1).f0)) ∧ w'.cell? ⟨gb259, 1, none⟩ = some (.int .i64 ((rd_T59 l0 x7_1).f1)) ∧ w'.cell? (ad258.add (((ji10)).toNat * 2)) = some (.int .i64 ((rd_T59 l0 (ji10)).f0)) ∧ w'.cell? ⟨(ad258.add (((ji10)).toNat * 2)).block, (ad258.add (((ji10)).toNat * 2)).off + 1, none⟩ = some (.int .i64 ((rd_T59 l0 (ji10)).f1))) (ds := []) zA84 (by kernel_rfl) rfl rfl ⟨(blk_cell BK259.out 0).trans rfl, (blk_cell BK259.out 1).trans rfl, (zk HB.out hw262_0), (zk HB.out hw262_1)⟩ (fun hHeld => ?_); refine with_tabW impl_IsShape.tab4 impl_IsShape.bits4 (fun HT_ HW_ => ?_)
    generalize w17.drew = w18 at BK259 HB hx262_0 hx262_1 hHeld ⊢
    refine zp 0 (some 12) ?_ zA85 rfl rfl (Or.inl ⟨by rfl, ?_⟩) ?_ ?_ ?_
    rotate_left
    ·intro w'
     go_simp
     with_reducible rfl
    rotate_left
    ·simp only [Act.put, xA, xB, xC, i64_w, i32_w]
     rfl
    refine zu 1 (some 13) ?_ zA86 rfl rfl (Or.inl ⟨by rfl, ?_⟩) hHeld ?_ ?_ ?_
    rotate_left
    ·rintro w' ⟨s0, s1, s2, s3⟩
     go_simp
     with_reducible rfl
    rotate_left
    ·simp only [Act.put, xA, xB, xC, i64_w, i32_w]
     rfl
    refine one_ (i := 2) (N := some 14) zA87 rfl rfl (one_of HT_.out (by kernel_rfl)) (by decide) (fun K hK => ?_)
    refine goes_ Try.func77 (by kernel_rfl) rfl #[.int .i64 ((rd_T59 l0 x7_1).f0)] (by rfl) rfl rfl zm ?_
    with_reducible refine (impl_isCoordinate.calls ((rd_T59 l0 x7_1).f0) true _ A5.out).mono ?_
    rintro e w' ⟨rfl, ⟨nd, rfl⟩⟩
    refine ⟨_, rfl, ?_⟩
    refine hK.out _ _ ⟨(blk_cell BK259.out 0).trans rfl, (blk_cell BK259.out 1).trans rfl, (zk HB.out hw262_0), (zk HB.out hw262_1)⟩ (fun hHeld => ?_)
    clear hK K
    refine norm_ (a' := ?_) ?_ ?_
    rotate_left
    ·show Act.put _ (some 14) _ = _
     simp only [Act.put, xA, xB, xC, i64_w, i32_w]
     rfl
    refine zp 3 (some 15) ?_ zA88 rfl rfl (Or.inl ⟨by rfl, ?_⟩) ?_ ?_ ?_
    rotate_left
    ·intro w'
     go_simp
     with_reducible rfl
    rotate_left
    ·simp only [Act.put, xA, xB, xC, i64_w, i32_w]
     rfl
    refine zp 4 (some 16) ?_ zA89 rfl rfl (Or.inl ⟨by rfl, ?_⟩) ?_ ?_ ?_
    rotate_left
    ·intro w'
     go_simp
     with_reducible rfl
    rotate_left
    ·simp only [Act.put, xA, xB, xC, i64_w, i32_w]
     rfl
    refine zp 5 (some 17) ?_ zA90 rfl rfl (Or.inl ⟨by rfl, ?_⟩) ?_ ?_ ?_
    rotate_left
    ·intro w'
     go_simp
     with_reducible rfl
    rotate_left
    ·simp only [Act.put, xA, xB, xC, i64_w, i32_w]
     rfl
    refine zu 6 (some 18) ?_ zA91 rfl rfl (Or.inl ⟨by rfl, ?_⟩) hHeld ?_ ?_ ?_
    rotate_left
    ·rintro w' ⟨s0, s1, s2, s3⟩
     go_simp
     with_reducible rfl
    rotate_left
    ·simp only [Act.put, xA, xB, xC, i64_w, i32_w]
     rfl
    refine one_ (i := 7) (N := some 19) zA92 rfl rfl (one_of HT_.out (by kernel_rfl)) (by decide) (fun K hK => ?_)
    refine goes_ Try.func77 (by kernel_rfl) rfl #[.int .i64 ((rd_T59 l0 x7_1).f1)] (by rfl) rfl rfl zm ?_
    with_reducible refine (impl_isCoordinate.calls ((rd_T59 l0 x7_1).f1) true _ A7.out).mono ?_
    rintro e w' ⟨rfl, ⟨nd, rfl⟩⟩
    refine ⟨_, rfl, ?_⟩
    refine hK.out _ _ ⟨(blk_cell BK259.out 0).trans rfl, (blk_cell BK259.out 1).trans rfl, (zk HB.out hw262_0), (zk HB.out hw262_1)⟩ (fun hHeld => ?_)
    clear hK K
    refine norm_ (a' := ?_) ?_ ?_
    rotate_left
    ·show Act.put _ (some 19) _ = _
     simp only [Act.put, xA, xB, xC, i64_w, i32_w]
     rfl
    refine zp 8 (some 20) ?_ zA93 rfl rfl (Or.inl ⟨by rfl, ?_⟩) ?_ ?_ ?_
    rotate_left
    ·intro w'
     go_simp
     with_reducible rfl
    rotate_left
    ·simp only [Act.put, xA, xB, xC, i64_w, i32_w]
     rfl
    refine zp 9 (some 21) ?_ zA94 rfl rfl (Or.inl ⟨by rfl, ?_⟩) ?_ ?_ ?_
    rotate_left
    ·intro w'
     go_simp
     with_reducible rfl
    rotate_left
    ·simp only [Act.put, xA, xB, xC, i64_w, i32_w]
     rfl
    refine zp 10 (some 22) ?_ zA95 rfl rfl (Or.inl ⟨by rfl, ?_⟩) ?_ ?_ ?_
    rotate_left
    ·intro w'
     go_simp
     with_reducible rfl
    rotate_left
    ·simp only [Act.put, xA, xB, xC, i64_w, i32_w]
     rfl
    refine zp 11 (some 23) ?_ zA96 rfl rfl (Or.inl ⟨by rfl, ?_⟩) ?_ ?_ ?_
    rotate_left
    ·intro w'
     go_simp
     with_reducible rfl
    rotate_left
    ·simp only [Act.put, xA, xB, xC, i64_w, i32_w]
     rfl
    refine zp 12 (some 24) ?_ zA97 rfl rfl (Or.inl ⟨by rfl, ?_⟩) ?_ ?_ ?_
    rotate_left
    ·intro w'
     go_simp
     with_reducible rfl
    rotate_left
    ·simp only [Act.put, xA, xB, xC, i64_w, i32_w]
     rfl
    refine zp 13 (some 25) ?_ zA98 rfl rfl (Or.inl ⟨by rfl, ?_⟩) ?_ ?_ ?_
    rotate_left
    ·intro w'
     go_simp
     with_reducible rfl
    rotate_left
    ·simp only [Act.put, xA, xB, xC, i64_w, i32_w]
     rfl
    refine zp 14 (some 26) ?_ zA99 rfl rfl (Or.inl ⟨by rfl, ?_⟩) ?_ ?_ ?_
    rotate_left
    ·intro w'
     go_simp
     with_reducible rfl
    rotate_left
    ·simp only [Act.put, xA, xB, xC, i64_w, i32_w]
     rfl
    refine zp 15 (some 27) ?_ zA100 rfl rfl (Or.inl ⟨by rfl, ?_⟩) ?_ ?_ ?_
    rotate_left
    ·intro w'
     go_simp
     with_reducible rfl
    rotate_left
    ·simp only [Act.put, xA, xB, xC, i64_w, i32_w]
     rfl
    refine zp 16 (some 28) ?_ zA101 rfl rfl (Or.inl ⟨by rfl, ?_⟩) ?_ ?_ ?_
    rotate_left
    ·intro w'
     go_simp
     with_reducible rfl
    rotate_left
    ·simp only [Act.put, xA, xB, xC, i64_w, i32_w]
     rfl
    refine zp 17 (some 29) ?_ zA102 rfl rfl (Or.inl ⟨by rfl, ?_⟩) ?_ ?_ ?_
    rotate_left
    ·intro w'
     go_simp
     with_reducible rfl
    rotate_left
    ·simp only [Act.put, xA, xB, xC, i64_w, i32_w]
     rfl
    refine zu 18 (some 30) ?_ zA103 rfl rfl (Or.inl ⟨by rfl, ?_⟩) hHeld ?_ ?_ ?_
    rotate_left
    ·rintro w' ⟨s0, s1, s2, s3⟩
     go_simp
     with_reducible rfl
    rotate_left
    ·simp only [Act.put, xA, xB, xC, i64_w, i32_w]
     rfl
    refine zu 19 (some 31) ?_ zA104 rfl rfl (Or.inl ⟨by rfl, ?_⟩) hHeld ?_ ?_ ?_
    rotate_left
    ·rintro w' ⟨s0, s1, s2, s3⟩
     go_simp
     with_reducible rfl
    rotate_left
    ·simp only [Act.put, xA, xB, xC, i64_w, i32_w]
     rfl
    refine one_ (i := 20) (N := some 32) zA105 rfl rfl (one_of HT_.out (by kernel_rfl)) (by decide) (fun K hK => ?_)
    refine goes_ Try.func78 (by kernel_rfl) rfl #[.agg #[.int .i64 ((rd_T59 l0 (ji10)).f0), .int .i64 ((rd_T59 l0 (ji10)).f1)], .agg #[.int .i64 ((rd_T59 l0 x7_1).f0), .int .i64 ((rd_T59 l0 x7_1).f1)]] (by rfl) rfl rfl (by (try simp only [mA, mB, mC]); first | done | (simp only [hji10]; rfl) | rfl | (simp only [lD, lT]; rfl)) ?_
    with_reducible refine (impl_compareCells.calls ((rd_T59 l0 (ji10)).f0) ((rd_T59 l0 (ji10)).f1) ((rd_T59 l0 x7_1).f0) ((rd_T59 l0 x7_1).f1) t263 _ A13.out).mono ?_
    rintro e w19 ⟨rfl, hb⟩
    refine ⟨_, rfl, ?_⟩
    have n0_ := aM (blk_below (g := gb259) (o := .cells #[.int .i64 ((rd_T59 l0 x7_1).f0), .int .i64 ((rd_T59 l0 x7_1).f1)] 59 (0, 0)) (mB_ BK259.out) hb)
    have n1_ := aM (below_step (zs GE259.out) hb)
    clear BK259
    clear HB
    have BK259 := n0_
    have HB := n1_
    clear n0_ n1_
    (try clear hb)
    (try clear hb2)
    (try clear hk)
    (try clear hi)
    refine hK.out _ _ ⟨(blk_cell BK259.out 0).trans rfl, (blk_cell BK259.out 1).trans rfl, (zk HB.out hw262_0), (zk HB.out hw262_1)⟩ (fun hHeld => ?_)
    clear hK K
    refine norm_ (a' := ?_) ?_ ?_
    rotate_left
    ·show Act.put _ (some 32) _ = _
     simp only [Act.put, xA, xB, xC, i64_w, i32_w]
     rfl
    refine zp 21 (some 33) ?_ zA106 rfl rfl (Or.inl ⟨by rfl, ?_⟩) ?_ ?_ ?_
    rotate_left
    ·intro w'
     go_simp
     with_reducible rfl
    rotate_left
    ·simp only [Act.put, xA, xB, xC, i64_w, i32_w]
     rfl
    refine zp 22 (some 34) ?_ zA107 rfl rfl (Or.inl ⟨by rfl, ?_⟩) ?_ ?_ ?_
    rotate_left
    ·intro w'
     go_simp
     with_reducible rfl
    rotate_left
    ·simp only [Act.put, xA, xB, xC, i64_w, i32_w]
     rfl
    refine zp 23 (some 35) ?_ zA108 rfl rfl (Or.inl ⟨by rfl, ?_⟩) ?_ ?_ ?_
    rotate_left
    ·intro w'
     go_simp
     with_reducible rfl
    rotate_left
    ·simp only [Act.put, xA, xB, xC, i64_w, i32_w]
     rfl
    refine done_ (done_of HT_.out (by kernel_rfl)) ?_
    try go_wp2
    go_ret
    exact ⟨by first | rfl | (simp [errW_none, errW_some] <;> rfl) | (simp only [← hji10]; first | rfl | (simp [errW_none, errW_some] <;> rfl)) | (simp [*, errW_none, errW_some] <;> rfl), zs GE259.out⟩
   rw [if_neg c14] at H
   have c14b0 : decide (0 ≤ t263) = false := decide_eq_false c14
   clear c14
   have H' := aM H
   clear H
   have p258 : 0 ≤ (x7_1 : Int) := of_decide_eq_true za
   have q258 : x7_1 < (l0.length : Int) := of_decide_eq_true za
   obtain ⟨ad258, e258, hx258_0, hx258_1⟩ := at_T59 HR0.out x7_1 p258 q258
   cases e258
   replace hx258_0 := zk HB.out hx258_0
   replace hx258_1 := zk HB.out hx258_1
   replace p258 := eq_true p258
   replace q258 := eq_true q258
   try go_wp2_with (first | ((with_reducible refine gate_dst (N := 4) rfl ?_); (try (refine gate_guard (by rfl) ?_; dsimp only)); refine zx 4 #[.int .i64 0, .int .i64 0] 59 ?_; intro gb259 hg w20 hbox hb; have n0_ := aM (below_step zb hb); have n1_ := aM (hbox); have n2_ := aM ((ze : w.heap.size ≤ gb259)); have n3_ := aM ((ze : w.heap.size ≤ gb259)); clear HB; have HB := n0_; have BK259 := n1_; have GW259 := n2_; have GE259 := n3_; clear n0_ n1_ n2_ n3_ hb hbox hg; have hcz21_0 : w20.cell? ⟨gb259, 0, none⟩ = some (.int .i64 0) := (blk_cell BK259.out 0).trans rfl; have hcz21_1 : w20.cell? ⟨gb259, 1, none⟩ = some (.int .i64 0) := (blk_cell BK259.out 1).trans rfl; have hfz21_0 := blk_frozen BK259.out 0; have hfz21_1 := blk_frozen BK259.out 1))
   have n0_ : Aside0 (((w20.setCell ⟨gb259, 0, none⟩ (.int .i64 ((rd_T59 l0 x7_1).f0))).setCell ⟨gb259, 1, none⟩ (.int .i64 ((rd_T59 l0 x7_1).f1))).heap[gb259]? = some (.cells #[.int .i64 ((rd_T59 l0 x7_1).f0), .int .i64 ((rd_T59 l0 x7_1).f1)] 59 (0, 0))) := ⟨by (with_reducible repeat (first | refine blk_drewN ?_ _ | refine blk_drew ?_ | refine blk_alloc ?_ _)); refine blk_put (cs := #[.int .i64 ((rd_T59 l0 x7_1).f0), .int .i64 0]) ?_ 1 _ rfl; (with_reducible repeat (first | refine blk_drewN ?_ _ | refine blk_drew ?_ | refine blk_alloc ?_ _)); refine blk_put (cs := #[.int .i64 0, .int .i64 0]) ?_ 0 _ rfl; (with_reducible repeat (first | refine blk_drewN ?_ _ | refine blk_drew ?_ | refine blk_alloc ?_ _)); exact BK259.out⟩
   have n1_ : Aside0 (Below w.heap.size w ((w20.setCell ⟨gb259, 0, none⟩ (.int .i64 ((rd_T59 l0 x7_1).f0))).setCell ⟨gb259, 1, none⟩ (.int .i64 ((rd_T59 l0 x7_1).f1)))) := ⟨zs GE259.out⟩
   (try clear BK259)
   (try clear HB)
   generalize ((w20.setCell ⟨gb259, 0, none⟩ (.int .i64 ((rd_T59 l0 x7_1).f0))).setCell ⟨gb259, 1, none⟩ (.int .i64 ((rd_T59 l0 x7_1).f1))) = w22 at n0_ n1_ ⊢
   have BK259 := n0_
   have HB := n1_
   clear n0_ n1_
   have n0_ := aM (blk_drew BK259.out)
   have n1_ := aM (below_drew1 HB.out)
   clear BK259
   clear HB
   have BK259 := n0_
   have HB := n1_
   clear n0_ n1_
   have p262 : 0 ≤ ((ji10) : Int) := of_decide_eq_true za
   have q262 : (ji10) < (l0.length : Int) := of_decide_eq_true za
   obtain ⟨ad262, e262, hx262_0, hx262_1⟩ := at_T59 HR0.out (ji10) p262 q262
   have hw262_1 := hx262_1
   have hw262_0 := hx262_0
   obtain rfl : ad258 = ad262 := (by injection e262)
   replace hx262_0 := zk HB.out hx262_0
   replace hx262_1 := zk HB.out hx262_1
   replace p262 := eq_true p262
   replace q262 := eq_true q262
   refine start_ (n := 24) (S := fun w' => w'.cell? ⟨gb259, 0, none⟩ = some (.int .i64 ((rd_T59 l0 x7_1).f0)) ∧ w'.cell? ⟨gb259, 1, none⟩ = some (.int .i64 ((rd_T59 l0 x7_1).f1)) ∧ w'.cell? (ad258.add (((ji10)).toNat * 2)) = some (.int .i64 ((rd_T59 l0 (ji10)).f0)) ∧ w'.cell? ⟨(ad258.add (((ji10)).toNat * 2)).block, (ad258.add (((ji10)).toNat * 2)).off + 1, none⟩ = some (.int .i64 ((rd_T59 l0 (ji10)).f1))) (ds := []) zA84 (by kernel_rfl) rfl rfl ⟨(blk_cell BK259.out 0).trans rfl, (blk_cell BK259.out 1).trans rfl, (zk HB.out hw262_0), (zk HB.out hw262_1)⟩ (fun hHeld => ?_); refine with_tabW impl_IsShape.tab4 impl_IsShape.bits4 (fun HT_ HW_ => ?_)
   generalize w22.drew = w23 at BK259 HB hx262_0 hx262_1 hHeld ⊢
   refine zp 0 (some 12) ?_ zA85 rfl rfl (Or.inl ⟨by rfl, ?_⟩) ?_ ?_ ?_
   rotate_left
   ·intro w'
    go_simp
    with_reducible rfl
   rotate_left
   ·simp only [Act.put, xA, xB, xC, i64_w, i32_w]
    rfl
   refine zu 1 (some 13) ?_ zA86 rfl rfl (Or.inl ⟨by rfl, ?_⟩) hHeld ?_ ?_ ?_
   rotate_left
   ·rintro w' ⟨s0, s1, s2, s3⟩
    go_simp
    with_reducible rfl
   rotate_left
   ·simp only [Act.put, xA, xB, xC, i64_w, i32_w]
    rfl
   refine one_ (i := 2) (N := some 14) zA87 rfl rfl (one_of HT_.out (by kernel_rfl)) (by decide) (fun K hK => ?_)
   refine goes_ Try.func77 (by kernel_rfl) rfl #[.int .i64 ((rd_T59 l0 x7_1).f0)] (by rfl) rfl rfl zm ?_
   with_reducible refine (impl_isCoordinate.calls ((rd_T59 l0 x7_1).f0) true _ A5.out).mono ?_
   rintro e w' ⟨rfl, ⟨nd, rfl⟩⟩
   refine ⟨_, rfl, ?_⟩
   refine hK.out _ _ ⟨(blk_cell BK259.out 0).trans rfl, (blk_cell BK259.out 1).trans rfl, (zk HB.out hw262_0), (zk HB.out hw262_1)⟩ (fun hHeld => ?_)
   clear hK K
   refine norm_ (a' := ?_) ?_ ?_
   rotate_left
   ·show Act.put _ (some 14) _ = _
    simp only [Act.put, xA, xB, xC, i64_w, i32_w]
    rfl
   refine zp 3 (some 15) ?_ zA88 rfl rfl (Or.inl ⟨by rfl, ?_⟩) ?_ ?_ ?_
   rotate_left
   ·intro w'
    go_simp
    with_reducible rfl
   rotate_left
   ·simp only [Act.put, xA, xB, xC, i64_w, i32_w]
    rfl
   refine zp 4 (some 16) ?_ zA89 rfl rfl (Or.inl ⟨by rfl, ?_⟩) ?_ ?_ ?_
   rotate_left
   ·intro w'
    go_simp
    with_reducible rfl
   rotate_left
   ·simp only [Act.put, xA, xB, xC, i64_w, i32_w]
    rfl
   refine zp 5 (some 17) ?_ zA90 rfl rfl (Or.inl ⟨by rfl, ?_⟩) ?_ ?_ ?_
   rotate_left
   ·intro w'
    go_simp
    with_reducible rfl
   rotate_left
   ·simp only [Act.put, xA, xB, xC, i64_w, i32_w]
    rfl
   refine zu 6 (some 18) ?_ zA91 rfl rfl (Or.inl ⟨by rfl, ?_⟩) hHeld ?_ ?_ ?_
   rotate_left
   ·rintro w' ⟨s0, s1, s2, s3⟩
    go_simp
    with_reducible rfl
   rotate_left
   ·simp only [Act.put, xA, xB, xC, i64_w, i32_w]
    rfl
   refine one_ (i := 7) (N := some 19) zA92 rfl rfl (one_of HT_.out (by kernel_rfl)) (by decide) (fun K hK => ?_)
   refine goes_ Try.func77 (by kernel_rfl) rfl #[.int .i64 ((rd_T59 l0 x7_1).f1)] (by rfl) rfl rfl zm ?_
   with_reducible refine (impl_isCoordinate.calls ((rd_T59 l0 x7_1).f1) true _ A7.out).mono ?_
   rintro e w' ⟨rfl, ⟨nd, rfl⟩⟩
   refine ⟨_, rfl, ?_⟩
   refine hK.out _ _ ⟨(blk_cell BK259.out 0).trans rfl, (blk_cell BK259.out 1).trans rfl, (zk HB.out hw262_0), (zk HB.out hw262_1)⟩ (fun hHeld => ?_)
   clear hK K
   refine norm_ (a' := ?_) ?_ ?_
   rotate_left
   ·show Act.put _ (some 19) _ = _
    simp only [Act.put, xA, xB, xC, i64_w, i32_w]
    rfl
   refine zp 8 (some 20) ?_ zA93 rfl rfl (Or.inl ⟨by rfl, ?_⟩) ?_ ?_ ?_
   rotate_left
   ·intro w'
    go_simp
    with_reducible rfl
   rotate_left
   ·simp only [Act.put, xA, xB, xC, i64_w, i32_w]
    rfl
   refine zp 9 (some 21) ?_ zA94 rfl rfl (Or.inl ⟨by rfl, ?_⟩) ?_ ?_ ?_
   rotate_left
   ·intro w'
    go_simp
    with_reducible rfl
   rotate_left
   ·simp only [Act.put, xA, xB, xC, i64_w, i32_w]
    rfl
   refine zp 10 (some 22) ?_ zA95 rfl rfl (Or.inl ⟨by rfl, ?_⟩) ?_ ?_ ?_
   rotate_left
   ·intro w'
    go_simp
    with_reducible rfl
   rotate_left
   ·simp only [Act.put, xA, xB, xC, i64_w, i32_w]
    rfl
   refine zp 11 (some 23) ?_ zA96 rfl rfl (Or.inl ⟨by rfl, ?_⟩) ?_ ?_ ?_
   rotate_left
   ·intro w'
    go_simp
    with_reducible rfl
   rotate_left
   ·simp only [Act.put, xA, xB, xC, i64_w, i32_w]
    rfl
   refine zp 12 (some 24) ?_ zA97 rfl rfl (Or.inl ⟨by rfl, ?_⟩) ?_ ?_ ?_
   rotate_left
   ·intro w'
    go_simp
    with_reducible rfl
   rotate_left
   ·simp only [Act.put, xA, xB, xC, i64_w, i32_w]
    rfl
   refine zp 13 (some 25) ?_ zA98 rfl rfl (Or.inl ⟨by rfl, ?_⟩) ?_ ?_ ?_
   rotate_left
   ·intro w'
    go_simp
    with_reducible rfl
   rotate_left
   ·simp only [Act.put, xA, xB, xC, i64_w, i32_w]
    rfl
   refine zp 14 (some 26) ?_ zA99 rfl rfl (Or.inl ⟨by rfl, ?_⟩) ?_ ?_ ?_
   rotate_left
   ·intro w'
    go_simp
    with_reducible rfl
   rotate_left
   ·simp only [Act.put, xA, xB, xC, i64_w, i32_w]
    rfl
   refine zp 15 (some 27) ?_ zA100 rfl rfl (Or.inl ⟨by rfl, ?_⟩) ?_ ?_ ?_
   rotate_left
   ·intro w'
    go_simp
    with_reducible rfl
   rotate_left
   ·simp only [Act.put, xA, xB, xC, i64_w, i32_w]
    rfl
   refine zp 16 (some 28) ?_ zA101 rfl rfl (Or.inl ⟨by rfl, ?_⟩) ?_ ?_ ?_
   rotate_left
   ·intro w'
    go_simp
    with_reducible rfl
   rotate_left
   ·simp only [Act.put, xA, xB, xC, i64_w, i32_w]
    rfl
   refine zp 17 (some 29) ?_ zA102 rfl rfl (Or.inl ⟨by rfl, ?_⟩) ?_ ?_ ?_
   rotate_left
   ·intro w'
    go_simp
    with_reducible rfl
   rotate_left
   ·simp only [Act.put, xA, xB, xC, i64_w, i32_w]
    rfl
   refine zu 18 (some 30) ?_ zA103 rfl rfl (Or.inl ⟨by rfl, ?_⟩) hHeld ?_ ?_ ?_
   rotate_left
   ·rintro w' ⟨s0, s1, s2, s3⟩
    go_simp
    with_reducible rfl
   rotate_left
   ·simp only [Act.put, xA, xB, xC, i64_w, i32_w]
    rfl
   refine zu 19 (some 31) ?_ zA104 rfl rfl (Or.inl ⟨by rfl, ?_⟩) hHeld ?_ ?_ ?_
   rotate_left
   ·rintro w' ⟨s0, s1, s2, s3⟩
    go_simp
    with_reducible rfl
   rotate_left
   ·simp only [Act.put, xA, xB, xC, i64_w, i32_w]
    rfl
   refine one_ (i := 20) (N := some 32) zA105 rfl rfl (one_of HT_.out (by kernel_rfl)) (by decide) (fun K hK => ?_)
   refine goes_ Try.func78 (by kernel_rfl) rfl #[.agg #[.int .i64 ((rd_T59 l0 (ji10)).f0), .int .i64 ((rd_T59 l0 (ji10)).f1)], .agg #[.int .i64 ((rd_T59 l0 x7_1).f0), .int .i64 ((rd_T59 l0 x7_1).f1)]] (by rfl) rfl rfl (by (try simp only [mA, mB, mC]); first | done | (simp only [hji10]; rfl) | rfl | (simp only [lD, lT]; rfl)) ?_
   with_reducible refine (impl_compareCells.calls ((rd_T59 l0 (ji10)).f0) ((rd_T59 l0 (ji10)).f1) ((rd_T59 l0 x7_1).f0) ((rd_T59 l0 x7_1).f1) t263 _ A13.out).mono ?_
   rintro e w24 ⟨rfl, hb⟩
   refine ⟨_, rfl, ?_⟩
   have n0_ := aM (blk_below (g := gb259) (o := .cells #[.int .i64 ((rd_T59 l0 x7_1).f0), .int .i64 ((rd_T59 l0 x7_1).f1)] 59 (0, 0)) (mB_ BK259.out) hb)
   have n1_ := aM (below_step (zs GE259.out) hb)
   clear BK259
   clear HB
   have BK259 := n0_
   have HB := n1_
   clear n0_ n1_
   (try clear hb)
   (try clear hb2)
   (try clear hk)
   (try clear hi)
   refine hK.out _ _ ⟨(blk_cell BK259.out 0).trans rfl, (blk_cell BK259.out 1).trans rfl, (zk HB.out hw262_0), (zk HB.out hw262_1)⟩ (fun hHeld => ?_)
   clear hK K
   refine norm_ (a' := ?_) ?_ ?_
   rotate_left
   ·show Act.put _ (some 32) _ = _
    simp only [Act.put, xA, xB, xC, i64_w, i32_w]
    rfl
   refine zp 21 (some 33) ?_ zA106 rfl rfl (Or.inl ⟨by rfl, ?_⟩) ?_ ?_ ?_
   rotate_left
   ·intro w'
    go_simp
    with_reducible rfl
   rotate_left
   ·simp only [Act.put, xA, xB, xC, i64_w, i32_w]
    rfl
   refine zp 22 (some 34) ?_ zA107 rfl rfl (Or.inl ⟨by rfl, ?_⟩) ?_ ?_ ?_
   rotate_left
   ·intro w'
    go_simp
    with_reducible rfl
   rotate_left
   ·simp only [Act.put, xA, xB, xC, i64_w, i32_w]
    rfl
   refine zp 23 (some 35) ?_ zA108 rfl rfl (Or.inl ⟨by rfl, ?_⟩) ?_ ?_ ?_
   rotate_left
   ·intro w'
    go_simp
    with_reducible rfl
   rotate_left
   ·simp only [Act.put, xA, xB, xC, i64_w, i32_w]
    rfl
   refine done_ (done_of HT_.out (by kernel_rfl)) ?_
   try go_wp2
   go_roundg k1
   case measure => have := HK1.out; omega
   case rel => exact ⟨(wrap64 (x7_1 + 1)), zr, H', ⟨by have := HK1.out; omega⟩, ⟨zs GE259.out⟩⟩
mutual
def spec_l07Turn.j0 : Nat → Int → Int → Int → Option (Int × Int)
 | 0, _, _, _ => none
 | k + 1, x1, x340000, x340001 => spec_l07Turn.l0 k (Int.tmod x1 6) x340000 x340001
def spec_l07Turn.l0 : Nat → Int → Int → Int → Option (Int × Int)
 | 0, _, _, _ => none
 | k + 1, x5, x340000, x340001 => if x5 > 0 then (spec_l07Turn.l0 k (wrap64 (x5 - 1)) (wrap64 (-x340001)) (wrap64 (x340000 + x340001))) else (some (x340000, x340001))
end
def spec_l07Turn.f (k : Nat) (a0_0 : Int) (a0_1 : Int) (a1 : Int) : Option (Int × Int) := if a1 ≥ 6 then (spec_l07Turn.j0 k a1 a0_1 a0_0) else (spec_l07Turn.j0 k a1 a0_0 a0_1)
theorem spec_l07Turn.calls (k : Nat) (a0_0 : Int) (a0_1 : Int) (a1 : Int) (r1 : Int) (r2 : Int) (w : World) (h : spec_l07Turn.f k a0_0 a0_1 a1 = some (r1, r2)) :
  Calls Try.prog 63 #[.agg #[.int .i64 a0_0, .int .i64 a0_1], .int .i64 a1] w fun e w' => e = .returned (.agg #[.int .i64 r1, .int .i64 r2]) ∧ Below w.heap.size w w' := by
 have hu59 := Try.underlying59
 have HB := aM (Below.refl w.heap.size w)
 have H : (if a1 ≥ 6 then (spec_l07Turn.j0 k a1 a0_1 a0_0) else (spec_l07Turn.j0 k a1 a0_0 a0_1)) = some (r1, r2) := h
 clear h
 have HC3 := aM H
 clear H
 go_enter Try.func63, Try.ntmps63
 go_upto_if 7 with (first | ((with_reducible refine gate_dst (N := 2) rfl ?_); refine zx 2 #[.int .i64 a0_0, .int .i64 a0_1] 59 ?_; intro gb339 hg w4 hbox hb; have n0_ := aM (below_step zb hb); have n1_ := aM (hbox); have n2_ := aM ((ze : w.heap.size ≤ gb339)); have n3_ := aM ((ze : w.heap.size ≤ gb339)); clear HB; have HB := n0_; have BK339 := n1_; have GW339 := n2_; have GE339 := n3_; clear n0_ n1_ n2_ n3_; clear hb hbox hg) | ((with_reducible refine gate_dst (N := 4) rfl ?_); refine zx 4 #[.int .i64 0, .int .i64 0] 59 ?_; intro gb340 hg w5 hbox hb; have n0_ := aM (blk_below (g := gb339) (o := .cells #[.int .i64 a0_0, .int .i64 a0_1] 59 (0, 0)) (mB_ BK339.out) hb); have n1_ := aM (below_step (zs GE339.out) hb); have n2_ := aM (hbox); have n3_ := aM ((zf GE339.out : w.heap.size ≤ gb340)); have n4_ := aM ((zf GE339.out : w.heap.size ≤ gb340)); have n5_ := aM ((zl BK339.out : gb339 ≠ gb340)); have n6_ := aM ((zn BK339.out : gb340 ≠ gb339)); clear BK339 HB; have BK339 := n0_; have HB := n1_; have BK340 := n2_; have GW340 := n3_; have GE340 := n4_; have NB339_340 := n5_; have NB340_339 := n6_; clear n0_ n1_ n2_ n3_ n4_ n5_ n6_; clear hb hbox hg))
 (try simp only [Act.put, xA, xB, xC])
 go_cut [] (fun wc => ∃ (kq : Nat) (x340000_2 : Int) (x340001_2 : Int), Aside0 (spec_l07Turn.j0 kq a1 x340000_2 x340001_2 = some (r1, r2)) ∧ Aside0 (kq ≤ k) ∧ Aside0 (wc.heap[gb339]? = some (.cells #[.int .i64 x340000_2, .int .i64 x340001_2] 59 (0, 0))) ∧ Aside0 (wc.heap[gb340]? = some (.cells #[.int .i64 0, .int .i64 0] 59 (0, 0))) ∧ Aside0 (Below w.heap.size w wc))
 case first =>
  have H := HC3.out
  clear HC3
  by_cases c6 : a1 ≥ 6
  rotate_left
  ·rw [if_neg c6] at H
   have c6b0 : decide (6 ≤ a1) = false := decide_eq_false c6
   clear c6
   (first | rw [c6b0] | (simp only [i64_w, i32_w]; rw [c6b0]) | skip)
   have H' := aM H
   clear H
   go_wp2
   go_meet
   case rel => exact ⟨_, (a0_0), (a0_1), H', ⟨by first | omega | exact Nat.le_refl _⟩, ⟨mB_ BK339.out⟩, ⟨mB_ BK340.out⟩, ⟨zt GE339.out GE340.out⟩⟩
  rw [if_pos c6] at H
  have c6b0 : decide (6 ≤ a1) = true := decide_eq_true c6
  clear c6
  (first | rw [c6b0] | (simp only [i64_w, i32_w]; rw [c6b0]) | skip)
  have H' := aM H
  clear H
  have hnb7 := NB339_340.out
  have hnc7 := NB340_339.out
  have hcz8_0 : w5.cell? ⟨gb339, 0, none⟩ = some (.int .i64 a0_0) := (blk_cell BK339.out 0).trans rfl
  have hcz8_1 : w5.cell? ⟨gb339, 1, none⟩ = some (.int .i64 a0_1) := (blk_cell BK339.out 1).trans rfl
  have hfz8_0 := blk_frozen BK339.out 0
  have hfz8_1 := blk_frozen BK339.out 1
  go_wp2
  go_meet
  case rel => exact ⟨_, (a0_1), (a0_0), H', ⟨by first | omega | exact Nat.le_refl _⟩, ⟨by (with_reducible repeat (first | refine blk_drewN ?_ _ | refine blk_drew ?_ | refine blk_alloc ?_ _)); refine blk_put (cs := #[.int .i64 a0_1, .int .i64 a0_1]) ?_ 1 _ rfl; (with_reducible repeat (first | refine blk_drewN ?_ _ | refine blk_drew ?_ | refine blk_alloc ?_ _)); refine blk_put (cs := #[.int .i64 a0_0, .int .i64 a0_1]) ?_ 0 _ rfl; (with_reducible repeat (first | refine blk_drewN ?_ _ | refine blk_drew ?_ | refine blk_alloc ?_ _)); exact BK339.out⟩, ⟨by (with_reducible repeat (first | refine blk_drewN ?_ _ | refine blk_drew ?_ | refine blk_alloc ?_ _)); refine blk_far ?_ NB340_339.out _; (with_reducible repeat (first | refine blk_drewN ?_ _ | refine blk_drew ?_ | refine blk_alloc ?_ _)); refine blk_far ?_ NB340_339.out _; (with_reducible repeat (first | refine blk_drewN ?_ _ | refine blk_drew ?_ | refine blk_alloc ?_ _)); exact BK340.out⟩, ⟨zt GE339.out GE340.out⟩⟩
 case rest =>
  clear HC3
  try clear p2
  try clear c6
  try clear c6b0
  try clear c7
  try clear hcz8_0
  try clear hcz8_1
  try clear hfz8_0
  try clear hfz8_1
  obtain ⟨kq, x340000_2, x340001_2, HA, HJ2, BK339, BK340, HB⟩ := hcut
  cases kq with
  | zero => exact absurd HA.out (by simp [spec_l07Turn.j0])
  | succ kj2 =>
   have H := HA.out
   clear HA
   simp only [spec_l07Turn.j0] at H
   have H' := aM H
   clear H
   go_wp2
   go_loopg [5] kj2 (fun kq v5 w' => ∃ (x5_2 : Int) (x340000_2 : Int) (x340001_2 : Int), v5 = .int .i64 x5_2 ∧ Aside0 (spec_l07Turn.l0 kq x5_2 x340000_2 x340001_2 = some (r1, r2)) ∧ Aside0 (kq ≤ kj2) ∧ Aside0 (w'.heap[gb339]? = some (.cells #[.int .i64 x340000_2, .int .i64 x340001_2] 59 (0, 0))) ∧ Aside0 (w'.heap[gb340]? = some (.cells #[.int .i64 0, .int .i64 0] 59 (0, 0))) ∧ Aside0 (Below w.heap.size w w'))
   case atStart => exact ⟨(Int.tmod a1 6), (x340000_2), (x340001_2), zr, H', ⟨Nat.le_refl _⟩, ⟨mB_ BK339.out⟩, ⟨mB_ BK340.out⟩, ⟨zt GE339.out GE340.out⟩⟩
   case round =>
    clear H'
    try clear p2
    try clear c6
    try clear c6b0
    try clear c7
    try clear hcz8_0
    try clear hcz8_1
    try clear hfz8_0
    try clear hfz8_1
    try clear p2
    obtain ⟨x5_2, x340000_2, x340001_2, rfl, HA, HK2, BK339, BK340, HB⟩ := hrel
    cases gk with
    | zero => exact absurd HA.out (by simp [spec_l07Turn.l0])
    | succ k2 =>
     have H := HA.out
     clear HA
     simp only [spec_l07Turn.l0] at H
     by_cases c9 : x5_2 > 0
     ·rw [if_pos c9] at H
      have c9b0 : decide (0 < x5_2) = true := decide_eq_true c9
      clear c9
      have H' := aM H
      clear H
      have hnb10 := NB339_340.out
      have hnc10 := NB340_339.out
      have hcz11_0 : wr.cell? ⟨gb339, 0, none⟩ = some (.int .i64 x340000_2) := (blk_cell BK339.out 0).trans rfl
      have hcz11_1 : wr.cell? ⟨gb339, 1, none⟩ = some (.int .i64 x340001_2) := (blk_cell BK339.out 1).trans rfl
      have hfz11_0 := blk_frozen BK339.out 0
      have hfz11_1 := blk_frozen BK339.out 1
      go_wp2
      go_roundg k2
      case measure => have := HJ2.out; have := HK2.out; omega
      case rel => exact ⟨(wrap64 (x5_2 - 1)), (wrap64 (-x340001_2)), (wrap64 (x340000_2 + x340001_2)), zr, H', ⟨by have := HJ2.out; have := HK2.out; omega⟩, ⟨by (with_reducible repeat (first | refine blk_drewN ?_ _ | refine blk_drew ?_ | refine blk_alloc ?_ _)); refine blk_put (cs := #[.int .i64 (wrap64 (-x340001_2)), .int .i64 x340001_2]) ?_ 1 _ rfl; (with_reducible repeat (first | refine blk_drewN ?_ _ | refine blk_drew ?_ | refine blk_alloc ?_ _)); refine blk_put (cs := #[.int .i64 x340000_2, .int .i64 x340001_2]) ?_ 0 _ rfl; (with_reducible repeat (first | refine blk_drewN ?_ _ | refine blk_drew ?_ | refine blk_alloc ?_ _)); exact BK339.out⟩, ⟨by (with_reducible repeat (first | refine blk_drewN ?_ _ | refine blk_drew ?_ | refine blk_alloc ?_ _)); refine blk_far ?_ NB340_339.out _; (with_reducible repeat (first | refine blk_drewN ?_ _ | refine blk_drew ?_ | refine blk_alloc ?_ _)); refine blk_far ?_ NB340_339.out _; (with_reducible repeat (first | refine blk_drewN ?_ _ | refine blk_drew ?_ | refine blk_alloc ?_ _)); exact BK340.out⟩, ⟨zt GE339.out GE340.out⟩⟩
     rw [if_neg c9] at H
     have c9b0 : decide (0 < x5_2) = false := decide_eq_false c9
     clear c9
     simp only [Option.some.injEq, Prod.mk.injEq] at H
     obtain ⟨rfl, rfl⟩ := H
     have hnb12 := NB339_340.out
     have hnc12 := NB340_339.out
     have hcz13_0 : wr.cell? ⟨gb339, 0, none⟩ = some (.int .i64 x340000_2) := (blk_cell BK339.out 0).trans rfl
     have hcz13_1 : wr.cell? ⟨gb339, 1, none⟩ = some (.int .i64 x340001_2) := (blk_cell BK339.out 1).trans rfl
     have hfz13_0 := blk_frozen BK339.out 0
     have hfz13_1 := blk_frozen BK339.out 1
     have hcz14_0 : wr.cell? ⟨gb340, 0, none⟩ = some (.int .i64 0) := (blk_cell BK340.out 0).trans rfl
     have hcz14_1 : wr.cell? ⟨gb340, 1, none⟩ = some (.int .i64 0) := (blk_cell BK340.out 1).trans rfl
     have hfz14_0 := blk_frozen BK340.out 0
     have hfz14_1 := blk_frozen BK340.out 1
     go_wp2
     refine bodyPost_ret (results_cell_row rfl _ _ gb340 59 #[.int .i64 x340000_2, .int .i64 x340001_2] (0, 0) _ rfl (by (with_reducible repeat (first | refine blk_drewN ?_ _ | refine blk_drew ?_ | refine blk_alloc ?_ _)); refine blk_put (cs := #[.int .i64 x340000_2, .int .i64 0]) ?_ 1 _ rfl; (with_reducible repeat (first | refine blk_drewN ?_ _ | refine blk_drew ?_ | refine blk_alloc ?_ _)); refine blk_put (cs := #[.int .i64 0, .int .i64 0]) ?_ 0 _ rfl; (with_reducible repeat (first | refine blk_drewN ?_ _ | refine blk_drew ?_ | refine blk_alloc ?_ _)); exact BK340.out) Try.underlying59 rfl (by kernel_rfl)) rfl ?_
     exact ⟨zw, zt GE339.out GE340.out⟩
def spec_l02Sort.l0 : Nat → List (S59) → List (S59) → Int → Option ((List (S59)))
 | 0, _, _, _ => none
 | k + 1, x0, x3, x4 => if x4 < (x0.length : Int) then (if 0 ≤ x4 then ((spec_l02Insert.f k x3 ((rd_T59 x0 x4).f0) ((rd_T59 x0 x4).f1)).bind fun t345 => (spec_l02Sort.l0 k x0 t345 (wrap64 (x4 + 1)))) else (none)) else (some x3)
def spec_l02Sort.f (k : Nat) (l0 : List (S59)) : Option ((List (S59))) := spec_l02Sort.l0 k l0 (([] : List (S59))) 0
theorem spec_l02Sort.calls (k : Nat) (A0 : Option Addr) (c0 : Nat) (l0 : List (S59)) (r : List (S59)) (w : World) (hr0 : Kd.C k59 w A0 l0.length l0) (hc0 : l0.length ≤ c0) (h : spec_l02Sort.f k l0 = some r) :
  Calls Try.prog 65 #[.slice A0 l0.length c0] w fun e w' => ∃ v0_ : Value, e = .returned (v0_) ∧ Kd.R k59 59 w' w.heap.size (fun _ => True) v0_ r ∧ Below w.heap.size w w' := by
 have hu59 := Try.underlying59
 have HR0 := aM hr0
 have HC0 := aM hc0
 clear hr0 hc0
 have HB := aM (Below.refl w.heap.size w)
 have H : (spec_l02Sort.l0 k l0 (([] : List (S59))) 0) = some r := h
 clear h
 obtain ⟨y341, hy341⟩ : ∃ y_ : List (S59), y_ = (([] : List (S59))) := ⟨_, rfl⟩
 replace H : (spec_l02Sort.l0 k l0 y341 0) = some r := zy H hy341
 have Ny341 := aM hy341
 clear hy341
 have H' := aM H
 clear H
 go_enter Try.func65, Try.ntmps65
 go_wp2_with (first | ((with_reducible refine gate_dst (N := 5) rfl ?_); refine Kd.R_lit k59 _ 59 ?hg (N := 5) ?hd (xs := ([] : List (S59))) (inner := []) (ok := fun _ => True) (okp := fun _ => True) ?hr ?hp (fun _ hk => hk) trivial (Below.refl _ _) (Nat.le_refl _) (by simp) ?_; (case hd => rfl); (case hg => rfl); (case hr => first | (go_simp; done) | (go_simp; rfl)); (case hp => exact (Reps.none _ _)); intro v342 w2 ho3 hb hg_ hnew_; clear hg_ hnew_; (first | rw [← Ny341.out] at ho3 | (simp only [Int.reduceToNat] at ho3; rw [← Ny341.out] at ho3)); have n0_ := aM (Kd.R_lower ho3 (below_size zb)); have n1_ := aM (below_step zb hb); clear HB; have HO343 := n0_; have HB := n1_; clear n0_ n1_; clear hb ho3))
 go_loopg [3, 4] k (fun kq v3 v4 w' => ∃ (x3_1 : List (S59)) (x4_1 : Int), v4 = .int .i64 x4_1 ∧ Aside0 (spec_l02Sort.l0 kq l0 x3_1 x4_1 = some r) ∧ Aside0 (kq ≤ k) ∧ Aside0 (Kd.R k59 59 w' w.heap.size (fun _ => True) v3 x3_1) ∧ Aside0 (Below w.heap.size w w'))
 case atStart => exact ⟨(y341), (0), zr, H', ⟨Nat.le_refl _⟩, ⟨mR_ HO343.out⟩, ⟨zb⟩⟩
 case round =>
  clear H'
  try clear p2
  obtain ⟨x3_1, x4_1, rfl, HA, HK1, HO_3, HB⟩ := hrel
  cases gk with
  | zero => exact absurd HA.out (by simp [spec_l02Sort.l0])
  | succ k1 =>
   have H := HA.out
   clear HA
   simp only [spec_l02Sort.l0] at H
   by_cases c4 : x4_1 < (l0.length : Int)
   rotate_left
   ·rw [if_neg c4] at H
    have c4b0 : decide (x4_1 < (l0.length : Int)) = false := decide_eq_false c4
    clear c4
    obtain rfl := Option.some.inj H
    go_wp2
    go_ret
    exact ⟨_, zw, mR_ HO_3.out, zb⟩
   rw [if_pos c4] at H
   have c4b0 : decide (x4_1 < (l0.length : Int)) = true := decide_eq_true c4
   clear c4
   by_cases c5 : 0 ≤ x4_1
   rotate_left
   ·rw [if_neg c5] at H
    exact absurd H (by simp)
   rw [if_pos c5] at H
   have c5b0 : decide (0 ≤ x4_1) = true := decide_eq_true c5
   clear c5
   replace H := Option.bind_eq_some_iff.mp H
   obtain ⟨t345, A60, H⟩ := H
   replace H : (spec_l02Sort.l0 k1 l0 t345 (wrap64 (x4_1 + 1))) = some r := H
   have A6 := aM A60
   clear A60
   have H' := aM H
   clear H
   have p344 : 0 ≤ (x4_1 : Int) := of_decide_eq_true za
   have q344 : x4_1 < (l0.length : Int) := of_decide_eq_true za
   obtain ⟨ad344, e344, hx344_0, hx344_1⟩ := at_T59 HR0.out x4_1 p344 q344
   cases e344
   replace hx344_0 := zk HB.out hx344_0
   replace hx344_1 := zk HB.out hx344_1
   replace p344 := eq_true p344
   replace q344 := eq_true q344
   obtain ⟨Ao7, co7, eo7⟩ := Kd.R_slice HO_3.out
   subst eo7
   go_wp2_with (first | ((with_reducible refine gate_callee (f := 91) rfl ?_); refine goesL_ (some 17) rfl rfl Try.func91 (by kernel_rfl) rfl #[.slice Ao7 x3_1.length co7, .agg #[.int .i64 ((rd_T59 l0 x4_1).f0), .int .i64 ((rd_T59 l0 x4_1).f1)]] rfl zm ?_; (with_reducible refine (spec_l02Insert.calls k1 _ _ x3_1 ((rd_T59 l0 x4_1).f0) ((rd_T59 l0 x4_1).f1) t345 _ ?side1 ?side2 A6.out).mono ?_); (case side1 => exact zc HO_3.out); (case side2 => exact (Kd.R_reads' HO_3.out).2.1); rintro e w8 ⟨v346, rfl, ho0, hb⟩; refine ⟨_, rfl, ?_⟩; have n0_ := aM (Kd.R_elder' (mR_ HO_3.out) (Kd.R_base ho0) hb); have n1_ := aM (Kd.R_lower (Kd.R_new' ho0 (Kd.R_lt (mR_ HO_3.out))) (below_size zb)); have n2_ := aM (below_step zb hb); clear HO_3 HB; have HO_3 := n0_; have HO347 := n1_; have HB := n2_; clear n0_ n1_ n2_; (try clear hb); (try clear hb2); (try clear hk); (try clear hi); (try clear ho0)))
   go_roundg k1
   case measure => have := HK1.out; omega
   case rel => exact ⟨(t345), (wrap64 (x4_1 + 1)), zr, H', ⟨by have := HK1.out; omega⟩, ⟨zd0 HO347.out⟩, ⟨zb⟩⟩
def spec_l02Least.l0 : Nat → List (S59) → Int → Int → Int → Option (Int × Int)
 | 0, _, _, _, _ => none
 | k + 1, x0, x4, x5, x6 => if x6 < (x0.length : Int) then (if 0 ≤ x6 then (spec_l02Least.l0 k x0 (mn x4 ((rd_T59 x0 x6).f0)) (mn x5 ((rd_T59 x0 x6).f1)) (wrap64 (x6 + 1))) else (none)) else (some (x4, x5))
def spec_l02Least.f (k : Nat) (l0 : List (S59)) : Option (Int × Int) := if 0 < (l0.length : Int) then (spec_l02Least.l0 k l0 ((rd_T59 l0 0).f0) ((rd_T59 l0 0).f1) 1) else (none)
theorem spec_l02Least.calls (k : Nat) (A0 : Option Addr) (c0 : Nat) (l0 : List (S59)) (r1 : Int) (r2 : Int) (w : World) (hr0 : Kd.C k59 w A0 l0.length l0) (hc0 : l0.length ≤ c0) (h : spec_l02Least.f k l0 = some (r1, r2)) :
  Calls Try.prog 104 #[.slice A0 l0.length c0] w fun e w' => e = .returned (.tuple #[.int .i64 r1, .int .i64 r2]) ∧ Below w.heap.size w w' := by
 have HR0 := aM hr0
 have HC0 := aM hc0
 clear hr0 hc0
 have HB := aM (Below.refl w.heap.size w)
 have H : (if 0 < (l0.length : Int) then (spec_l02Least.l0 k l0 ((rd_T59 l0 0).f0) ((rd_T59 l0 0).f1) 1) else (none)) = some (r1, r2) := h
 clear h
 by_cases c2 : 0 < (l0.length : Int)
 rotate_left
 ·rw [if_neg c2] at H
  exact absurd H (by simp)
 rw [if_pos c2] at H
 have c2b0 : decide (0 < (l0.length : Int)) = true := decide_eq_true c2
 have c2b1 : decide (0 < l0.length) = true := decide_eq_true (by omega)
 clear c2
 have H' := aM H
 clear H
 have p348 : 0 ≤ (0 : Int) := (by omega)
 have q348 : 0 < (l0.length : Int) := of_decide_eq_true za
 obtain ⟨ad348, e348, hx348_0, hx348_1⟩ := at_T59 HR0.out 0 p348 q348
 cases e348
 have qi348 : (0 < l0.length) = True := eq_true (by omega)
 (try rw [show ((0 : Int)).toNat = 0 from rfl] at hx348_0)
 (try rw [show 0 * 2 = 0 from rfl] at hx348_0)
 (try rw [Addr.add_zero'] at hx348_0)
 (try rw [show ((0 : Int)).toNat = 0 from rfl] at hx348_1)
 (try rw [show 0 * 2 = 0 from rfl] at hx348_1)
 (try rw [Addr.add_zero'] at hx348_1)
 replace p348 := eq_true p348
 replace q348 := eq_true q348
 have p349 : 0 ≤ (0 : Int) := (by omega)
 have q349 : 0 < (l0.length : Int) := of_decide_eq_true za
 obtain ⟨ad349, e349, hx349_0, hx349_1⟩ := at_T59 HR0.out 0 p349 q349
 obtain rfl : ad348 = ad349 := (by injection e349)
 have qi349 : (0 < l0.length) = True := eq_true (by omega)
 (try rw [show ((0 : Int)).toNat = 0 from rfl] at hx349_0)
 (try rw [show 0 * 2 = 0 from rfl] at hx349_0)
 (try rw [Addr.add_zero'] at hx349_0)
 (try rw [show ((0 : Int)).toNat = 0 from rfl] at hx349_1)
 (try rw [show 0 * 2 = 0 from rfl] at hx349_1)
 (try rw [Addr.add_zero'] at hx349_1)
 replace p349 := eq_true p349
 replace q349 := eq_true q349
 go_enter Try.func104, Try.ntmps104
 go_wp2
 repeat (go_quiet (fail); try go_wp2)
 go_loopg [4, 5, 6] k (fun kq v4 v5 v6 w' => ∃ (x4_1 : Int) (x5_1 : Int) (x6_1 : Int), v4 = .int .i64 x4_1 ∧ v5 = .int .i64 x5_1 ∧ v6 = .int .i64 x6_1 ∧ Aside0 (spec_l02Least.l0 kq l0 x4_1 x5_1 x6_1 = some (r1, r2)) ∧ Aside0 (kq ≤ k) ∧ Aside0 (Below w.heap.size w w'))
 case atStart => exact ⟨((rd_T59 l0 0).f0), ((rd_T59 l0 0).f1), (1), zr, zr, zr, H', ⟨Nat.le_refl _⟩, ⟨zb⟩⟩
 case round =>
  clear H'
  try clear c1
  try clear c2
  try clear c2b0
  try clear c2b1
  try clear p2
  try clear hx348_0
  try clear hx348_1
  try clear hx349_0
  try clear hx349_1
  try clear p348
  try clear p349
  try clear q348
  try clear q349
  obtain ⟨x4_1, x5_1, x6_1, rfl, rfl, rfl, HA, HK1, HB⟩ := hrel
  cases gk with
  | zero => exact absurd HA.out (by simp [spec_l02Least.l0])
  | succ k1 =>
   have H := HA.out
   clear HA
   simp only [spec_l02Least.l0] at H
   by_cases c3 : x6_1 < (l0.length : Int)
   rotate_left
   ·rw [if_neg c3] at H
    have c3b0 : decide (x6_1 < (l0.length : Int)) = false := decide_eq_false c3
    clear c3
    simp only [Option.some.injEq, Prod.mk.injEq] at H
    obtain ⟨rfl, rfl⟩ := H
    go_wp2
    repeat (go_quiet (fail); try go_wp2)
    go_ret2
    exact ⟨zw, zb⟩
   rw [if_pos c3] at H
   have c3b0 : decide (x6_1 < (l0.length : Int)) = true := decide_eq_true c3
   clear c3
   by_cases c4 : 0 ≤ x6_1
   rotate_left
   ·rw [if_neg c4] at H
    exact absurd H (by simp)
   rw [if_pos c4] at H
   have c4b0 : decide (0 ≤ x6_1) = true := decide_eq_true c4
   clear c4
   obtain ⟨ji5, hji5⟩ : ∃ j_ : Int, (mn x4_1 ((rd_T59 l0 x6_1).f0)) = j_ := ⟨_, rfl⟩
   replace H : (spec_l02Least.l0 k1 l0 ji5 (mn x5_1 ((rd_T59 l0 x6_1).f1)) (wrap64 (x6_1 + 1))) = some (r1, r2) := by first | (rw [hji5] at H; exact H) | (simp only [hji5] at H ⊢; exact H)
   have hji5_ : (if ((rd_T59 l0 x6_1).f0) < x4_1 then ((rd_T59 l0 x6_1).f0) else x4_1) = ji5 := hji5
   obtain ⟨ji6, hji6⟩ : ∃ j_ : Int, (mn x5_1 ((rd_T59 l0 x6_1).f1)) = j_ := ⟨_, rfl⟩
   replace H : (spec_l02Least.l0 k1 l0 ji5 ji6 (wrap64 (x6_1 + 1))) = some (r1, r2) := by first | (rw [hji6] at H; exact H) | (simp only [hji6] at H ⊢; exact H)
   have hji6_ : (if ((rd_T59 l0 x6_1).f1) < x5_1 then ((rd_T59 l0 x6_1).f1) else x5_1) = ji6 := hji6
   have H' := aM H
   clear H
   have p350 : 0 ≤ (x6_1 : Int) := of_decide_eq_true za
   have q350 : x6_1 < (l0.length : Int) := of_decide_eq_true za
   obtain ⟨ad350, e350, hx350_0, hx350_1⟩ := at_T59 HR0.out x6_1 p350 q350
   obtain rfl : ad348 = ad350 := (by injection e350)
   replace hx350_0 := zk HB.out hx350_0
   replace hx350_1 := zk HB.out hx350_1
   replace p350 := eq_true p350
   replace q350 := eq_true q350
   have p351 : 0 ≤ (x6_1 : Int) := of_decide_eq_true za
   have q351 : x6_1 < (l0.length : Int) := of_decide_eq_true za
   obtain ⟨ad351, e351, hx351_0, hx351_1⟩ := at_T59 HR0.out x6_1 p351 q351
   obtain rfl : ad348 = ad351 := (by injection e351)
   replace hx351_0 := zk HB.out hx351_0
   replace hx351_1 := zk HB.out hx351_1
   replace p351 := eq_true p351
   replace q351 := eq_true q351
   go_wp2
   repeat (go_quiet (fail); try go_wp2)
   go_roundg k1
   case measure => have := HK1.out; omega
   case rel => exact ⟨(ji5), (ji6), (wrap64 (x6_1 + 1)), (by first | rfl | (simp; done) | (simp only [← hji5] <;> (first | rfl | simp)) | (simp [*]; done)), (by first | rfl | (simp; done) | (simp only [← hji6] <;> (first | rfl | simp)) | (simp [*]; done)), zr, H', ⟨by have := HK1.out; omega⟩, ⟨zb⟩⟩
def spec_l07Normal.f (k : Nat) (a0 : Int) (l1 : List (S59)) : Option ((List (S59))) := (spec_l02Least.f k l1).bind fun bt352 => (if a0 = 1 then ((spec_l02Move.f k l1 (wrap64 (-bt352.1)) (wrap64 (-bt352.2))).bind fun t354 => (some t354)) else ((spec_l01Mod.f bt352.1 3).bind fun t357 => ((spec_l01Mod.f bt352.2 3).bind fun t358 => ((spec_l02Move.f k l1 (wrap64 (t357 - bt352.1)) (wrap64 (t358 - bt352.2))).bind fun t359 => (some t359)))))
theorem spec_l07Normal.calls (k : Nat) (a0 : Int) (A1 : Option Addr) (c1 : Nat) (l1 : List (S59)) (r : List (S59)) (w : World) (hr1 : Kd.C k59 w A1 l1.length l1) (hc1 : l1.length ≤ c1) (h : spec_l07Normal.f k a0 l1 = some r) :
  Calls Try.prog 90 #[.int .i64 a0, .slice A1 l1.length c1] w fun e w' => ∃ v0_ : Value, e = .returned (v0_) ∧ Kd.R k59 59 w' w.heap.size (fun _ => True) v0_ r ∧ Below w.heap.size w w' := by
 have HR1 := aM hr1
 have HC1 := aM hc1
 clear hr1 hc1
 have HB := aM (Below.refl w.heap.size w)
 have H : ((spec_l02Least.f k l1).bind fun bt352 => (if a0 = 1 then ((spec_l02Move.f k l1 (wrap64 (-bt352.1)) (wrap64 (-bt352.2))).bind fun t354 => (some t354)) else ((spec_l01Mod.f bt352.1 3).bind fun t357 => ((spec_l01Mod.f bt352.2 3).bind fun t358 => ((spec_l02Move.f k l1 (wrap64 (t357 - bt352.1)) (wrap64 (t358 - bt352.2))).bind fun t359 => (some t359)))))) = some r := h
 clear h
 replace H := Option.bind_eq_some_iff.mp H
 obtain ⟨⟨t352, t353⟩, A30, H⟩ := H
 replace H : (if a0 = 1 then ((spec_l02Move.f k l1 (wrap64 (-t352)) (wrap64 (-t353))).bind fun t354 => (some t354)) else ((spec_l01Mod.f t352 3).bind fun t357 => ((spec_l01Mod.f t353 3).bind fun t358 => ((spec_l02Move.f k l1 (wrap64 (t357 - t352)) (wrap64 (t358 - t353))).bind fun t359 => (some t359))))) = some r := H
 have A3 := aM A30
 clear A30
 by_cases c4 : a0 = 1
 ·rw [if_pos c4] at H
  have c4b0 : (a0 == 1) = true := beq_iff_eq.mpr c4
  have c4b1 : (a0 != 1) = false := bne_eq_false_iff_eq.mpr c4
  clear c4
  replace H := Option.bind_eq_some_iff.mp H
  obtain ⟨t354, A50, H⟩ := H
  replace H : (some t354) = some r := H
  have A5 := aM A50
  clear A50
  obtain rfl := Option.some.inj H
  go_enter Try.func90, Try.ntmps90
  go_wp2_with (first | ((with_reducible refine gate_callee (f := 104) rfl ?_); refine goesL_ (some 9) rfl rfl Try.func104 (by kernel_rfl) rfl #[.slice A1 l1.length c1] rfl zm ?_; (with_reducible refine (spec_l02Least.calls k _ _ l1 t352 t353 _ ?side1 ?side2 A3.out).mono ?_); (case side1 => repeat (first | exact HR1.out | (with_reducible refine Kd.C_alloc ?_ _) | (with_reducible refine Kd.C_drewN ?_ _) | (with_reducible refine Kd.C_drew ?_))); (case side2 => exact HC1.out); rintro e w6 ⟨rfl, hb⟩; refine ⟨_, rfl, ?_⟩; have n0_ := aM (below_step zb hb); clear HB; have HB := n0_; clear n0_; (try clear hb); (try clear hb2); (try clear hk); (try clear hi)) | ((with_reducible refine gate_callee (f := 62) rfl ?_); refine goesL_ (some 19) rfl rfl Try.func62 (by kernel_rfl) rfl #[.slice A1 l1.length c1, .int .i64 (wrap64 (-t352)), .int .i64 (wrap64 (-t353))] rfl zm ?_; (with_reducible refine (spec_l02Move.calls k _ _ l1 (wrap64 (-t352)) (wrap64 (-t353)) t354 _ ?side1 ?side2 A5.out).mono ?_); (case side1 => repeat (first | exact (Kd.C_below HR1.out HB.out) | (with_reducible refine Kd.C_alloc ?_ _) | (with_reducible refine Kd.C_drewN ?_ _) | (with_reducible refine Kd.C_drew ?_))); (case side2 => exact HC1.out); rintro e w7 ⟨v355, rfl, ho0, hb⟩; refine ⟨_, rfl, ?_⟩; have n0_ := aM (Kd.R_lower ho0 (below_size zb)); have n1_ := aM (below_step zb hb); clear HB; have HO356 := n0_; have HB := n1_; clear n0_ n1_; (try clear hb); (try clear hb2); (try clear hk); (try clear hi); (try clear ho0)))
  go_ret
  exact ⟨_, zw, mR_ HO356.out, zb⟩
 rw [if_neg c4] at H
 have c4b0 : (a0 == 1) = false := beq_eq_false_iff_ne.mpr c4
 have c4b1 : (a0 != 1) = true := bne_iff_ne.mpr c4
 replace H := Option.bind_eq_some_iff.mp H
 obtain ⟨t357, A80, H⟩ := H
 replace H : ((spec_l01Mod.f t353 3).bind fun t358 => ((spec_l02Move.f k l1 (wrap64 (t357 - t352)) (wrap64 (t358 - t353))).bind fun t359 => (some t359))) = some r := H
 have A8 := aM A80
 clear A80
 replace H := Option.bind_eq_some_iff.mp H
 obtain ⟨t358, A90, H⟩ := H
 replace H : ((spec_l02Move.f k l1 (wrap64 (t357 - t352)) (wrap64 (t358 - t353))).bind fun t359 => (some t359)) = some r := H
 have A9 := aM A90
 clear A90
 replace H := Option.bind_eq_some_iff.mp H
 obtain ⟨t359, A100, H⟩ := H
 replace H : (some t359) = some r := H
 have A10 := aM A100
 clear A100
 obtain rfl := Option.some.inj H
 go_enter Try.func90, Try.ntmps90
 go_wp2_with (first | ((with_reducible refine gate_callee (f := 104) rfl ?_); refine goesL_ (some 9) rfl rfl Try.func104 (by kernel_rfl) rfl #[.slice A1 l1.length c1] rfl zm ?_; (with_reducible refine (spec_l02Least.calls k _ _ l1 t352 t353 _ ?side1 ?side2 A3.out).mono ?_); (case side1 => repeat (first | exact HR1.out | (with_reducible refine Kd.C_alloc ?_ _) | (with_reducible refine Kd.C_drewN ?_ _) | (with_reducible refine Kd.C_drew ?_))); (case side2 => exact HC1.out); rintro e w11 ⟨rfl, hb⟩; refine ⟨_, rfl, ?_⟩; have n0_ := aM (below_step zb hb); clear HB; have HB := n0_; clear n0_; (try clear hb); (try clear hb2); (try clear hk); (try clear hi)) | ((with_reducible refine gate_callee (f := 103) rfl ?_); refine goesL_ (some 22) rfl rfl Try.func103 (by kernel_rfl) rfl #[.int .i64 t352, .int .i64 3] rfl zm ?_; (with_reducible refine (spec_l01Mod.calls t352 3 t357 _ A8.out).mono ?_); rintro e w' ⟨rfl, ⟨nd, rfl⟩⟩; refine ⟨_, rfl, ?_⟩) | ((with_reducible refine gate_callee (f := 103) rfl ?_); refine goesL_ (some 26) rfl rfl Try.func103 (by kernel_rfl) rfl #[.int .i64 t353, .int .i64 3] rfl zm ?_; (with_reducible refine (spec_l01Mod.calls t353 3 t358 _ A9.out).mono ?_); rintro e w' ⟨rfl, ⟨nd, rfl⟩⟩; refine ⟨_, rfl, ?_⟩) | ((with_reducible refine gate_callee (f := 62) rfl ?_); refine goesL_ (some 29) rfl rfl Try.func62 (by kernel_rfl) rfl #[.slice A1 l1.length c1, .int .i64 (wrap64 (t357 - t352)), .int .i64 (wrap64 (t358 - t353))] rfl zm ?_; (with_reducible refine (spec_l02Move.calls k _ _ l1 (wrap64 (t357 - t352)) (wrap64 (t358 - t353)) t359 _ ?side1 ?side2 A10.out).mono ?_); (case side1 => repeat (first | exact (Kd.C_below HR1.out zb) | (with_reducible refine Kd.C_alloc ?_ _) | (with_reducible refine Kd.C_drewN ?_ _) | (with_reducible refine Kd.C_drew ?_))); (case side2 => exact HC1.out); rintro e w12 ⟨v360, rfl, ho0, hb⟩; refine ⟨_, rfl, ?_⟩; have n0_ := aM (Kd.R_lower ho0 (below_size zb)); have n1_ := aM (below_step zb hb); clear HB; have HO361 := n0_; have HB := n1_; clear n0_ n1_; (try clear hb); (try clear hb2); (try clear hk); (try clear hi); (try clear ho0)))
 go_ret
 exact ⟨_, zw, mR_ HO361.out, zb⟩
def spec_l07Form.l0 : Nat → Int → List (S59) → Int → List (S59) → Int → Option ((List (S59)))
 | 0, _, _, _, _, _ => none
 | k + 1, x0, x1, x2, x7, x8 => if x8 < (x1.length : Int) then (if 0 ≤ x8 then ((spec_l07Turn.f k ((rd_T59 x1 x8).f0) ((rd_T59 x1 x8).f1) x2).bind fun bt366 => (if x7.length < 8796093022208 then (spec_l07Form.l0 k x0 x1 x2 (x7 ++ [(⟨bt366.1, bt366.2⟩ : S59)]) (wrap64 (x8 + 1))) else (none))) else (none)) else ((spec_l02Sort.f k x7).bind fun t371 => ((spec_l07Normal.f k x0 t371).bind fun t374 => (some t374)))
def spec_l07Form.f (k : Nat) (a0 : Int) (l1 : List (S59)) (a2 : Int) : Option ((List (S59))) := spec_l07Form.l0 k a0 l1 a2 (([] : List (S59))) 0
theorem spec_l07Form.calls (k : Nat) (a0 : Int) (A1 : Option Addr) (c1 : Nat) (l1 : List (S59)) (a2 : Int) (r : List (S59)) (w : World) (hr1 : Kd.C k59 w A1 l1.length l1) (hc1 : l1.length ≤ c1) (h : spec_l07Form.f k a0 l1 a2 = some r) :
  Calls Try.prog 79 #[.int .i64 a0, .slice A1 l1.length c1, .int .i64 a2] w fun e w' => ∃ v0_ : Value, e = .returned (v0_) ∧ Kd.R k59 59 w' w.heap.size (fun _ => True) v0_ r ∧ Below w.heap.size w w' := by
 have hu59 := Try.underlying59
 have HR1 := aM hr1
 have HC1 := aM hc1
 clear hr1 hc1
 have HB := aM (Below.refl w.heap.size w)
 have H : (spec_l07Form.l0 k a0 l1 a2 (([] : List (S59))) 0) = some r := h
 clear h
 obtain ⟨y362, hy362⟩ : ∃ y_ : List (S59), y_ = (([] : List (S59))) := ⟨_, rfl⟩
 replace H : (spec_l07Form.l0 k a0 l1 a2 y362 0) = some r := zy H hy362
 have Ny362 := aM hy362
 clear hy362
 have H' := aM H
 clear H
 go_enter Try.func79, Try.ntmps79
 go_wp2_with (first | ((with_reducible refine gate_dst (N := 9) rfl ?_); refine Kd.R_lit k59 _ 59 ?hg (N := 9) ?hd (xs := ([] : List (S59))) (inner := []) (ok := fun _ => True) (okp := fun _ => True) ?hr ?hp (fun _ hk => hk) trivial (Below.refl _ _) (Nat.le_refl _) (by simp) ?_; (case hd => rfl); (case hg => rfl); (case hr => first | (go_simp; done) | (go_simp; rfl)); (case hp => exact (Reps.none _ _)); intro v363 w4 ho5 hb hg_ hnew_; clear hg_ hnew_; (first | rw [← Ny362.out] at ho5 | (simp only [Int.reduceToNat] at ho5; rw [← Ny362.out] at ho5)); have n0_ := aM (Kd.R_lower ho5 (below_size zb)); have n1_ := aM (below_step zb hb); clear HB; have HO364 := n0_; have HB := n1_; clear n0_ n1_; clear hb ho5))
 go_loopg [7, 8] k (fun kq v7 v8 w' => ∃ (x7_1 : List (S59)) (x8_1 : Int), v8 = .int .i64 x8_1 ∧ Aside0 (spec_l07Form.l0 kq a0 l1 a2 x7_1 x8_1 = some r) ∧ Aside0 (kq ≤ k) ∧ Aside0 (Kd.R k59 59 w' w.heap.size (fun _ => True) v7 x7_1) ∧ Aside0 (Below w.heap.size w w'))
 case atStart => exact ⟨(y362), (0), zr, H', ⟨Nat.le_refl _⟩, ⟨mR_ HO364.out⟩, ⟨zb⟩⟩
 case round =>
  clear H'
  try clear c1
  try clear p2
  obtain ⟨x7_1, x8_1, rfl, HA, HK1, HO_7, HB⟩ := hrel
  cases gk with
  | zero => exact absurd HA.out (by simp [spec_l07Form.l0])
  | succ k1 =>
   have H := HA.out
   clear HA
   simp only [spec_l07Form.l0] at H
   by_cases c6 : x8_1 < (l1.length : Int)
   rotate_left
   ·rw [if_neg c6] at H
    have c6b0 : decide (x8_1 < (l1.length : Int)) = false := decide_eq_false c6
    clear c6
    replace H := Option.bind_eq_some_iff.mp H
    obtain ⟨t371, A120, H⟩ := H
    replace H : ((spec_l07Normal.f k1 a0 t371).bind fun t374 => (some t374)) = some r := H
    have A12 := aM A120
    clear A120
    replace H := Option.bind_eq_some_iff.mp H
    obtain ⟨t374, A130, H⟩ := H
    replace H : (some t374) = some r := H
    have A13 := aM A130
    clear A130
    obtain rfl := Option.some.inj H
    obtain ⟨Ao14, co14, eo14⟩ := Kd.R_slice HO_7.out
    subst eo14
    go_wp2_with (first | ((with_reducible refine gate_callee (f := 65) rfl ?_); refine goesL_ (some 27) rfl rfl Try.func65 (by kernel_rfl) rfl #[.slice Ao14 x7_1.length co14] rfl zm ?_; (with_reducible refine (spec_l02Sort.calls k1 _ _ x7_1 t371 _ ?side1 ?side2 A12.out).mono ?_); (case side1 => exact zc HO_7.out); (case side2 => exact (Kd.R_reads' HO_7.out).2.1); rintro e w15 ⟨v372, rfl, ho0, hb⟩; refine ⟨_, rfl, ?_⟩; have n0_ := aM (Kd.R_elder' (mR_ HO_7.out) (Kd.R_base ho0) hb); have n1_ := aM (Kd.R_lower (Kd.R_new' ho0 (Kd.R_lt (mR_ HO_7.out))) (below_size zb)); have n2_ := aM (below_step zb hb); clear HO_7 HB; have HO_7 := n0_; have HO373 := n1_; have HB := n2_; clear n0_ n1_ n2_; (try clear hb); (try clear hb2); (try clear hk); (try clear hi); (try clear ho0); obtain ⟨Ao16, co16, eo16⟩ := Kd.R_slice HO373.out; subst eo16) | ((with_reducible refine gate_callee (f := 90) rfl ?_); refine goesL_ (some 28) rfl rfl Try.func90 (by kernel_rfl) rfl #[.int .i64 a0, .slice Ao16 t371.length co16] rfl zm ?_; (with_reducible refine (spec_l07Normal.calls k1 a0 _ _ t371 t374 _ ?side1 ?side2 A13.out).mono ?_); (case side1 => exact zc HO373.out); (case side2 => exact (Kd.R_reads' HO373.out).2.1); rintro e w17 ⟨v375, rfl, ho0, hb⟩; refine ⟨_, rfl, ?_⟩; have n0_ := aM (Kd.R_elder' (mR_ HO_7.out) (Kd.R_base ho0) hb); have n1_ := aM (Kd.R_elder' (mR_ HO373.out) (Kd.R_base ho0) hb); have n2_ := aM (Kd.R_lower (Kd.R_new' (Kd.R_new' ho0 (Kd.R_lt (mR_ HO_7.out))) (Kd.R_lt (mR_ HO373.out))) (below_size zb)); have n3_ := aM (below_step zb hb); clear HO_7 HO373 HB; have HO_7 := n0_; have HO373 := n1_; have HO376 := n2_; have HB := n3_; clear n0_ n1_ n2_ n3_; (try clear hb); (try clear hb2); (try clear hk); (try clear hi); (try clear ho0)))
    go_ret
    exact ⟨_, zw, zd0 HO376.out, zb⟩
   rw [if_pos c6] at H
   have c6b0 : decide (x8_1 < (l1.length : Int)) = true := decide_eq_true c6
   clear c6
   by_cases c7 : 0 ≤ x8_1
   rotate_left
   ·rw [if_neg c7] at H
    exact absurd H (by simp)
   rw [if_pos c7] at H
   have c7b0 : decide (0 ≤ x8_1) = true := decide_eq_true c7
   clear c7
   replace H := Option.bind_eq_some_iff.mp H
   obtain ⟨⟨t366, t367⟩, A80, H⟩ := H
   replace H : (if x7_1.length < 8796093022208 then (spec_l07Form.l0 k1 a0 l1 a2 (x7_1 ++ [(⟨t366, t367⟩ : S59)]) (wrap64 (x8_1 + 1))) else (none)) = some r := H
   have A8 := aM A80
   clear A80
   by_cases c9 : x7_1.length < 8796093022208
   rotate_left
   ·rw [if_neg c9] at H
    exact absurd H (by simp)
   rw [if_pos c9] at H
   have LMc9 := aM c9
   clear c9
   obtain ⟨y368, hy368⟩ : ∃ y_ : List (S59), y_ = (x7_1 ++ [(⟨t366, t367⟩ : S59)]) := ⟨_, rfl⟩
   replace H : (spec_l07Form.l0 k1 a0 l1 a2 y368 (wrap64 (x8_1 + 1))) = some r := zy H hy368
   have Ny368 := aM hy368
   clear hy368
   have H' := aM H
   clear H
   have p365 : 0 ≤ (x8_1 : Int) := of_decide_eq_true za
   have q365 : x8_1 < (l1.length : Int) := of_decide_eq_true za
   obtain ⟨ad365, e365, hx365_0, hx365_1⟩ := at_T59 HR1.out x8_1 p365 q365
   cases e365
   replace hx365_0 := zk HB.out hx365_0
   replace hx365_1 := zk HB.out hx365_1
   replace p365 := eq_true p365
   replace q365 := eq_true q365
   go_wp2_with (first | ((with_reducible refine gate_callee (f := 63) rfl ?_); refine goesL_ (some 22) rfl rfl Try.func63 (by kernel_rfl) rfl #[.agg #[.int .i64 ((rd_T59 l1 x8_1).f0), .int .i64 ((rd_T59 l1 x8_1).f1)], .int .i64 a2] rfl zm ?_; (with_reducible refine (spec_l07Turn.calls k1 ((rd_T59 l1 x8_1).f0) ((rd_T59 l1 x8_1).f1) a2 t366 t367 _ A8.out).mono ?_); rintro e w10 ⟨rfl, hb⟩; refine ⟨_, rfl, ?_⟩; have n0_ := aM (Kd.R_below (mR_ HO_7.out) hb); have n1_ := aM (below_step zb hb); clear HO_7 HB; have HO_7 := n0_; have HB := n1_; clear n0_ n1_; (try clear hb); (try clear hb2); (try clear hk); (try clear hi)) | ((with_reducible refine gate_builtin (b := .append) (xs := #[.tmp 16, .tmp 23]) rfl ?_); at_builtin; refine Kd.R_append k59 (w0 := w) w.heap.size rfl (.tmp 16) (.tmp 23) 24 59 (.agg #[(.int .i64 0), (.int .i64 0)]) 16 rfl Try.underlying24 info59 rfl (by decide) (by omega) u7 x7_1 (⟨t366, t367⟩ : S59) [.int .i64 t366, .int .i64 t367] (fun _ => True) (fun _ => False) rfl rfl ?aP (fun _ hk => hk.elim) ?aF ?aO ?aB ?aS ?aL ?_; (case aP => exact k59_mkM _ _ _ (⟨t366, t367⟩ : S59)); (case aB => exact zb); (case aF => exact (fun _ _ => trivial)); (case aO => exact (mR_ HO_7.out)); (case aS => exact (below_size zb)); (case aL => have := LMc9.out; omega); intro v369 w11 ho hb hg hat; rw [← Ny368.out] at ho; have n0_ := aM (hb); have n1_ := aM (ho); clear HB HO_7; have HB := n0_; have HO370 := n1_; clear n0_ n1_; clear ho hb hg hat))
   go_roundg k1
   case measure => have := HK1.out; omega
   case rel => exact ⟨(y368), (wrap64 (x8_1 + 1)), zr, H', ⟨by have := HK1.out; omega⟩, ⟨mR_ HO370.out⟩, ⟨zb⟩⟩
def impl_Cell_88__impl_compareCells.l0 : Nat → List (S59) → List (S59) → List (S59) → Int → Int → Option (Int)
 | 0, _, _, _, _, _ => none
 | k + 1, x0, x1, x11, x12, x13 => if x13 < x12 then (if 0 ≤ x13 then (if x13 < (x11.length : Int) then (if x13 ≥ (x1.length : Int) then (some 1) else (if x13 < (x1.length : Int) then ((impl_compareCells.f ((rd_T59 x11 x13).f0) ((rd_T59 x11 x13).f1) ((rd_T59 x1 x13).f0) ((rd_T59 x1 x13).f1)).bind fun t391 => (if t391 = 0 then (impl_Cell_88__impl_compareCells.l0 k x0 x1 x11 x12 (wrap64 (x13 + 1))) else (some t391))) else (none))) else (none)) else (none)) else (if (x0.length : Int) < (x1.length : Int) then (some (-1)) else (some 0))
def impl_Cell_88__impl_compareCells.f (k : Nat) (l0 : List (S59)) (l1 : List (S59))  : Option (Int) := impl_Cell_88__impl_compareCells.l0 k l0 l1 l0 (l0.length : Int) 0
theorem impl_Cell_88__impl_compareCells.calls (k : Nat) (A0 : Option Addr) (c0 : Nat) (l0 : List (S59)) (A1 : Option Addr) (c1 : Nat) (l1 : List (S59))  (r : Int) (w : World) (hr0 : Kd.C k59 w A0 l0.length l0) (hc0 : l0.length ≤ c0) (hr1 : Kd.C k59 w A1 l1.length l1) (hc1 : l1.length ≤ c1) (h : impl_Cell_88__impl_compareCells.f k l0 l1 = some r) :
  Calls Try.prog 88 #[.slice A0 l0.length c0, .slice A1 l1.length c1, .func (.func 78) #[] #[]] w fun e w' => e = .returned (.int .i64 r) ∧ Below w.heap.size w w' := by
 have hu59 := Try.underlying59
 have HR0 := aM hr0
 have HC0 := aM hc0
 clear hr0 hc0
 have HR1 := aM hr1
 have HC1 := aM hc1
 clear hr1 hc1
 have HB := aM (Below.refl w.heap.size w)
 have H : (impl_Cell_88__impl_compareCells.l0 k l0 l1 l0 (l0.length : Int) 0) = some r := h
 clear h
 have H' := aM H
 clear H
 go_enter Try.func88, Try.ntmps88
 go_wp2
 go_loopg [13] k (fun kq v13 w' => ∃ (x13_1 : Int), v13 = .int .i64 x13_1 ∧ Aside0 (impl_Cell_88__impl_compareCells.l0 kq l0 l1 l0 (l0.length : Int) x13_1 = some r) ∧ Aside0 (kq ≤ k) ∧ Aside0 (Below w.heap.size w w'))
 case atStart => exact ⟨(0), zr, H', ⟨Nat.le_refl _⟩, ⟨zb⟩⟩
 case round =>
  clear H'
  try clear c1
  try clear p2
  obtain ⟨x13_1, rfl, HA, HK1, HB⟩ := hrel
  cases gk with
  | zero => exact absurd HA.out (by simp [impl_Cell_88__impl_compareCells.l0])
  | succ k1 =>
   have H := HA.out
   clear HA
   simp only [impl_Cell_88__impl_compareCells.l0] at H
   by_cases c4 : x13_1 < (l0.length : Int)
   rotate_left
   ·rw [if_neg c4] at H
    have c4b0 : decide (x13_1 < (l0.length : Int)) = false := decide_eq_false c4
    clear c4
    by_cases c27 : (l0.length : Int) < (l1.length : Int)
    ·rw [if_pos c27] at H
     have c27b0 : decide ((l0.length : Int) < (l1.length : Int)) = true := decide_eq_true c27
     have c27b1 : decide (l0.length < l1.length) = true := decide_eq_true (Int.ofNat_lt.mp c27)
     clear c27
     obtain rfl := Option.some.inj H
     go_wp2
     go_ret
     exact ⟨zw, zb⟩
    rw [if_neg c27] at H
    have c27b0 : decide ((l0.length : Int) < (l1.length : Int)) = false := decide_eq_false c27
    have c27b1 : decide (l0.length < l1.length) = false := decide_eq_false (fun h => c27 (Int.ofNat_lt.mpr h))
    clear c27
    obtain rfl := Option.some.inj H
    go_wp2
    go_ret
    exact ⟨zw, zb⟩
   rw [if_pos c4] at H
   have c4b0 : decide (x13_1 < (l0.length : Int)) = true := decide_eq_true c4
   clear c4
   by_cases c5 : 0 ≤ x13_1
   rotate_left
   ·rw [if_neg c5] at H
    exact absurd H (by simp)
   rw [if_pos c5] at H
   have c5b0 : decide (0 ≤ x13_1) = true := decide_eq_true c5
   clear c5
   by_cases c6 : x13_1 < (l0.length : Int)
   rotate_left
   ·rw [if_neg c6] at H
    exact absurd H (by simp)
   rw [if_pos c6] at H
   have c6b0 : decide (x13_1 < (l0.length : Int)) = true := decide_eq_true c6
   clear c6
   by_cases c7 : x13_1 ≥ (l1.length : Int)
   ·rw [if_pos c7] at H
    have c7b0 : decide ((l1.length : Int) ≤ x13_1) = true := decide_eq_true c7
    clear c7
    obtain rfl := Option.some.inj H
    have p387 : 0 ≤ (x13_1 : Int) := of_decide_eq_true za
    have q387 : x13_1 < (l0.length : Int) := of_decide_eq_true za
    obtain ⟨ad387, e387, hx387_0, hx387_1⟩ := at_T59 HR0.out x13_1 p387 q387
    cases e387
    replace hx387_0 := zk HB.out hx387_0
    replace hx387_1 := zk HB.out hx387_1
    replace p387 := eq_true p387
    replace q387 := eq_true q387
    go_wp2_with (first | ((with_reducible refine gate_dst (N := 8) rfl ?_); refine zx 8 #[.int .i64 0, .int .i64 0] 59 ?_; intro gb388 hg w8 hbox hb; have n0_ := aM (below_step zb hb); have n1_ := aM (hbox); have n2_ := aM ((ze : w.heap.size ≤ gb388)); have n3_ := aM ((ze : w.heap.size ≤ gb388)); clear HB; have HB := n0_; have BK388 := n1_; have GW388 := n2_; have GE388 := n3_; clear n0_ n1_ n2_ n3_ hb hbox hg; have hcz9_0 : w8.cell? ⟨gb388, 0, none⟩ = some (.int .i64 0) := (blk_cell BK388.out 0).trans rfl; have hcz9_1 : w8.cell? ⟨gb388, 1, none⟩ = some (.int .i64 0) := (blk_cell BK388.out 1).trans rfl; have hfz9_0 := blk_frozen BK388.out 0; have hfz9_1 := blk_frozen BK388.out 1))
    go_ret
    exact ⟨zw, zs GE388.out⟩
   rw [if_neg c7] at H
   have c7b0 : decide ((l1.length : Int) ≤ x13_1) = false := decide_eq_false c7
   clear c7
   by_cases c10 : x13_1 < (l1.length : Int)
   rotate_left
   ·rw [if_neg c10] at H
    exact absurd H (by simp)
   rw [if_pos c10] at H
   have c10b0 : decide (x13_1 < (l1.length : Int)) = true := decide_eq_true c10
   clear c10
   replace H := Option.bind_eq_some_iff.mp H
   obtain ⟨t391, A110, H⟩ := H
   replace H : (if t391 = 0 then (impl_Cell_88__impl_compareCells.l0 k1 l0 l1 l0 (l0.length : Int) (wrap64 (x13_1 + 1))) else (some t391)) = some r := H
   have A11 := aM A110
   clear A110
   by_cases c12 : t391 = 0
   rotate_left
   ·rw [if_neg c12] at H
    have c12b0 : (t391 == 0) = false := beq_eq_false_iff_ne.mpr c12
    have c12b1 : (t391 != 0) = true := bne_iff_ne.mpr c12
    obtain rfl := Option.some.inj H
    have p387 : 0 ≤ (x13_1 : Int) := of_decide_eq_true za
    have q387 : x13_1 < (l0.length : Int) := of_decide_eq_true za
    obtain ⟨ad387, e387, hx387_0, hx387_1⟩ := at_T59 HR0.out x13_1 p387 q387
    cases e387
    replace hx387_0 := zk HB.out hx387_0
    replace hx387_1 := zk HB.out hx387_1
    replace p387 := eq_true p387
    replace q387 := eq_true q387
    go_wp2_with (first | ((with_reducible refine gate_dst (N := 8) rfl ?_); refine zx 8 #[.int .i64 0, .int .i64 0] 59 ?_; intro gb388 hg w20 hbox hb; have n0_ := aM (below_step zb hb); have n1_ := aM (hbox); have n2_ := aM ((ze : w.heap.size ≤ gb388)); have n3_ := aM ((ze : w.heap.size ≤ gb388)); clear HB; have HB := n0_; have BK388 := n1_; have GW388 := n2_; have GE388 := n3_; clear n0_ n1_ n2_ n3_ hb hbox hg; have hcz21_0 : w20.cell? ⟨gb388, 0, none⟩ = some (.int .i64 0) := (blk_cell BK388.out 0).trans rfl; have hcz21_1 : w20.cell? ⟨gb388, 1, none⟩ = some (.int .i64 0) := (blk_cell BK388.out 1).trans rfl; have hfz21_0 := blk_frozen BK388.out 0; have hfz21_1 := blk_frozen BK388.out 1; have p389 : 0 ≤ (x13_1 : Int) := of_decide_eq_true za; have q389 : x13_1 < (l1.length : Int) := of_decide_eq_true za; obtain ⟨ad389, e389, hx389_0, hx389_1⟩ := at_T59 HR1.out x13_1 p389 q389; cases e389; have hn389_0 : ad389.block ≠ gb388 := Nat.ne_of_lt (Nat.lt_of_lt_of_le (by have := World.block_lt_of_cell? _ _ hx389_0; first | rwa [add_block] at this | exact this) GW388.out); have hn389_1 : ad389.block ≠ gb388 := Nat.ne_of_lt (Nat.lt_of_lt_of_le (by have := World.block_lt_of_cell? _ _ hx389_0; first | rwa [add_block] at this | exact this) GW388.out); replace hx389_0 := zk HB.out hx389_0; replace hx389_1 := zk HB.out hx389_1; replace hx389_0 := (cell_far (p := ⟨gb388, 0, none⟩) (by first | (rw [add_block]; exact hn389_0) | (show (Addr.add _ _).block ≠ _; rw [add_block]; exact hn389_0) | exact hn389_0) (.int .i64 ((rd_T59 l0 x13_1).f0))).trans hx389_0; replace hx389_1 := (cell_far (p := ⟨gb388, 0, none⟩) (by first | (rw [add_block]; exact hn389_0) | (show (Addr.add _ _).block ≠ _; rw [add_block]; exact hn389_0) | exact hn389_0) (.int .i64 ((rd_T59 l0 x13_1).f0))).trans hx389_1; replace hx389_0 := (cell_far (p := ⟨gb388, 1, none⟩) (by first | (rw [add_block]; exact hn389_1) | (show (Addr.add _ _).block ≠ _; rw [add_block]; exact hn389_1) | exact hn389_1) (.int .i64 ((rd_T59 l0 x13_1).f1))).trans hx389_0; replace hx389_1 := (cell_far (p := ⟨gb388, 1, none⟩) (by first | (rw [add_block]; exact hn389_1) | (show (Addr.add _ _).block ≠ _; rw [add_block]; exact hn389_1) | exact hn389_1) (.int .i64 ((rd_T59 l0 x13_1).f1))).trans hx389_1; clear hn389_0 hn389_1; replace p389 := eq_true p389; replace q389 := eq_true q389) | ((with_reducible refine gate_dst (N := 9) rfl ?_); refine zx 9 #[.int .i64 0, .int .i64 0] 59 ?_; intro gb390 hg w22 hbox hb; have n0_ := aM (blk_below (g := gb388) (o := .cells #[.int .i64 ((rd_T59 l0 x13_1).f0), .int .i64 ((rd_T59 l0 x13_1).f1)] 59 (0, 0)) (by (with_reducible repeat (first | refine blk_drewN ?_ _ | refine blk_drew ?_ | refine blk_alloc ?_ _)); refine blk_put (cs := #[.int .i64 ((rd_T59 l0 x13_1).f0), .int .i64 0]) ?_ 1 _ rfl; (with_reducible repeat (first | refine blk_drewN ?_ _ | refine blk_drew ?_ | refine blk_alloc ?_ _)); refine blk_put (cs := #[.int .i64 0, .int .i64 0]) ?_ 0 _ rfl; (with_reducible repeat (first | refine blk_drewN ?_ _ | refine blk_drew ?_ | refine blk_alloc ?_ _)); exact BK388.out) hb); have n1_ := aM (below_step (zs GE388.out) hb); have n2_ := aM (hbox); have n3_ := aM ((zf GE388.out : w.heap.size ≤ gb390)); have n4_ := aM ((zf GE388.out : w.heap.size ≤ gb390)); have n5_ := aM ((by rw [hg]; exact Nat.ne_of_lt (blk_lt (g := gb388) (o := .cells #[.int .i64 ((rd_T59 l0 x13_1).f0), .int .i64 ((rd_T59 l0 x13_1).f1)] 59 (0, 0)) (by (with_reducible repeat (first | refine blk_drewN ?_ _ | refine blk_drew ?_ | refine blk_alloc ?_ _)); refine blk_put (cs := #[.int .i64 ((rd_T59 l0 x13_1).f0), .int .i64 0]) ?_ 1 _ rfl; (with_reducible repeat (first | refine blk_drewN ?_ _ | refine blk_drew ?_ | refine blk_alloc ?_ _)); refine blk_put (cs := #[.int .i64 0, .int .i64 0]) ?_ 0 _ rfl; (with_reducible repeat (first | refine blk_drewN ?_ _ | refine blk_drew ?_ | refine blk_alloc ?_ _)); exact BK388.out)) : gb388 ≠ gb390)); have n6_ := aM ((by rw [hg]; exact Nat.ne_of_gt (blk_lt (g := gb388) (o := .cells #[.int .i64 ((rd_T59 l0 x13_1).f0), .int .i64 ((rd_T59 l0 x13_1).f1)] 59 (0, 0)) (by (with_reducible repeat (first | refine blk_drewN ?_ _ | refine blk_drew ?_ | refine blk_alloc ?_ _)); refine blk_put (cs := #[.int .i64 ((rd_T59 l0 x13_1).f0), .int .i64 0]) ?_ 1 _ rfl; (with_reducible repeat (first | refine blk_drewN ?_ _ | refine blk_drew ?_ | refine blk_alloc ?_ _)); refine blk_put (cs := #[.int .i64 0, .int .i64 0]) ?_ 0 _ rfl; (with_reducible repeat (first | refine blk_drewN ?_ _ | refine blk_drew ?_ | refine blk_alloc ?_ _)); exact BK388.out)) : gb390 ≠ gb388)); clear BK388 HB; have BK388 := n0_; have HB := n1_; have BK390 := n2_; have GW390 := n3_; have GE390 := n4_; have NB388_390 := n5_; have NB390_388 := n6_; clear n0_ n1_ n2_ n3_ n4_ n5_ n6_ hb hbox hg; have hnb23 := NB390_388.out; have hnc23 := NB388_390.out; have hcz24_0 : w22.cell? ⟨gb390, 0, none⟩ = some (.int .i64 0) := (blk_cell BK390.out 0).trans rfl; have hcz24_1 : w22.cell? ⟨gb390, 1, none⟩ = some (.int .i64 0) := (blk_cell BK390.out 1).trans rfl; have hfz24_0 := blk_frozen BK390.out 0; have hfz24_1 := blk_frozen BK390.out 1; have hcz25_0 : w22.cell? ⟨gb388, 0, none⟩ = some (.int .i64 ((rd_T59 l0 x13_1).f0)) := (blk_cell BK388.out 0).trans rfl; have hcz25_1 : w22.cell? ⟨gb388, 1, none⟩ = some (.int .i64 ((rd_T59 l0 x13_1).f1)) := (blk_cell BK388.out 1).trans rfl; have hfz25_0 := blk_frozen BK388.out 0; have hfz25_1 := blk_frozen BK388.out 1) | (go_at_call 78; (with_reducible refine (impl_compareCells.calls ((rd_T59 l0 x13_1).f0) ((rd_T59 l0 x13_1).f1) ((rd_T59 l1 x13_1).f0) ((rd_T59 l1 x13_1).f1) t391 _ A11.out).mono ?_); rintro e w26 ⟨rfl, hb⟩; have n0_ := aM (blk_below (g := gb388) (o := .cells #[.int .i64 ((rd_T59 l0 x13_1).f0), .int .i64 ((rd_T59 l0 x13_1).f1)] 59 (0, 0)) (by (with_reducible repeat (first | refine blk_drewN ?_ _ | refine blk_drew ?_ | refine blk_alloc ?_ _)); refine blk_far ?_ NB388_390.out _; (with_reducible repeat (first | refine blk_drewN ?_ _ | refine blk_drew ?_ | refine blk_alloc ?_ _)); refine blk_far ?_ NB388_390.out _; (with_reducible repeat (first | refine blk_drewN ?_ _ | refine blk_drew ?_ | refine blk_alloc ?_ _)); exact BK388.out) hb); have n1_ := aM (blk_below (g := gb390) (o := .cells #[.int .i64 ((rd_T59 l1 x13_1).f0), .int .i64 ((rd_T59 l1 x13_1).f1)] 59 (0, 0)) (by (with_reducible repeat (first | refine blk_drewN ?_ _ | refine blk_drew ?_ | refine blk_alloc ?_ _)); refine blk_put (cs := #[.int .i64 ((rd_T59 l1 x13_1).f0), .int .i64 0]) ?_ 1 _ rfl; (with_reducible repeat (first | refine blk_drewN ?_ _ | refine blk_drew ?_ | refine blk_alloc ?_ _)); refine blk_put (cs := #[.int .i64 0, .int .i64 0]) ?_ 0 _ rfl; (with_reducible repeat (first | refine blk_drewN ?_ _ | refine blk_drew ?_ | refine blk_alloc ?_ _)); exact BK390.out) hb); have n2_ := aM (below_step (zt GE388.out GE390.out) hb); clear BK388 BK390 HB; have BK388 := n0_; have BK390 := n1_; have HB := n2_; clear n0_ n1_ n2_; (try clear hb); (try clear hb2); (try clear hk); (try clear hi)))
    go_ret
    exact ⟨zw, zt GE388.out GE390.out⟩
   rw [if_pos c12] at H
   have c12b0 : (t391 == 0) = true := beq_iff_eq.mpr c12
   have c12b1 : (t391 != 0) = false := bne_eq_false_iff_eq.mpr c12
   clear c12
   have H' := aM H
   clear H
   have p387 : 0 ≤ (x13_1 : Int) := of_decide_eq_true za
   have q387 : x13_1 < (l0.length : Int) := of_decide_eq_true za
   obtain ⟨ad387, e387, hx387_0, hx387_1⟩ := at_T59 HR0.out x13_1 p387 q387
   cases e387
   replace hx387_0 := zk HB.out hx387_0
   replace hx387_1 := zk HB.out hx387_1
   replace p387 := eq_true p387
   replace q387 := eq_true q387
   go_wp2_with (first | ((with_reducible refine gate_dst (N := 8) rfl ?_); refine zx 8 #[.int .i64 0, .int .i64 0] 59 ?_; intro gb388 hg w13 hbox hb; have n0_ := aM (below_step zb hb); have n1_ := aM (hbox); have n2_ := aM ((ze : w.heap.size ≤ gb388)); have n3_ := aM ((ze : w.heap.size ≤ gb388)); clear HB; have HB := n0_; have BK388 := n1_; have GW388 := n2_; have GE388 := n3_; clear n0_ n1_ n2_ n3_ hb hbox hg; have hcz14_0 : w13.cell? ⟨gb388, 0, none⟩ = some (.int .i64 0) := (blk_cell BK388.out 0).trans rfl; have hcz14_1 : w13.cell? ⟨gb388, 1, none⟩ = some (.int .i64 0) := (blk_cell BK388.out 1).trans rfl; have hfz14_0 := blk_frozen BK388.out 0; have hfz14_1 := blk_frozen BK388.out 1; have p389 : 0 ≤ (x13_1 : Int) := of_decide_eq_true za; have q389 : x13_1 < (l1.length : Int) := of_decide_eq_true za; obtain ⟨ad389, e389, hx389_0, hx389_1⟩ := at_T59 HR1.out x13_1 p389 q389; cases e389; have hn389_0 : ad389.block ≠ gb388 := Nat.ne_of_lt (Nat.lt_of_lt_of_le (by have := World.block_lt_of_cell? _ _ hx389_0; first | rwa [add_block] at this | exact this) GW388.out); have hn389_1 : ad389.block ≠ gb388 := Nat.ne_of_lt (Nat.lt_of_lt_of_le (by have := World.block_lt_of_cell? _ _ hx389_0; first | rwa [add_block] at this | exact this) GW388.out); replace hx389_0 := zk HB.out hx389_0; replace hx389_1 := zk HB.out hx389_1; replace hx389_0 := (cell_far (p := ⟨gb388, 0, none⟩) (by first | (rw [add_block]; exact hn389_0) | (show (Addr.add _ _).block ≠ _; rw [add_block]; exact hn389_0) | exact hn389_0) (.int .i64 ((rd_T59 l0 x13_1).f0))).trans hx389_0; replace hx389_1 := (cell_far (p := ⟨gb388, 0, none⟩) (by first | (rw [add_block]; exact hn389_0) | (show (Addr.add _ _).block ≠ _; rw [add_block]; exact hn389_0) | exact hn389_0) (.int .i64 ((rd_T59 l0 x13_1).f0))).trans hx389_1; replace hx389_0 := (cell_far (p := ⟨gb388, 1, none⟩) (by first | (rw [add_block]; exact hn389_1) | (show (Addr.add _ _).block ≠ _; rw [add_block]; exact hn389_1) | exact hn389_1) (.int .i64 ((rd_T59 l0 x13_1).f1))).trans hx389_0; replace hx389_1 := (cell_far (p := ⟨gb388, 1, none⟩) (by first | (rw [add_block]; exact hn389_1) | (show (Addr.add _ _).block ≠ _; rw [add_block]; exact hn389_1) | exact hn389_1) (.int .i64 ((rd_T59 l0 x13_1).f1))).trans hx389_1; clear hn389_0 hn389_1; replace p389 := eq_true p389; replace q389 := eq_true q389) | ((with_reducible refine gate_dst (N := 9) rfl ?_); refine zx 9 #[.int .i64 0, .int .i64 0] 59 ?_; intro gb390 hg w15 hbox hb; have n0_ := aM (blk_below (g := gb388) (o := .cells #[.int .i64 ((rd_T59 l0 x13_1).f0), .int .i64 ((rd_T59 l0 x13_1).f1)] 59 (0, 0)) (by (with_reducible repeat (first | refine blk_drewN ?_ _ | refine blk_drew ?_ | refine blk_alloc ?_ _)); refine blk_put (cs := #[.int .i64 ((rd_T59 l0 x13_1).f0), .int .i64 0]) ?_ 1 _ rfl; (with_reducible repeat (first | refine blk_drewN ?_ _ | refine blk_drew ?_ | refine blk_alloc ?_ _)); refine blk_put (cs := #[.int .i64 0, .int .i64 0]) ?_ 0 _ rfl; (with_reducible repeat (first | refine blk_drewN ?_ _ | refine blk_drew ?_ | refine blk_alloc ?_ _)); exact BK388.out) hb); have n1_ := aM (below_step (zs GE388.out) hb); have n2_ := aM (hbox); have n3_ := aM ((zf GE388.out : w.heap.size ≤ gb390)); have n4_ := aM ((zf GE388.out : w.heap.size ≤ gb390)); have n5_ := aM ((by rw [hg]; exact Nat.ne_of_lt (blk_lt (g := gb388) (o := .cells #[.int .i64 ((rd_T59 l0 x13_1).f0), .int .i64 ((rd_T59 l0 x13_1).f1)] 59 (0, 0)) (by (with_reducible repeat (first | refine blk_drewN ?_ _ | refine blk_drew ?_ | refine blk_alloc ?_ _)); refine blk_put (cs := #[.int .i64 ((rd_T59 l0 x13_1).f0), .int .i64 0]) ?_ 1 _ rfl; (with_reducible repeat (first | refine blk_drewN ?_ _ | refine blk_drew ?_ | refine blk_alloc ?_ _)); refine blk_put (cs := #[.int .i64 0, .int .i64 0]) ?_ 0 _ rfl; (with_reducible repeat (first | refine blk_drewN ?_ _ | refine blk_drew ?_ | refine blk_alloc ?_ _)); exact BK388.out)) : gb388 ≠ gb390)); have n6_ := aM ((by rw [hg]; exact Nat.ne_of_gt (blk_lt (g := gb388) (o := .cells #[.int .i64 ((rd_T59 l0 x13_1).f0), .int .i64 ((rd_T59 l0 x13_1).f1)] 59 (0, 0)) (by (with_reducible repeat (first | refine blk_drewN ?_ _ | refine blk_drew ?_ | refine blk_alloc ?_ _)); refine blk_put (cs := #[.int .i64 ((rd_T59 l0 x13_1).f0), .int .i64 0]) ?_ 1 _ rfl; (with_reducible repeat (first | refine blk_drewN ?_ _ | refine blk_drew ?_ | refine blk_alloc ?_ _)); refine blk_put (cs := #[.int .i64 0, .int .i64 0]) ?_ 0 _ rfl; (with_reducible repeat (first | refine blk_drewN ?_ _ | refine blk_drew ?_ | refine blk_alloc ?_ _)); exact BK388.out)) : gb390 ≠ gb388)); clear BK388 HB; have BK388 := n0_; have HB := n1_; have BK390 := n2_; have GW390 := n3_; have GE390 := n4_; have NB388_390 := n5_; have NB390_388 := n6_; clear n0_ n1_ n2_ n3_ n4_ n5_ n6_ hb hbox hg; have hnb16 := NB390_388.out; have hnc16 := NB388_390.out; have hcz17_0 : w15.cell? ⟨gb390, 0, none⟩ = some (.int .i64 0) := (blk_cell BK390.out 0).trans rfl; have hcz17_1 : w15.cell? ⟨gb390, 1, none⟩ = some (.int .i64 0) := (blk_cell BK390.out 1).trans rfl; have hfz17_0 := blk_frozen BK390.out 0; have hfz17_1 := blk_frozen BK390.out 1; have hcz18_0 : w15.cell? ⟨gb388, 0, none⟩ = some (.int .i64 ((rd_T59 l0 x13_1).f0)) := (blk_cell BK388.out 0).trans rfl; have hcz18_1 : w15.cell? ⟨gb388, 1, none⟩ = some (.int .i64 ((rd_T59 l0 x13_1).f1)) := (blk_cell BK388.out 1).trans rfl; have hfz18_0 := blk_frozen BK388.out 0; have hfz18_1 := blk_frozen BK388.out 1) | (go_at_call 78; (with_reducible refine (impl_compareCells.calls ((rd_T59 l0 x13_1).f0) ((rd_T59 l0 x13_1).f1) ((rd_T59 l1 x13_1).f0) ((rd_T59 l1 x13_1).f1) t391 _ A11.out).mono ?_); rintro e w19 ⟨rfl, hb⟩; have n0_ := aM (blk_below (g := gb388) (o := .cells #[.int .i64 ((rd_T59 l0 x13_1).f0), .int .i64 ((rd_T59 l0 x13_1).f1)] 59 (0, 0)) (by (with_reducible repeat (first | refine blk_drewN ?_ _ | refine blk_drew ?_ | refine blk_alloc ?_ _)); refine blk_far ?_ NB388_390.out _; (with_reducible repeat (first | refine blk_drewN ?_ _ | refine blk_drew ?_ | refine blk_alloc ?_ _)); refine blk_far ?_ NB388_390.out _; (with_reducible repeat (first | refine blk_drewN ?_ _ | refine blk_drew ?_ | refine blk_alloc ?_ _)); exact BK388.out) hb); have n1_ := aM (blk_below (g := gb390) (o := .cells #[.int .i64 ((rd_T59 l1 x13_1).f0), .int .i64 ((rd_T59 l1 x13_1).f1)] 59 (0, 0)) (by (with_reducible repeat (first | refine blk_drewN ?_ _ | refine blk_drew ?_ | refine blk_alloc ?_ _)); refine blk_put (cs := #[.int .i64 ((rd_T59 l1 x13_1).f0), .int .i64 0]) ?_ 1 _ rfl; (with_reducible repeat (first | refine blk_drewN ?_ _ | refine blk_drew ?_ | refine blk_alloc ?_ _)); refine blk_put (cs := #[.int .i64 0, .int .i64 0]) ?_ 0 _ rfl; (with_reducible repeat (first | refine blk_drewN ?_ _ | refine blk_drew ?_ | refine blk_alloc ?_ _)); exact BK390.out) hb); have n2_ := aM (below_step (zt GE388.out GE390.out) hb); clear BK388 BK390 HB; have BK388 := n0_; have BK390 := n1_; have HB := n2_; clear n0_ n1_ n2_; (try clear hb); (try clear hb2); (try clear hk); (try clear hi)))
   go_roundg k1
   case measure => have := HK1.out; omega
   case rel => exact ⟨(wrap64 (x13_1 + 1)), zr, H', ⟨by have := HK1.out; omega⟩, ⟨zt GE388.out GE390.out⟩⟩
def impl_compareShapes.f (k : Nat) (l0 : List (S59)) (l1 : List (S59)) : Option (Int) := if (l0.length : Int) = (l1.length : Int) then ((impl_Cell_88__impl_compareCells.f k l0 l1).bind fun t392 => (some t392)) else (if (l0.length : Int) < (l1.length : Int) then (some (-1)) else (some 1))
theorem impl_compareShapes.calls (k : Nat) (A0 : Option Addr) (c0 : Nat) (l0 : List (S59)) (A1 : Option Addr) (c1 : Nat) (l1 : List (S59)) (r : Int) (w : World) (hr0 : Kd.C k59 w A0 l0.length l0) (hc0 : l0.length ≤ c0) (hr1 : Kd.C k59 w A1 l1.length l1) (hc1 : l1.length ≤ c1) (h : impl_compareShapes.f k l0 l1 = some r) :
  Calls Try.prog 48 #[.slice A0 l0.length c0, .slice A1 l1.length c1] w fun e w' => e = .returned (.int .i64 r) ∧ Below w.heap.size w w' := by
 have HR0 := aM hr0
 have HC0 := aM hc0
 clear hr0 hc0
 have HR1 := aM hr1
 have HC1 := aM hc1
 clear hr1 hc1
 have HB := aM (Below.refl w.heap.size w)
 have H : (if (l0.length : Int) = (l1.length : Int) then ((impl_Cell_88__impl_compareCells.f k l0 l1).bind fun t392 => (some t392)) else (if (l0.length : Int) < (l1.length : Int) then (some (-1)) else (some 1))) = some r := h
 clear h
 by_cases c3 : (l0.length : Int) = (l1.length : Int)
 ·rw [if_pos c3] at H
  have c3b0 : ((l0.length : Int) == (l1.length : Int)) = true := beq_iff_eq.mpr c3
  have c3b1 : ((l0.length : Int) != (l1.length : Int)) = false := bne_eq_false_iff_eq.mpr c3
  have c3b2 : (l0.length == l1.length) = true := by first | simpa using c3 | (simp at c3 ⊢; omega)
  clear c3
  replace H := Option.bind_eq_some_iff.mp H
  obtain ⟨t392, A40, H⟩ := H
  replace H : (some t392) = some r := H
  have A4 := aM A40
  clear A40
  obtain rfl := Option.some.inj H
  go_enter Try.func48, Try.ntmps48
  go_wp2_with (first | ((with_reducible refine gate_callee (f := 88) rfl ?_); refine goesL_ (some 17) rfl rfl Try.func88 (by kernel_rfl) rfl #[.slice A0 l0.length c0, .slice A1 l1.length c1, .func (.func 78) #[] #[]] rfl zm ?_; (with_reducible refine (impl_Cell_88__impl_compareCells.calls k _ _ l0 _ _ l1  t392 _ ?side1 ?side2 ?side3 ?side4 A4.out).mono ?_); (case side1 => repeat (first | exact HR0.out | (with_reducible refine Kd.C_alloc ?_ _) | (with_reducible refine Kd.C_drewN ?_ _) | (with_reducible refine Kd.C_drew ?_))); (case side2 => exact HC0.out); (case side3 => repeat (first | exact HR1.out | (with_reducible refine Kd.C_alloc ?_ _) | (with_reducible refine Kd.C_drewN ?_ _) | (with_reducible refine Kd.C_drew ?_))); (case side4 => exact HC1.out); rintro e w5 ⟨rfl, hb⟩; refine ⟨_, rfl, ?_⟩; have n0_ := aM (below_step zb hb); clear HB; have HB := n0_; clear n0_; (try clear hb); (try clear hb2); (try clear hk); (try clear hi)))
  go_ret
  exact ⟨zw, zb⟩
 rw [if_neg c3] at H
 have c3b0 : ((l0.length : Int) == (l1.length : Int)) = false := beq_eq_false_iff_ne.mpr c3
 have c3b1 : ((l0.length : Int) != (l1.length : Int)) = true := bne_iff_ne.mpr c3
 have c3b2 : (l0.length == l1.length) = false := by first | simpa using c3 | (simp at c3 ⊢; omega)
 by_cases c6 : (l0.length : Int) < (l1.length : Int)
 ·rw [if_pos c6] at H
  have c6b0 : decide ((l0.length : Int) < (l1.length : Int)) = true := decide_eq_true c6
  have c6b1 : decide (l0.length < l1.length) = true := decide_eq_true (Int.ofNat_lt.mp c6)
  clear c6
  obtain rfl := Option.some.inj H
  go_enter Try.func48, Try.ntmps48
  go_wp2
  go_ret
  exact ⟨zw, zb⟩
 rw [if_neg c6] at H
 have c6b0 : decide ((l0.length : Int) < (l1.length : Int)) = false := decide_eq_false c6
 have c6b1 : decide (l0.length < l1.length) = false := decide_eq_false (fun h => c6 (Int.ofNat_lt.mpr h))
 clear c6
 obtain rfl := Option.some.inj H
 go_enter Try.func48, Try.ntmps48
 go_wp2
 go_ret
 exact ⟨zw, zb⟩
def IsEl (W : World) (A : Option Addr) (l : List (List S59)) (v : Value) (r : List S59) : Prop := ∃ (ad : Addr) (i : Int), A = some ad ∧ 0 ≤ i ∧ i < (l.length : Int) ∧ r = rd_L2 l i ∧ W.cell? (ad.add i.toNat) = some v
theorem IsEl.at {W : World} {ad : Addr} {l : List (List S59)} {v : Value} {i : Int} (h : W.cell? (ad.add i.toNat) = some v) (h0 : 0 ≤ i) (h1 : i < (l.length : Int)) : IsEl W (some ad) l v (rd_L2 l i) := ⟨ad, i, rfl, h0, h1, rfl, h⟩
theorem IsEl.below {W w1 : World} {A : Option Addr} {l : List (List S59)} {v : Value} {r : List S59} (h : IsEl W A l v r) (hb : Below W.heap.size W w1) : IsEl w1 A l v r := by
 obtain ⟨ad, i, h1, h2, h3, h4, h5⟩ := h
 exact ⟨ad, i, h1, h2, h3, h4, pw_cell_below hb h5⟩
theorem S_el {W : World} {base n c e : Nat} {ok : Nat → Prop} {A : Option Addr} {xs : List (List S59)} {v : Value} {r : List S59} (h : Kd.S (Kd.slice 59 k59) e W base ok (.slice A n c) xs) (he : IsEl W A xs v r) : Kd.R k59 59 W base ok v r := by
 obtain ⟨ad, i, rfl, h0, h1, rfl, hc⟩ := he
 have hR := Kd.S_R h
 have hn : n = xs.length := (Kd.R_reads' hR).1
 obtain ⟨c', hcl, hM, hcc⟩ := Kd.R_getA hR [] i h0 (by rw [hn]; exact h1)
 obtain ⟨v', rfl, hv⟩ := hM
 have h2 := hcc 0 v' rfl
 rw [Nat.add_zero, show (Kd.slice 59 k59).sz = 1 from rfl, Nat.mul_one] at h2
 obtain rfl := Option.some.inj (h2.symm.trans hc)
 exact Kd.R_mono hv (fun _ hk => hk.1)
def impl_Cell_100__impl_compareShapes.l0 : Nat → List (List (S59)) → List (S59) → Int → Option ((List (S59)))
 | 0, _, _, _ => none
 | k + 1, x0, x5, x6 => if x6 < (x0.length : Int) then (if 0 ≤ x6 then ((impl_compareShapes.f k (rd_L2 x0 x6) x5).bind fun t395 => (if t395 < 0 then (impl_Cell_100__impl_compareShapes.l0 k x0 (rd_L2 x0 x6) (wrap64 (x6 + 1))) else (impl_Cell_100__impl_compareShapes.l0 k x0 x5 (wrap64 (x6 + 1))))) else (none)) else (some x5)
def impl_Cell_100__impl_compareShapes.f (k : Nat) (l0 : List (List (S59)))  : Option ((List (S59))) := if (l0.length : Int) < 1 then (none) else (if 0 < (l0.length : Int) then (impl_Cell_100__impl_compareShapes.l0 k l0 (rd_L2 l0 0) 1) else (none))
theorem impl_Cell_100__impl_compareShapes.callsE (k : Nat) (P0_ : Nat → Prop) (A0 : Option Addr) (c0 : Nat) (l0 : List (List (S59)))  (r : List (S59)) (w : World) (hs0 : Kd.V (Kd.slice 59 k59) 24 w w.heap.size (fun k_ => P0_ k_) (.slice A0 l0.length c0) l0) (h : impl_Cell_100__impl_compareShapes.f k l0 = some r) :
  Calls Try.prog 100 #[.slice A0 l0.length c0, .func (.func 48) #[] #[]] w fun e w' => ∃ v0_ : Value, e = .returned (v0_) ∧ Kd.V k59 59 w' w.heap.size (fun k_ => (P0_ k_ ∨ w.heap.size ≤ k_)) v0_ r ∧ Below w.heap.size w w' ∧ IsEl w' A0 l0 v0_ r := by
 have HO0 := aM (show Kd.V (Kd.slice 59 k59) 24 w w.heap.size (fun k_ => (P0_ k_ ∨ w.heap.size ≤ k_)) (.slice A0 l0.length c0) l0 from Kd.V_mono hs0 (fun k_ hk => .inl hk))
 have HB := aM (Below.refl w.heap.size w)
 have H : (if (l0.length : Int) < 1 then (none) else (if 0 < (l0.length : Int) then (impl_Cell_100__impl_compareShapes.l0 k l0 (rd_L2 l0 0) 1) else (none))) = some r := h
 clear h
 by_cases c3 : (l0.length : Int) < 1
 ·rw [if_pos c3] at H
  exact absurd H (by simp)
 rw [if_neg c3] at H
 have c3b0 : decide ((l0.length : Int) < 1) = false := decide_eq_false c3
 have c3b1 : decide (l0.length < 1) = false := decide_eq_false (by omega)
 clear c3
 by_cases c4 : 0 < (l0.length : Int)
 rotate_left
 ·rw [if_neg c4] at H
  exact absurd H (by simp)
 rw [if_pos c4] at H
 have c4b0 : decide (0 < (l0.length : Int)) = true := decide_eq_true c4
 have c4b1 : decide (0 < l0.length) = true := decide_eq_true (by omega)
 clear c4
 have H' := aM H
 clear H
 have p393 : 0 ≤ (0 : Int) := (by omega)
 have q393 : 0 < (l0.length : Int) := of_decide_eq_true za
 obtain ⟨ad393, A393_0, c393_0, e393, hx393_0, hl393_0, hi393_0⟩ := at_L2 (Kd.V_reads' HO0.out).2.2 0 p393 q393
 cases e393
 have HE := aM (IsEl.at hx393_0 p393 q393)
 obtain ⟨ce393, hce393, hMe393, hcc393⟩ := Kd.V_get HO0.out [] 0 p393 (by first | exact q393 | exact of_decide_eq_true za | (have e_ := (Kd.V_reads' HO0.out).1; omega))
 obtain ⟨ua393_0, uc393_0, rfl, ul393_0, ge393_0⟩ := Kd.FK_slice_open hMe393
 have hv393_0 := hcc393 0 _ rfl
 rw [Nat.add_zero, show ((Kd.slice 59 k59)).sz = 1 from rfl, Nat.mul_one] at hv393_0
 replace hv393_0 := Option.some.inj (hv393_0.symm.trans hx393_0)
 injection hv393_0 with hva_ hvn_ hvc_
 rw [hva_] at ge393_0
 rw [hvc_] at ul393_0
 have HL393_0 := aM (show Kd.V k59 59 _ w.heap.size _ _ (rd_L2 l0 0) from Kd.V_mk ul393_0 ge393_0)
 clear hva_ hvn_ hvc_ ge393_0 ul393_0
 clear hcc393 hce393
 have qi393 : (0 < l0.length) = True := eq_true (by omega)
 (try rw [show ((0 : Int)).toNat = 0 from rfl] at hx393_0)
 (try rw [Addr.add_zero'] at hx393_0)
 have HR393_0 := aM hi393_0
 have HC393_0 := aM hl393_0
 clear hi393_0 hl393_0
 replace p393 := eq_true p393
 replace q393 := eq_true q393
 go_enter Try.func100, Try.ntmps100
 go_wp2
 go_loopg [5, 6] k (fun kq v5 v6 w' => ∃ (x5_1 : List (S59)) (x6_1 : Int), v6 = .int .i64 x6_1 ∧ Aside0 (impl_Cell_100__impl_compareShapes.l0 kq l0 x5_1 x6_1 = some r) ∧ Aside0 (kq ≤ k) ∧ Aside0 (Kd.V (Kd.slice 59 k59) 24 w' w.heap.size (fun k_ => (P0_ k_ ∨ w.heap.size ≤ k_)) (.slice (some ad393) l0.length c0) l0) ∧ Aside0 (Kd.V k59 59 w' w.heap.size (fun k_ => (P0_ k_ ∨ w.heap.size ≤ k_)) v5 x5_1) ∧ Aside0 (Kd.C k59 w' A393_0 (rd_L2 l0 0).length (rd_L2 l0 0)) ∧ Aside0 (Below w.heap.size w w') ∧ Aside0 (IsEl w' (some ad393) l0 v5 x5_1))
 case atStart => exact ⟨(rd_L2 l0 0), (1), zr, H', ⟨Nat.le_refl _⟩, ⟨mV_ HO0.out⟩, ⟨mV_ HL393_0.out⟩, ⟨mQ_ HR393_0.out⟩, ⟨zb⟩, ⟨HE.out⟩⟩
 case round =>
  clear H'
  try clear p2
  try clear c3
  try clear c3b0
  try clear c3b1
  try clear p3
  try clear q3
  try clear hx3
  try clear qi3
  try clear c4
  try clear c4b0
  try clear c4b1
  try clear hx393_0
  try clear p393
  try clear q393
  obtain ⟨x5_1, x6_1, rfl, HA, HK1, HO_0, HO_5, HR393_0, HB, HE⟩ := hrel
  cases gk with
  | zero => exact absurd HA.out (by simp [impl_Cell_100__impl_compareShapes.l0])
  | succ k1 =>
   have H := HA.out
   clear HA
   simp only [impl_Cell_100__impl_compareShapes.l0] at H
   by_cases c5 : x6_1 < (l0.length : Int)
   rotate_left
   ·rw [if_neg c5] at H
    have c5b0 : decide (x6_1 < (l0.length : Int)) = false := decide_eq_false c5
    clear c5
    obtain rfl := Option.some.inj H
    go_wp2
    go_ret
    exact ⟨_, zw, mV_ HO_5.out, zb, HE.out⟩
   rw [if_pos c5] at H
   have c5b0 : decide (x6_1 < (l0.length : Int)) = true := decide_eq_true c5
   clear c5
   by_cases c6 : 0 ≤ x6_1
   rotate_left
   ·rw [if_neg c6] at H
    exact absurd H (by simp)
   rw [if_pos c6] at H
   have c6b0 : decide (0 ≤ x6_1) = true := decide_eq_true c6
   clear c6
   replace H := Option.bind_eq_some_iff.mp H
   obtain ⟨t395, A70, H⟩ := H
   replace H : (if t395 < 0 then (impl_Cell_100__impl_compareShapes.l0 k1 l0 (rd_L2 l0 x6_1) (wrap64 (x6_1 + 1))) else (impl_Cell_100__impl_compareShapes.l0 k1 l0 x5_1 (wrap64 (x6_1 + 1)))) = some r := H
   have A7 := aM A70
   clear A70
   by_cases c8 : t395 < 0
   ·rw [if_pos c8] at H
    have c8b0 : decide (t395 < 0) = true := decide_eq_true c8
    clear c8
    have H' := aM H
    clear H
    have p394 : 0 ≤ (x6_1 : Int) := of_decide_eq_true za
    have q394 : x6_1 < (l0.length : Int) := of_decide_eq_true za
    obtain ⟨ad394, A394_0, c394_0, e394, hx394_0, hl394_0, hi394_0⟩ := at_L2 (Kd.V_reads' HO_0.out).2.2 x6_1 p394 q394
    obtain rfl : ad393 = ad394 := (by injection e394)
    obtain ⟨ce394, hce394, hMe394, hcc394⟩ := Kd.V_get HO_0.out [] x6_1 p394 (by first | exact q394 | exact of_decide_eq_true za | (have e_ := (Kd.V_reads' HO_0.out).1; omega))
    obtain ⟨ua394_0, uc394_0, rfl, ul394_0, ge394_0⟩ := Kd.FK_slice_open hMe394
    have hv394_0 := hcc394 0 _ rfl
    rw [Nat.add_zero, show ((Kd.slice 59 k59)).sz = 1 from rfl, Nat.mul_one] at hv394_0
    replace hv394_0 := Option.some.inj (hv394_0.symm.trans hx394_0)
    injection hv394_0 with hva_ hvn_ hvc_
    rw [hva_] at ge394_0
    rw [hvc_] at ul394_0
    have HL394_0 := aM (show Kd.V k59 59 _ w.heap.size _ _ (rd_L2 l0 x6_1) from Kd.V_mk ul394_0 ge394_0)
    clear hva_ hvn_ hvc_ ge394_0 ul394_0
    clear hcc394 hce394
    have HR394_0 := aM hi394_0
    have HC394_0 := aM hl394_0
    clear hi394_0 hl394_0
    replace p394 := eq_true p394
    replace q394 := eq_true q394
    obtain ⟨Ao9, co9, eo9⟩ := Kd.V_slice HO_5.out
    subst eo9
    go_wp2_with (first | (go_at_call 48; (with_reducible refine (impl_compareShapes.calls k1 _ _ (rd_L2 l0 x6_1) _ _ x5_1 t395 _ ?side1 ?side2 ?side3 ?side4 A7.out).mono ?_); (case side1 => repeat (first | exact (mQ_ HR394_0.out) | (with_reducible refine Kd.C_alloc ?_ _) | (with_reducible refine Kd.C_drewN ?_ _) | (with_reducible refine Kd.C_drew ?_))); (case side2 => exact HC394_0.out); (case side3 => repeat (first | exact (Kd.V_reads' HO_5.out).2.2 | (with_reducible refine Kd.C_alloc ?_ _) | (with_reducible refine Kd.C_drewN ?_ _) | (with_reducible refine Kd.C_drew ?_))); (case side4 => exact (Kd.V_reads' HO_5.out).2.1); rintro e w10 ⟨rfl, hb⟩; have m0_ := aM (IsEl.below HE.out hb); clear HE; have HE := m0_; clear m0_; have n0_ := aM (Kd.V_below (mV_ HO_0.out) hb); have n1_ := aM (Kd.V_below (mV_ HO_5.out) hb); have n2_ := aM (Kd.V_below (mV_ HL394_0.out) hb); have n3_ := aM (Kd.C_below (mQ_ HR393_0.out) hb); have n4_ := aM (Kd.C_below (mQ_ HR394_0.out) hb); have n5_ := aM (below_step zb hb); clear HO_0 HO_5 HL394_0 HR393_0 HR394_0 HB; have HO_0 := n0_; have HO_5 := n1_; have HL394_0 := n2_; have HR393_0 := n3_; have HR394_0 := n4_; have HB := n5_; clear n0_ n1_ n2_ n3_ n4_ n5_; (try clear hb); (try clear hb2); (try clear hk); (try clear hi); have p396 : 0 ≤ (x6_1 : Int) := of_decide_eq_true za; have q396 : x6_1 < (l0.length : Int) := of_decide_eq_true za; obtain ⟨ad396, A396_0, c396_0, e396, hx396_0, hl396_0, hi396_0⟩ := at_L2 (Kd.V_reads' HO_0.out).2.2 x6_1 p396 q396; obtain rfl : ad393 = ad396 := (by injection e396); obtain ⟨ce396, hce396, hMe396, hcc396⟩ := Kd.V_get HO_0.out [] x6_1 p396 (by first | exact q396 | exact of_decide_eq_true za | (have e_ := (Kd.V_reads' HO_0.out).1; omega)); obtain ⟨ua396_0, uc396_0, rfl, ul396_0, ge396_0⟩ := Kd.FK_slice_open hMe396; have hv396_0 := hcc396 0 _ rfl; rw [Nat.add_zero, show ((Kd.slice 59 k59)).sz = 1 from rfl, Nat.mul_one] at hv396_0; replace hv396_0 := Option.some.inj (hv396_0.symm.trans hx396_0); injection hv396_0 with hva_ hvn_ hvc_; rw [hva_] at ge396_0; rw [hvc_] at ul396_0; have HL396_0 := aM (show Kd.V k59 59 _ w.heap.size _ _ (rd_L2 l0 x6_1) from Kd.V_mk ul396_0 ge396_0); clear hva_ hvn_ hvc_ ge396_0 ul396_0 hcc396 hce396; have HR396_0 := aM hi396_0; have HC396_0 := aM hl396_0; clear hi396_0 hl396_0; replace p396 := eq_true p396; replace q396 := eq_true q396))
    go_roundg k1
    case measure => have := HK1.out; omega
    case rel => exact ⟨(rd_L2 l0 x6_1), (wrap64 (x6_1 + 1)), zr, H', ⟨by have := HK1.out; omega⟩, ⟨mV_ HO_0.out⟩, ⟨mV_ HL396_0.out⟩, ⟨mQ_ HR393_0.out⟩, ⟨zb⟩, ⟨IsEl.at hx396_0 (of_eq_true p396) (of_eq_true q396)⟩⟩
   rw [if_neg c8] at H
   have c8b0 : decide (t395 < 0) = false := decide_eq_false c8
   clear c8
   have H' := aM H
   clear H
   have p394 : 0 ≤ (x6_1 : Int) := of_decide_eq_true za
   have q394 : x6_1 < (l0.length : Int) := of_decide_eq_true za
   obtain ⟨ad394, A394_0, c394_0, e394, hx394_0, hl394_0, hi394_0⟩ := at_L2 (Kd.V_reads' HO_0.out).2.2 x6_1 p394 q394
   obtain rfl : ad393 = ad394 := (by injection e394)
   obtain ⟨ce394, hce394, hMe394, hcc394⟩ := Kd.V_get HO_0.out [] x6_1 p394 (by first | exact q394 | exact of_decide_eq_true za | (have e_ := (Kd.V_reads' HO_0.out).1; omega))
   obtain ⟨ua394_0, uc394_0, rfl, ul394_0, ge394_0⟩ := Kd.FK_slice_open hMe394
   have hv394_0 := hcc394 0 _ rfl
   rw [Nat.add_zero, show ((Kd.slice 59 k59)).sz = 1 from rfl, Nat.mul_one] at hv394_0
   replace hv394_0 := Option.some.inj (hv394_0.symm.trans hx394_0)
   injection hv394_0 with hva_ hvn_ hvc_
   rw [hva_] at ge394_0
   rw [hvc_] at ul394_0
   have HL394_0 := aM (show Kd.V k59 59 _ w.heap.size _ _ (rd_L2 l0 x6_1) from Kd.V_mk ul394_0 ge394_0)
   clear hva_ hvn_ hvc_ ge394_0 ul394_0
   clear hcc394 hce394
   have HR394_0 := aM hi394_0
   have HC394_0 := aM hl394_0
   clear hi394_0 hl394_0
   replace p394 := eq_true p394
   replace q394 := eq_true q394
   obtain ⟨Ao11, co11, eo11⟩ := Kd.V_slice HO_5.out
   subst eo11
   go_wp2_with (first | (go_at_call 48; (with_reducible refine (impl_compareShapes.calls k1 _ _ (rd_L2 l0 x6_1) _ _ x5_1 t395 _ ?side1 ?side2 ?side3 ?side4 A7.out).mono ?_); (case side1 => repeat (first | exact (mQ_ HR394_0.out) | (with_reducible refine Kd.C_alloc ?_ _) | (with_reducible refine Kd.C_drewN ?_ _) | (with_reducible refine Kd.C_drew ?_))); (case side2 => exact HC394_0.out); (case side3 => repeat (first | exact (Kd.V_reads' HO_5.out).2.2 | (with_reducible refine Kd.C_alloc ?_ _) | (with_reducible refine Kd.C_drewN ?_ _) | (with_reducible refine Kd.C_drew ?_))); (case side4 => exact (Kd.V_reads' HO_5.out).2.1); rintro e w12 ⟨rfl, hb⟩; have m0_ := aM (IsEl.below HE.out hb); clear HE; have HE := m0_; clear m0_; have n0_ := aM (Kd.V_below (mV_ HO_0.out) hb); have n1_ := aM (Kd.V_below (mV_ HO_5.out) hb); have n2_ := aM (Kd.V_below (mV_ HL394_0.out) hb); have n3_ := aM (Kd.C_below (mQ_ HR393_0.out) hb); have n4_ := aM (Kd.C_below (mQ_ HR394_0.out) hb); have n5_ := aM (below_step zb hb); clear HO_0 HO_5 HL394_0 HR393_0 HR394_0 HB; have HO_0 := n0_; have HO_5 := n1_; have HL394_0 := n2_; have HR393_0 := n3_; have HR394_0 := n4_; have HB := n5_; clear n0_ n1_ n2_ n3_ n4_ n5_; (try clear hb); (try clear hb2); (try clear hk); (try clear hi)))
   go_roundg k1
   case measure => have := HK1.out; omega
   case rel => exact ⟨(x5_1), (wrap64 (x6_1 + 1)), zr, H', ⟨by have := HK1.out; omega⟩, ⟨mV_ HO_0.out⟩, ⟨mV_ HO_5.out⟩, ⟨mQ_ HR393_0.out⟩, ⟨zb⟩, ⟨HE.out⟩⟩
def impl_leastOf.f (k : Nat) (l0 : List (List (S59))) : Option ((List (S59))) := (impl_Cell_100__impl_compareShapes.f k l0).bind fun t397 => (some t397)
theorem impl_leastOf.callsE (k : Nat) (P0_ : Nat → Prop) (A0 : Option Addr) (c0 : Nat) (l0 : List (List (S59))) (r : List (S59)) (w : World) (hs0 : Kd.V (Kd.slice 59 k59) 24 w w.heap.size (fun k_ => P0_ k_) (.slice A0 l0.length c0) l0) (h : impl_leastOf.f k l0 = some r) :
  Calls Try.prog 80 #[.slice A0 l0.length c0] w fun e w' => ∃ v0_ : Value, e = .returned (v0_) ∧ Kd.V k59 59 w' w.heap.size (fun k_ => (P0_ k_ ∨ w.heap.size ≤ k_)) v0_ r ∧ Below w.heap.size w w' ∧ IsEl w' A0 l0 v0_ r := by
 have HO0 := aM (show Kd.V (Kd.slice 59 k59) 24 w w.heap.size (fun k_ => (P0_ k_ ∨ w.heap.size ≤ k_)) (.slice A0 l0.length c0) l0 from Kd.V_mono hs0 (fun k_ hk => .inl hk))
 have HB := aM (Below.refl w.heap.size w)
 have H : ((impl_Cell_100__impl_compareShapes.f k l0).bind fun t397 => (some t397)) = some r := h
 clear h
 replace H := Option.bind_eq_some_iff.mp H
 obtain ⟨t397, A20, H⟩ := H
 replace H : (some t397) = some r := H
 have A2 := aM A20
 clear A20
 obtain rfl := Option.some.inj H
 go_enter Try.func80, Try.ntmps80
 go_wp2_with (first | ((with_reducible refine gate_callee (f := 100) rfl ?_); refine goesL_ (some 4) rfl rfl Try.func100 (by kernel_rfl) rfl #[.slice A0 l0.length c0, .func (.func 48) #[] #[]] rfl zm ?_; (with_reducible refine (impl_Cell_100__impl_compareShapes.callsE k (fun k_ => (P0_ k_ ∨ w.heap.size ≤ k_)) _ _ l0  t397 _ ?side1 A2.out).mono ?_); (case side1 => exact HO0.out); rintro e w3 ⟨v398, rfl, ho0, hb, hel⟩; have HE := aM hel; clear hel; refine ⟨_, rfl, ?_⟩; have n0_ := aM (Kd.V_below (mV_ HO0.out) hb); have n1_ := aM (Kd.V_lower (Kd.V_mono (ok' := fun k_ => (P0_ k_ ∨ w.heap.size ≤ k_)) ho0 (fun k_ hk_ => Or.elim hk_ (fun hs_ => hs_) (fun hn_ => (.inr (Nat.le_trans (below_size zb) hn_))))) (below_size zb)); have n2_ := aM (below_step zb hb); clear HO0 HB; have HO0 := n0_; have HO399 := n1_; have HB := n2_; clear n0_ n1_ n2_; (try clear hb); (try clear hb2); (try clear hk); (try clear hi); (try clear ho0)))
 go_ret
 exact ⟨_, zw, mV_ HO399.out, zb, HE.out⟩
end Go.Proofs.Ytlnliahadgmbcaa.F
end
section
namespace Go.Proofs.Ytlnliahadgmbcaa.F
open Go.RowKit Go.Proofs.YtlnliahadgmbcaaW.PrintWords Go.Proofs.YtlnliahadgmbcaaW.PrintLast Go.Proofs.YtlnliahadgmbcaaW.PrintMore
attribute [local go_sem] max2_int min2_int max_two min_two max_three min_three max_four min_four
set_option linter.unusedVariables false
set_option linter.unusedSimpArgs false
attribute [local go_sem high] eqA59
def impl_Cell_67.l0 : Nat → List (S59) → List (S59) → Int → Int → Option (Bool)
 | 0, _, _, _, _ => none
 | k + 1, x0, x1, x12, x13 => if x13 < x12 then (if 0 ≤ x13 then (if x13 < (x0.length : Int) then (if x13 < (x1.length : Int) then (if (!(((rd_T59 x0 x13).f0) == ((rd_T59 x1 x13).f0)) || (!(((rd_T59 x0 x13).f1) == ((rd_T59 x1 x13).f1)))) = true then (some false) else (impl_Cell_67.l0 k x0 x1 x12 (wrap64 (x13 + 1)))) else (none)) else (none)) else (none)) else (some true)
def impl_Cell_67.f (k : Nat) (l0 : List (S59)) (l1 : List (S59)) : Option (Bool) := if (l0.length : Int) = (l1.length : Int) then (impl_Cell_67.l0 k l0 l1 (l0.length : Int) 0) else (some false)
theorem impl_Cell_67.calls (k : Nat) (A0 : Option Addr) (c0 : Nat) (l0 : List (S59)) (A1 : Option Addr) (c1 : Nat) (l1 : List (S59)) (r : Bool) (w : World) (hr0 : Kd.C k59 w A0 l0.length l0) (hc0 : l0.length ≤ c0) (hr1 : Kd.C k59 w A1 l1.length l1) (hc1 : l1.length ≤ c1) (h : impl_Cell_67.f k l0 l1 = some r) :
  Calls Try.prog 67 #[.slice A0 l0.length c0, .slice A1 l1.length c1] w fun e w' => e = .returned (.bool r) ∧ Drawn0 w w' := by
 have hu59 := Try.underlying59
 have HR0 := aM hr0
 have HC0 := aM hc0
 clear hr0 hc0
 have HR1 := aM hr1
 have HC1 := aM hc1
 clear hr1 hc1
 have H : (if (l0.length : Int) = (l1.length : Int) then (impl_Cell_67.l0 k l0 l1 (l0.length : Int) 0) else (some false)) = some r := h
 clear h
 by_cases c3 : (l0.length : Int) = (l1.length : Int)
 rotate_left
 ·rw [if_neg c3] at H
  have c3b0 : ((l0.length : Int) == (l1.length : Int)) = false := beq_eq_false_iff_ne.mpr c3
  have c3b1 : ((l0.length : Int) != (l1.length : Int)) = true := bne_iff_ne.mpr c3
  have c3b2 : (l0.length == l1.length) = false := by first | simpa using c3 | (simp at c3 ⊢; omega)
  obtain rfl := Option.some.inj H
  go_enter Try.func67, Try.ntmps67
  go_wp2
  repeat (go_quiet (fail); try go_wp2)
  go_ret
  exact ⟨by first | rfl | (simp; done) | (simp [*]; done), by repeat (first | exact Drawn0.refl _ | apply Drawn0.step)⟩
 rw [if_pos c3] at H
 have c3b0 : ((l0.length : Int) == (l1.length : Int)) = true := beq_iff_eq.mpr c3
 have c3b1 : ((l0.length : Int) != (l1.length : Int)) = false := bne_eq_false_iff_eq.mpr c3
 have c3b2 : (l0.length == l1.length) = true := by first | simpa using c3 | (simp at c3 ⊢; omega)
 clear c3
 have H' := aM H
 clear H
 go_enter Try.func67, Try.ntmps67
 go_wp2
 repeat (go_quiet (fail); try go_wp2)
 go_loopg [13] k (fun kq v13 w' => ∃ (x13_1 : Int), v13 = .int .i64 x13_1 ∧ Aside0 (impl_Cell_67.l0 kq l0 l1 (l0.length : Int) x13_1 = some r) ∧ Aside0 (kq ≤ k) ∧ Drawn0 w w')
 case atStart => exact ⟨(0), zr, H', ⟨Nat.le_refl _⟩, by repeat (first | exact Drawn0.refl _ | apply Drawn0.step)⟩
 case round =>
  clear H'
  try clear c1
  try clear p2
  try clear c3
  try clear c3b0
  try clear c3b1
  try clear c3b2
  obtain ⟨x13_1, rfl, HA, HK1, ⟨m1, rfl⟩⟩ := hrel
  cases gk with
  | zero => exact absurd HA.out (by simp [impl_Cell_67.l0])
  | succ k1 =>
   have H := HA.out
   clear HA
   simp only [impl_Cell_67.l0] at H
   by_cases c4 : x13_1 < (l0.length : Int)
   rotate_left
   ·rw [if_neg c4] at H
    have c4b0 : decide (x13_1 < (l0.length : Int)) = false := decide_eq_false c4
    clear c4
    obtain rfl := Option.some.inj H
    go_wp2
    repeat (go_quiet (fail); try go_wp2)
    go_ret
    exact ⟨by first | rfl | (simp; done) | (simp [*]; done), by repeat (first | exact Drawn0.refl _ | apply Drawn0.step)⟩
   rw [if_pos c4] at H
   have c4b0 : decide (x13_1 < (l0.length : Int)) = true := decide_eq_true c4
   clear c4
   by_cases c5 : 0 ≤ x13_1
   rotate_left
   ·rw [if_neg c5] at H
    exact absurd H (by simp)
   rw [if_pos c5] at H
   have c5b0 : decide (0 ≤ x13_1) = true := decide_eq_true c5
   clear c5
   by_cases c6 : x13_1 < (l0.length : Int)
   rotate_left
   ·rw [if_neg c6] at H
    exact absurd H (by simp)
   rw [if_pos c6] at H
   have c6b0 : decide (x13_1 < (l0.length : Int)) = true := decide_eq_true c6
   clear c6
   by_cases c7 : x13_1 < (l1.length : Int)
   rotate_left
   ·rw [if_neg c7] at H
    exact absurd H (by simp)
   rw [if_pos c7] at H
   have c7b0 : decide (x13_1 < (l1.length : Int)) = true := decide_eq_true c7
   clear c7
   by_cases c8 : (!(((rd_T59 l0 x13_1).f0) == ((rd_T59 l1 x13_1).f0)) || (!(((rd_T59 l0 x13_1).f1) == ((rd_T59 l1 x13_1).f1)))) = true
   ·rw [if_pos c8] at H
    have c8b0 : (!(((rd_T59 l0 x13_1).f0) == ((rd_T59 l1 x13_1).f0)) || (!(((rd_T59 l0 x13_1).f1) == ((rd_T59 l1 x13_1).f1)))) = true := c8
    clear c8
    obtain rfl := Option.some.inj H
    have p647 : 0 ≤ (x13_1 : Int) := of_decide_eq_true za
    have q647 : x13_1 < (l0.length : Int) := of_decide_eq_true za
    obtain ⟨ad647, e647, hx647_0, hx647_1⟩ := at_T59 HR0.out x13_1 p647 q647
    cases e647
    replace p647 := eq_true p647
    replace q647 := eq_true q647
    have p648 : 0 ≤ (x13_1 : Int) := of_decide_eq_true za
    have q648 : x13_1 < (l1.length : Int) := of_decide_eq_true za
    obtain ⟨ad648, e648, hx648_0, hx648_1⟩ := at_T59 HR1.out x13_1 p648 q648
    cases e648
    replace p648 := eq_true p648
    replace q648 := eq_true q648
    go_wp2
    repeat (go_quiet (fail); try go_wp2)
    go_ret
    exact ⟨by first | rfl | (simp; done) | (simp [*]; done), by repeat (first | exact Drawn0.refl _ | apply Drawn0.step)⟩
   rw [if_neg c8] at H
   have c8b0 : (!(((rd_T59 l0 x13_1).f0) == ((rd_T59 l1 x13_1).f0)) || (!(((rd_T59 l0 x13_1).f1) == ((rd_T59 l1 x13_1).f1)))) = false := by simpa using c8
   clear c8
   have H' := aM H
   clear H
   have p647 : 0 ≤ (x13_1 : Int) := of_decide_eq_true za
   have q647 : x13_1 < (l0.length : Int) := of_decide_eq_true za
   obtain ⟨ad647, e647, hx647_0, hx647_1⟩ := at_T59 HR0.out x13_1 p647 q647
   cases e647
   replace p647 := eq_true p647
   replace q647 := eq_true q647
   have p648 : 0 ≤ (x13_1 : Int) := of_decide_eq_true za
   have q648 : x13_1 < (l1.length : Int) := of_decide_eq_true za
   obtain ⟨ad648, e648, hx648_0, hx648_1⟩ := at_T59 HR1.out x13_1 p648 q648
   cases e648
   replace p648 := eq_true p648
   replace q648 := eq_true q648
   go_wp2
   repeat (go_quiet (fail); try go_wp2)
   go_roundg k1
   case measure => have := HK1.out; omega
   case rel => exact ⟨(wrap64 (x13_1 + 1)), zr, H', ⟨by have := HK1.out; omega⟩, by repeat (first | exact Drawn0.refl _ | apply Drawn0.step)⟩
end Go.Proofs.Ytlnliahadgmbcaa.F
end
section
namespace Go.Proofs.Ytlnliahadgmbcaa.F
open Go.RowKit Go.Proofs.YtlnliahadgmbcaaW.PrintWords Go.Proofs.YtlnliahadgmbcaaW.PrintLast Go.Proofs.YtlnliahadgmbcaaW.PrintMore
attribute [local go_sem] max2_int min2_int max_two min_two max_three min_three max_four min_four
set_option linter.unusedVariables false
set_option linter.unusedSimpArgs false
def impl_corner.l0 : Nat → List (S59) → Int → Int → Int → Int → Option (Int × Int)
 | 0, _, _, _, _, _ => none
 | k + 1, x9, x10, x11, x278000, x278001 => if x11 < x10 then (if 0 ≤ x11 then (if x11 < (x9.length : Int) then (impl_corner.l0 k x9 x10 (wrap64 (x11 + 1)) (mn x278000 ((rd_T59 x9 x11).f0)) (mn x278001 ((rd_T59 x9 x11).f1))) else (none)) else (none)) else (some (x278000, x278001))
def impl_corner.f (k : Nat) (l0 : List (S59)) : Option (Int × Int) := if 0 < (l0.length : Int) then (impl_corner.l0 k l0 (l0.length : Int) 0 ((rd_T59 l0 0).f0) ((rd_T59 l0 0).f1)) else (none)
end Go.Proofs.Ytlnliahadgmbcaa.F
end
