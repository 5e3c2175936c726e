/- The row of FnConvex, with what it needs: text 5 of 9. -/
import Derived.Test.YtfdfdifjkaaeoaaKFC3
set_option maxHeartbeats 8000000
set_option maxRecDepth 100000
section
namespace Go.Proofs.Ytfdfdifjkaaeoaa.F
open Go.RowKit Go.Proofs.YtfdfdifjkaaeoaaW.PrintWords Go.Proofs.YtfdfdifjkaaeoaaW.PrintLast Go.Proofs.YtfdfdifjkaaeoaaW.PrintMore
attribute [local go_sem] max2_int min2_int max_two min_two max_three min_three max_four min_four
set_option linter.unusedVariables false
set_option linter.unusedSimpArgs false
theorem impl_ConvexityOf.calls (k : Nat) (A0 : Option Addr) (c0 : Nat) (l0 : List (S59)) (r1 : Bool) (r2 : Bool) (r3 : Int) (w : World) (hr0 : Kd.C k59 w A0 l0.length l0) (hc0 : l0.length ≤ c0) (h : impl_ConvexityOf.f k l0 = some (r1, r2, r3)) :
  Calls Try.prog 18 #[.slice A0 l0.length c0] w fun e w' => e = .returned (.tuple #[.bool r1, .bool r2, .int .i64 r3]) ∧ Below w.heap.size w w' := by
 have hu59 := Try.underlying59
 have HR0 := aM hr0
 have HC0 := aM hc0
 clear hr0 hc0
 have HB := aM (Below.refl w.heap.size w)
 have H : ((impl_IsShape.f k l0).bind fun t505 => (if t505 = true then (impl_ConvexityOf.l0 k l0 true true l0 (l0.length : Int) 0) else (some (false, false, 1)))) = some (r1, r2, r3) := h
 clear h
 replace H := Option.bind_eq_some_iff.mp H
 obtain ⟨t505, A20, H⟩ := H
 replace H : (if t505 = true then (impl_ConvexityOf.l0 k l0 true true l0 (l0.length : Int) 0) else (some (false, false, 1))) = some (r1, r2, r3) := H
 have A2 := aM A20
 clear A20
 by_cases c3 : t505 = true
 rotate_left
 ·replace c3 := Bool.eq_false_iff.mpr c3
  subst c3
  have H1 : (some (false, false, 1)) = some (r1, r2, r3) := by rw [if_neg (show ¬ (false = true) by decide)] at H; exact H
  clear H
  have H := H1
  clear H1
  simp only [Option.some.injEq, Prod.mk.injEq] at H
  obtain ⟨rfl, rfl, rfl⟩ := H
  go_enter Try.func18, Try.ntmps18
  go_wp2_with (first | ((with_reducible refine gate_callee (f := 61) rfl ?_); refine goesL_ (some 14) rfl rfl Try.func61 (by kernel_rfl) rfl #[.slice A0 l0.length c0] rfl zm ?_; (with_reducible refine (impl_IsShape.calls k _ _ l0 false _ ?side1 ?side2 A2.out).mono ?_); (case side1 => repeat (first | exact HR0.out | (with_reducible refine Kd.C_alloc ?_ _) | (with_reducible refine Kd.C_drewN ?_ _) | (with_reducible refine Kd.C_drew ?_))); (case side2 => exact HC0.out); rintro e w54 ⟨rfl, hb⟩; refine ⟨_, rfl, ?_⟩; have n0_ := aM (below_step zb hb); clear HB; have HB := n0_; clear n0_; (try clear hb); (try clear hb2); (try clear hk); (try clear hi)))
  go_ret3
  exact ⟨zw, zb⟩
 subst c3
 have H1 : (impl_ConvexityOf.l0 k l0 true true l0 (l0.length : Int) 0) = some (r1, r2, r3) := by rw [if_pos rfl] at H; exact H
 clear H
 have H := H1
 clear H1
 have H' := aM H
 clear H
 go_enter Try.func18, Try.ntmps18
 go_wp2_with (first | ((with_reducible refine gate_callee (f := 61) rfl ?_); refine goesL_ (some 14) rfl rfl Try.func61 (by kernel_rfl) rfl #[.slice A0 l0.length c0] rfl zm ?_; (with_reducible refine (impl_IsShape.calls k _ _ l0 true _ ?side1 ?side2 A2.out).mono ?_); (case side1 => repeat (first | exact HR0.out | (with_reducible refine Kd.C_alloc ?_ _) | (with_reducible refine Kd.C_drewN ?_ _) | (with_reducible refine Kd.C_drew ?_))); (case side2 => exact HC0.out); rintro e w4 ⟨rfl, hb⟩; refine ⟨_, rfl, ?_⟩; have n0_ := aM (below_step zb hb); clear HB; have HB := n0_; clear n0_; (try clear hb); (try clear hb2); (try clear hk); (try clear hi)))
 go_loopg [5, 6, 18] k (fun kq v5 v6 v18 w' => ∃ (x5_1 : Bool) (x6_1 : Bool) (x18_1 : Int), v5 = .bool x5_1 ∧ v6 = .bool x6_1 ∧ v18 = .int .i64 x18_1 ∧ Aside0 (impl_ConvexityOf.l0 kq l0 x5_1 x6_1 l0 (l0.length : Int) x18_1 = some (r1, r2, r3)) ∧ Aside0 (kq ≤ k) ∧ Aside0 (Below w.heap.size w w'))
 case atStart => exact ⟨(true), (true), (0), zr, zr, zr, H', ⟨Nat.le_refl _⟩, ⟨zb⟩⟩
 case round =>
  clear H'
  try clear c1
  try clear p2
  try clear c3
  obtain ⟨x5_1, x6_1, x18_1, rfl, rfl, rfl, HA, HK1, HB⟩ := hrel
  cases gk with
  | zero => exact absurd HA.out (by simp [impl_ConvexityOf.l0])
  | succ k1 =>
   have H := HA.out
   clear HA
   simp only [impl_ConvexityOf.l0] at H
   by_cases c5 : x18_1 < (l0.length : Int)
   rotate_left
   ·rw [if_neg c5] at H
    have c5b0 : decide (x18_1 < (l0.length : Int)) = false := decide_eq_false c5
    clear c5
    simp only [Option.some.injEq, Prod.mk.injEq] at H
    obtain ⟨rfl, rfl, rfl⟩ := H
    go_wp2
    go_ret3
    exact ⟨zw, zb⟩
   rw [if_pos c5] at H
   have c5b0 : decide (x18_1 < (l0.length : Int)) = true := decide_eq_true c5
   clear c5
   by_cases c6 : 0 ≤ x18_1
   rotate_left
   ·rw [if_neg c6] at H
    exact absurd H (by simp)
   rw [if_pos c6] at H
   have c6b0 : decide (0 ≤ x18_1) = true := decide_eq_true c6
   clear c6
   by_cases c7 : x18_1 < (l0.length : Int)
   rotate_left
   ·rw [if_neg c7] at H
    exact absurd H (by simp)
   rw [if_pos c7] at H
   have c7b0 : decide (x18_1 < (l0.length : Int)) = true := decide_eq_true c7
   clear c7
   have H' := aM H
   clear H
   have p506 : 0 ≤ (x18_1 : Int) := of_decide_eq_true za
   have q506 : x18_1 < (l0.length : Int) := of_decide_eq_true za
   obtain ⟨ad506, e506, hx506_0, hx506_1⟩ := at_T59 HR0.out x18_1 p506 q506
   cases e506
   replace hx506_0 := zk HB.out hx506_0
   replace hx506_1 := zk HB.out hx506_1
   replace p506 := eq_true p506
   replace q506 := eq_true q506
   go_wp2_with (first | ((with_reducible refine gate_dst (N := 8) rfl ?_); refine zx 8 #[.int .i64 0, .int .i64 0] 59 ?_; intro gb507 hg w8 hbox hb; have n0_ := aM (below_step zb hb); have n1_ := aM (hbox); have n2_ := aM ((ze : w.heap.size ≤ gb507)); have n3_ := aM ((ze : w.heap.size ≤ gb507)); clear HB; have HB := n0_; have BK507 := n1_; have GW507 := n2_; have GE507 := n3_; clear n0_ n1_ n2_ n3_ hb hbox hg; have hcz9_0 : w8.cell? ⟨gb507, 0, none⟩ = some (.int .i64 0) := (blk_cell BK507.out 0).trans rfl; have hcz9_1 : w8.cell? ⟨gb507, 1, none⟩ = some (.int .i64 0) := (blk_cell BK507.out 1).trans rfl; have hfz9_0 := blk_frozen BK507.out 0; have hfz9_1 := blk_frozen BK507.out 1))
   go_loopg [5, 6, 24] k1 (fun kq v5 v6 v24 w' => ∃ (x5_2 : Bool) (x6_2 : Bool) (x24_2 : Int), v5 = .bool x5_2 ∧ v6 = .bool x6_2 ∧ v24 = .int .i64 x24_2 ∧ Aside0 (impl_ConvexityOf.l1 kq l0 x5_2 x6_2 l0 (l0.length : Int) x18_1 l0 (l0.length : Int) x24_2 ((rd_T59 l0 x18_1).f0) ((rd_T59 l0 x18_1).f1) = some (r1, r2, r3)) ∧ Aside0 (kq ≤ k1) ∧ Aside0 (w'.heap[gb507]? = some (.cells #[.int .i64 ((rd_T59 l0 x18_1).f0), .int .i64 ((rd_T59 l0 x18_1).f1)] 59 (0, 0))) ∧ Aside0 (Below w.heap.size w w'))
   case atStart => exact ⟨(x5_1), (x6_1), (0), zr, zr, zr, H', ⟨Nat.le_refl _⟩, ⟨by (with_reducible repeat (first | refine blk_drewN ?_ _ | refine blk_drew ?_ | refine blk_alloc ?_ _)); refine blk_put (cs := #[.int .i64 ((rd_T59 l0 x18_1).f0), .int .i64 0]) ?_ 1 _ rfl; (with_reducible repeat (first | refine blk_drewN ?_ _ | refine blk_drew ?_ | refine blk_alloc ?_ _)); refine blk_put (cs := #[.int .i64 0, .int .i64 0]) ?_ 0 _ rfl; (with_reducible repeat (first | refine blk_drewN ?_ _ | refine blk_drew ?_ | refine blk_alloc ?_ _)); exact BK507.out⟩, ⟨zs GE507.out⟩⟩
   case round =>
    clear H'
    try clear c1
    try clear p2
    try clear c3
    try clear c5
    try clear c5b0
    try clear p5
    try clear q5
    try clear hx5
    try clear c6
    try clear c6b0
    try clear c7
    try clear c7b0
    try clear hcz9_0
    try clear hcz9_1
    try clear hfz9_0
    try clear hfz9_1
    try clear hx506_0
    try clear hx506_1
    try clear p2
    try clear p506
    try clear q506
    obtain ⟨x5_2, x6_2, x24_2, rfl, rfl, rfl, HA, HK2, BK507, HB⟩ := hrel
    cases gk with
    | zero => exact absurd HA.out (by simp [impl_ConvexityOf.l1])
    | succ k2 =>
     have H := HA.out
     clear HA
     simp only [impl_ConvexityOf.l1] at H
     by_cases c10 : x24_2 < (l0.length : Int)
     rotate_left
     ·rw [if_neg c10] at H
      have c10b0 : decide (x24_2 < (l0.length : Int)) = false := decide_eq_false c10
      clear c10
      have H' := aM H
      clear H
      go_wp2
      go_roundg k2
      case measure => have := HK1.out; have := HK2.out; omega
      case rel => exact ⟨(x5_2), (x6_2), (wrap64 (x18_1 + 1)), zr, zr, zr, H', ⟨by have := HK1.out; have := HK2.out; omega⟩, ⟨zs GE507.out⟩⟩
     rw [if_pos c10] at H
     have c10b0 : decide (x24_2 < (l0.length : Int)) = true := decide_eq_true c10
     clear c10
     by_cases c11 : 0 ≤ x24_2
     rotate_left
     ·rw [if_neg c11] at H
      exact absurd H (by simp)
     rw [if_pos c11] at H
     have c11b0 : decide (0 ≤ x24_2) = true := decide_eq_true c11
     clear c11
     by_cases c12 : x24_2 < (l0.length : Int)
     rotate_left
     ·rw [if_neg c12] at H
      exact absurd H (by simp)
     rw [if_pos c12] at H
     have c12b0 : decide (x24_2 < (l0.length : Int)) = true := decide_eq_true c12
     clear c12
     have HC13 := aM H
     clear H
     have p508 : 0 ≤ (x24_2 : Int) := of_decide_eq_true za
     have q508 : x24_2 < (l0.length : Int) := of_decide_eq_true za
     obtain ⟨ad508, e508, hx508_0, hx508_1⟩ := at_T59 HR0.out x24_2 p508 q508
     obtain rfl : ad506 = ad508 := (by injection e508)
     replace hx508_0 := zk HB.out hx508_0
     replace hx508_1 := zk HB.out hx508_1
     replace p508 := eq_true p508
     replace q508 := eq_true q508
     go_upto_block 4 with (first | ((with_reducible refine gate_dst (N := 10) rfl ?_); refine zx 10 #[.int .i64 0, .int .i64 0] 59 ?_; intro gb509 hg w14 hbox hb; have n0_ := aM (blk_below (g := gb507) (o := .cells #[.int .i64 ((rd_T59 l0 x18_1).f0), .int .i64 ((rd_T59 l0 x18_1).f1)] 59 (0, 0)) (mB_ BK507.out) hb); have n1_ := aM (below_step (zs GE507.out) hb); have n2_ := aM (hbox); have n3_ := aM ((zf GE507.out : w.heap.size ≤ gb509)); have n4_ := aM ((zf GE507.out : w.heap.size ≤ gb509)); have n5_ := aM ((zl BK507.out : gb507 ≠ gb509)); have n6_ := aM ((zn BK507.out : gb509 ≠ gb507)); clear BK507 HB; have BK507 := n0_; have HB := n1_; have BK509 := n2_; have GW509 := n3_; have GE509 := n4_; have NB507_509 := n5_; have NB509_507 := n6_; clear n0_ n1_ n2_ n3_ n4_ n5_ n6_ hb hbox hg; have hnb15 := NB509_507.out; have hnc15 := NB507_509.out; have hcz16_0 : w14.cell? ⟨gb509, 0, none⟩ = some (.int .i64 0) := (blk_cell BK509.out 0).trans rfl; have hcz16_1 : w14.cell? ⟨gb509, 1, none⟩ = some (.int .i64 0) := (blk_cell BK509.out 1).trans rfl; have hfz16_0 := blk_frozen BK509.out 0; have hfz16_1 := blk_frozen BK509.out 1; have hcz17_0 : w14.cell? ⟨gb507, 0, none⟩ = some (.int .i64 ((rd_T59 l0 x18_1).f0)) := (blk_cell BK507.out 0).trans rfl; have hcz17_1 : w14.cell? ⟨gb507, 1, none⟩ = some (.int .i64 ((rd_T59 l0 x18_1).f1)) := (blk_cell BK507.out 1).trans rfl; have hfz17_0 := blk_frozen BK507.out 0; have hfz17_1 := blk_frozen BK507.out 1))
     (try simp only [Act.put, xA, xB, xC])
     go_cut [5] (fun v5 wc => ∃ (kq : Nat) (x5_12 : Bool), v5 = .bool x5_12 ∧ Aside0 (impl_ConvexityOf.j3 kq l0 x5_12 x6_2 l0 (l0.length : Int) x18_1 l0 (l0.length : Int) x24_2 ((rd_T59 l0 x18_1).f0) ((rd_T59 l0 x18_1).f1) ((rd_T59 l0 x24_2).f0) ((rd_T59 l0 x24_2).f1) = some (r1, r2, r3)) ∧ Aside0 (kq ≤ k2) ∧ Aside0 (wc.heap[gb507]? = some (.cells #[.int .i64 ((rd_T59 l0 x18_1).f0), .int .i64 ((rd_T59 l0 x18_1).f1)] 59 (0, 0))) ∧ Aside0 (wc.heap[gb509]? = some (.cells #[.int .i64 ((rd_T59 l0 x24_2).f0), .int .i64 ((rd_T59 l0 x24_2).f1)] 59 (0, 0))) ∧ Aside0 (Below w.heap.size w wc))
     case first =>
      have H := HC13.out
      clear HC13
      have H' := aM H
      clear H
      go_wp2
      go_loopg [5, 11] k2 (fun kq v5 v11 w' => ∃ (x5_3 : Bool) (x11_3 : Int), v5 = .bool x5_3 ∧ v11 = .int .i64 x11_3 ∧ Aside0 (impl_ConvexityOf.l2 kq l0 x5_3 x6_2 x11_3 l0 (l0.length : Int) x18_1 l0 (l0.length : Int) x24_2 ((rd_T59 l0 x18_1).f0) ((rd_T59 l0 x18_1).f1) ((rd_T59 l0 x24_2).f0) ((rd_T59 l0 x24_2).f1) = some (r1, r2, r3)) ∧ Aside0 (kq ≤ k2) ∧ Aside0 (w'.heap[gb507]? = some (.cells #[.int .i64 ((rd_T59 l0 x18_1).f0), .int .i64 ((rd_T59 l0 x18_1).f1)] 59 (0, 0))) ∧ Aside0 (w'.heap[gb509]? = some (.cells #[.int .i64 ((rd_T59 l0 x24_2).f0), .int .i64 ((rd_T59 l0 x24_2).f1)] 59 (0, 0))) ∧ Aside0 (Below w.heap.size w w'))
      case atStart => exact ⟨(x5_2), (wrap64 (((rd_T59 l0 x18_1).f0) + 1)), zr, zr, H', ⟨Nat.le_refl _⟩, ⟨by (with_reducible repeat (first | refine blk_drewN ?_ _ | refine blk_drew ?_ | refine blk_alloc ?_ _)); refine blk_far ?_ NB507_509.out _; (with_reducible repeat (first | refine blk_drewN ?_ _ | refine blk_drew ?_ | refine blk_alloc ?_ _)); refine blk_far ?_ NB507_509.out _; (with_reducible repeat (first | refine blk_drewN ?_ _ | refine blk_drew ?_ | refine blk_alloc ?_ _)); exact BK507.out⟩, ⟨by (with_reducible repeat (first | refine blk_drewN ?_ _ | refine blk_drew ?_ | refine blk_alloc ?_ _)); refine blk_put (cs := #[.int .i64 ((rd_T59 l0 x24_2).f0), .int .i64 0]) ?_ 1 _ rfl; (with_reducible repeat (first | refine blk_drewN ?_ _ | refine blk_drew ?_ | refine blk_alloc ?_ _)); refine blk_put (cs := #[.int .i64 0, .int .i64 0]) ?_ 0 _ rfl; (with_reducible repeat (first | refine blk_drewN ?_ _ | refine blk_drew ?_ | refine blk_alloc ?_ _)); exact BK509.out⟩, ⟨zt GE507.out GE509.out⟩⟩
      case round =>
       clear H'
       try clear c1
       try clear p2
       try clear c3
       try clear c5
       try clear c5b0
       try clear p5
       try clear q5
       try clear hx5
       try clear c6
       try clear c6b0
       try clear p6
       try clear c7
       try clear c7b0
       try clear c10
       try clear c10b0
       try clear c11
       try clear c11b0
       try clear c12
       try clear c12b0
       try clear c15
       try clear hcz16_0
       try clear hcz16_1
       try clear hcz17_0
       try clear hcz17_1
       try clear hcz9_0
       try clear hcz9_1
       try clear hfz16_0
       try clear hfz16_1
       try clear hfz17_0
       try clear hfz17_1
       try clear hfz9_0
       try clear hfz9_1
       try clear hx506_0
       try clear hx506_1
       try clear hx508_0
       try clear hx508_1
       try clear p2
       try clear p5
       try clear p506
       try clear p508
       try clear q5
       try clear q506
       try clear q508
       obtain ⟨x5_3, x11_3, rfl, rfl, HA, HK3, BK507, BK509, HB⟩ := hrel
       cases gk with
       | zero => exact absurd HA.out (by simp [impl_ConvexityOf.l2])
       | succ k3 =>
        have H := HA.out
        clear HA
        simp only [impl_ConvexityOf.l2] at H
        by_cases c18 : ((rd_T59 l0 x18_1).f1) = ((rd_T59 l0 x24_2).f1)
        rotate_left
        ·rw [if_neg c18] at H
         have c18b0 : (((rd_T59 l0 x18_1).f1) == ((rd_T59 l0 x24_2).f1)) = false := beq_eq_false_iff_ne.mpr c18
         have c18b1 : (((rd_T59 l0 x18_1).f1) != ((rd_T59 l0 x24_2).f1)) = true := bne_iff_ne.mpr c18
         (first | rw [c18b0] | (simp only [i64_w, i32_w]; rw [c18b0]) | skip)
         have H' := aM H
         clear H
         have hnb32 := NB507_509.out
         have hnc32 := NB509_507.out
         have hcz33_0 : wr.cell? ⟨gb507, 0, none⟩ = some (.int .i64 ((rd_T59 l0 x18_1).f0)) := (blk_cell BK507.out 0).trans rfl
         have hcz33_1 : wr.cell? ⟨gb507, 1, none⟩ = some (.int .i64 ((rd_T59 l0 x18_1).f1)) := (blk_cell BK507.out 1).trans rfl
         have hfz33_0 := blk_frozen BK507.out 0
         have hfz33_1 := blk_frozen BK507.out 1
         have hcz34_0 : wr.cell? ⟨gb509, 0, none⟩ = some (.int .i64 ((rd_T59 l0 x24_2).f0)) := (blk_cell BK509.out 0).trans rfl
         have hcz34_1 : wr.cell? ⟨gb509, 1, none⟩ = some (.int .i64 ((rd_T59 l0 x24_2).f1)) := (blk_cell BK509.out 1).trans rfl
         have hfz34_0 := blk_frozen BK509.out 0
         have hfz34_1 := blk_frozen BK509.out 1
         go_wp2
         go_meet
         case rel => exact ⟨_, (x5_3), zr, H', ⟨by have := HK1.out; have := HK2.out; have := HK3.out; first | omega | exact Nat.le_refl _⟩, ⟨mB_ BK507.out⟩, ⟨mB_ BK509.out⟩, ⟨zt GE507.out GE509.out⟩⟩
        rw [if_pos c18] at H
        have c18b0 : (((rd_T59 l0 x18_1).f1) == ((rd_T59 l0 x24_2).f1)) = true := beq_iff_eq.mpr c18
        have c18b1 : (((rd_T59 l0 x18_1).f1) != ((rd_T59 l0 x24_2).f1)) = false := bne_eq_false_iff_eq.mpr c18
        clear c18
        (first | rw [c18b0] | (simp only [i64_w, i32_w]; rw [c18b0]) | skip)
        by_cases c19 : x11_3 < ((rd_T59 l0 x24_2).f0)
        rotate_left
        ·rw [if_neg c19] at H
         have c19b0 : decide (x11_3 < ((rd_T59 l0 x24_2).f0)) = false := decide_eq_false c19
         clear c19
         have H' := aM H
         clear H
         have hnb29 := NB507_509.out
         have hnc29 := NB509_507.out
         have hcz30_0 : wr.cell? ⟨gb507, 0, none⟩ = some (.int .i64 ((rd_T59 l0 x18_1).f0)) := (blk_cell BK507.out 0).trans rfl
         have hcz30_1 : wr.cell? ⟨gb507, 1, none⟩ = some (.int .i64 ((rd_T59 l0 x18_1).f1)) := (blk_cell BK507.out 1).trans rfl
         have hfz30_0 := blk_frozen BK507.out 0
         have hfz30_1 := blk_frozen BK507.out 1
         have hcz31_0 : wr.cell? ⟨gb509, 0, none⟩ = some (.int .i64 ((rd_T59 l0 x24_2).f0)) := (blk_cell BK509.out 0).trans rfl
         have hcz31_1 : wr.cell? ⟨gb509, 1, none⟩ = some (.int .i64 ((rd_T59 l0 x24_2).f1)) := (blk_cell BK509.out 1).trans rfl
         have hfz31_0 := blk_frozen BK509.out 0
         have hfz31_1 := blk_frozen BK509.out 1
         go_wp2
         go_meet
         case rel => exact ⟨_, (x5_3), zr, H', ⟨by have := HK1.out; have := HK2.out; have := HK3.out; first | omega | exact Nat.le_refl _⟩, ⟨mB_ BK507.out⟩, ⟨mB_ BK509.out⟩, ⟨zt GE507.out GE509.out⟩⟩
        rw [if_pos c19] at H
        have c19b0 : decide (x11_3 < ((rd_T59 l0 x24_2).f0)) = true := decide_eq_true c19
        clear c19
        by_cases c20 : x5_3 = true
        rotate_left
        ·replace c20 := Bool.eq_false_iff.mpr c20
         subst c20
         have H1 : (impl_ConvexityOf.l2 k3 l0 false x6_2 (wrap64 (x11_3 + 1)) l0 (l0.length : Int) x18_1 l0 (l0.length : Int) x24_2 ((rd_T59 l0 x18_1).f0) ((rd_T59 l0 x18_1).f1) ((rd_T59 l0 x24_2).f0) ((rd_T59 l0 x24_2).f1)) = some (r1, r2, r3) := by rw [if_neg (show ¬ (false = true) by decide)] at H; exact H
         clear H
         have H := H1
         clear H1
         have H' := aM H
         clear H
         have hnb26 := NB507_509.out
         have hnc26 := NB509_507.out
         have hcz27_0 : wr.cell? ⟨gb507, 0, none⟩ = some (.int .i64 ((rd_T59 l0 x18_1).f0)) := (blk_cell BK507.out 0).trans rfl
         have hcz27_1 : wr.cell? ⟨gb507, 1, none⟩ = some (.int .i64 ((rd_T59 l0 x18_1).f1)) := (blk_cell BK507.out 1).trans rfl
         have hfz27_0 := blk_frozen BK507.out 0
         have hfz27_1 := blk_frozen BK507.out 1
         have hcz28_0 : wr.cell? ⟨gb509, 0, none⟩ = some (.int .i64 ((rd_T59 l0 x24_2).f0)) := (blk_cell BK509.out 0).trans rfl
         have hcz28_1 : wr.cell? ⟨gb509, 1, none⟩ = some (.int .i64 ((rd_T59 l0 x24_2).f1)) := (blk_cell BK509.out 1).trans rfl
         have hfz28_0 := blk_frozen BK509.out 0
         have hfz28_1 := blk_frozen BK509.out 1
         go_wp2
         go_roundg k3
         case measure => have := HK1.out; have := HK2.out; have := HK3.out; omega
         case rel => exact ⟨(false), (wrap64 (x11_3 + 1)), zr, zr, H', ⟨by have := HK1.out; have := HK2.out; have := HK3.out; omega⟩, ⟨mB_ BK507.out⟩, ⟨mB_ BK509.out⟩, ⟨zt GE507.out GE509.out⟩⟩
        subst c20
        have H1 : ((impl_Cell_65.f k3 l0 x11_3 ((rd_T59 l0 x18_1).f1)).bind fun t510 => (impl_ConvexityOf.l2 k3 l0 t510 x6_2 (wrap64 (x11_3 + 1)) l0 (l0.length : Int) x18_1 l0 (l0.length : Int) x24_2 ((rd_T59 l0 x18_1).f0) ((rd_T59 l0 x18_1).f1) ((rd_T59 l0 x24_2).f0) ((rd_T59 l0 x24_2).f1))) = some (r1, r2, r3) := by rw [if_pos rfl] at H; exact H
        clear H
        have H := H1
        clear H1
        replace H := Option.bind_eq_some_iff.mp H
        obtain ⟨t510, A210, H⟩ := H
        replace H : (impl_ConvexityOf.l2 k3 l0 t510 x6_2 (wrap64 (x11_3 + 1)) l0 (l0.length : Int) x18_1 l0 (l0.length : Int) x24_2 ((rd_T59 l0 x18_1).f0) ((rd_T59 l0 x18_1).f1) ((rd_T59 l0 x24_2).f0) ((rd_T59 l0 x24_2).f1)) = some (r1, r2, r3) := H
        have A21 := aM A210
        clear A210
        have H' := aM H
        clear H
        have hnb22 := NB507_509.out
        have hnc22 := NB509_507.out
        have hcz23_0 : wr.cell? ⟨gb507, 0, none⟩ = some (.int .i64 ((rd_T59 l0 x18_1).f0)) := (blk_cell BK507.out 0).trans rfl
        have hcz23_1 : wr.cell? ⟨gb507, 1, none⟩ = some (.int .i64 ((rd_T59 l0 x18_1).f1)) := (blk_cell BK507.out 1).trans rfl
        have hfz23_0 := blk_frozen BK507.out 0
        have hfz23_1 := blk_frozen BK507.out 1
        have hcz24_0 : wr.cell? ⟨gb509, 0, none⟩ = some (.int .i64 ((rd_T59 l0 x24_2).f0)) := (blk_cell BK509.out 0).trans rfl
        have hcz24_1 : wr.cell? ⟨gb509, 1, none⟩ = some (.int .i64 ((rd_T59 l0 x24_2).f1)) := (blk_cell BK509.out 1).trans rfl
        have hfz24_0 := blk_frozen BK509.out 0
        have hfz24_1 := blk_frozen BK509.out 1
        go_wp2_with (first | (go_at_call 65; (with_reducible refine (impl_Cell_65.calls k3 _ _ l0 x11_3 ((rd_T59 l0 x18_1).f1) t510 _ ?side1 ?side2 A21.out).mono ?_); (case side1 => repeat (first | exact (Kd.C_below HR0.out HB.out) | (with_reducible refine Kd.C_alloc ?_ _) | (with_reducible refine Kd.C_drewN ?_ _) | (with_reducible refine Kd.C_drew ?_))); (case side2 => exact HC0.out); rintro e w25 ⟨rfl, hb⟩; have n0_ := aM (blk_below (g := gb507) (o := .cells #[.int .i64 ((rd_T59 l0 x18_1).f0), .int .i64 ((rd_T59 l0 x18_1).f1)] 59 (0, 0)) (mB_ BK507.out) hb); have n1_ := aM (blk_below (g := gb509) (o := .cells #[.int .i64 ((rd_T59 l0 x24_2).f0), .int .i64 ((rd_T59 l0 x24_2).f1)] 59 (0, 0)) (mB_ BK509.out) hb); have n2_ := aM (below_step (zt GE507.out GE509.out) hb); clear BK507 BK509 HB; have BK507 := n0_; have BK509 := n1_; have HB := n2_; clear n0_ n1_ n2_; (try clear hb); (try clear hb2); (try clear hk); (try clear hi)))
        go_roundg k3
        case measure => have := HK1.out; have := HK2.out; have := HK3.out; omega
        case rel => exact ⟨(t510), (wrap64 (x11_3 + 1)), zr, zr, H', ⟨by have := HK1.out; have := HK2.out; have := HK3.out; omega⟩, ⟨mB_ BK507.out⟩, ⟨mB_ BK509.out⟩, ⟨zt GE507.out GE509.out⟩⟩
     case rest =>
      clear HC13
      try clear c1
      try clear c2
      try clear p2
      try clear c3
      try clear c5
      try clear c5b0
      try clear p5
      try clear q5
      try clear hx5
      try clear c6
      try clear c6b0
      try clear p6
      try clear c7
      try clear c7b0
      try clear c10
      try clear c10b0
      try clear c11
      try clear c11b0
      try clear c12
      try clear c12b0
      try clear c15
      try clear c18
      try clear c18b0
      try clear c18b1
      try clear c19
      try clear c19b0
      try clear c20
      try clear c22
      try clear c26
      try clear c29
      try clear c32
      try clear hcz16_0
      try clear hcz16_1
      try clear hcz17_0
      try clear hcz17_1
      try clear hcz23_0
      try clear hcz23_1
      try clear hcz24_0
      try clear hcz24_1
      try clear hcz27_0
      try clear hcz27_1
      try clear hcz28_0
      try clear hcz28_1
      try clear hcz30_0
      try clear hcz30_1
      try clear hcz31_0
      try clear hcz31_1
      try clear hcz33_0
      try clear hcz33_1
      try clear hcz34_0
      try clear hcz34_1
      try clear hcz9_0
      try clear hcz9_1
      try clear hfz16_0
      try clear hfz16_1
      try clear hfz17_0
      try clear hfz17_1
      try clear hfz23_0
      try clear hfz23_1
      try clear hfz24_0
      try clear hfz24_1
      try clear hfz27_0
      try clear hfz27_1
      try clear hfz28_0
      try clear hfz28_1
      try clear hfz30_0
      try clear hfz30_1
      try clear hfz31_0
      try clear hfz31_1
      try clear hfz33_0
      try clear hfz33_1
      try clear hfz34_0
      try clear hfz34_1
      try clear hfz9_0
      try clear hfz9_1
      try clear hx506_0
      try clear hx506_1
      try clear hx508_0
      try clear hx508_1
      try clear p2
      try clear p5
      try clear p506
      try clear p508
      try clear p6
      try clear q5
      try clear q506
      try clear q508
      obtain ⟨kq, x5_12, rfl, HA, HJ12, BK507, BK509, HB⟩ := hcut
      cases kq with
      | zero => exact absurd HA.out (by simp [impl_ConvexityOf.j3])
      | succ kj12 =>
       have H := HA.out
       clear HA
       simp only [impl_ConvexityOf.j3] at H
       have H' := aM H
       clear H
       have hnb35 := NB507_509.out
       have hnc35 := NB509_507.out
       have hcz36_0 : wc.cell? ⟨gb507, 0, none⟩ = some (.int .i64 ((rd_T59 l0 x18_1).f0)) := (blk_cell BK507.out 0).trans rfl
       have hcz36_1 : wc.cell? ⟨gb507, 1, none⟩ = some (.int .i64 ((rd_T59 l0 x18_1).f1)) := (blk_cell BK507.out 1).trans rfl
       have hfz36_0 := blk_frozen BK507.out 0
       have hfz36_1 := blk_frozen BK507.out 1
       go_wp2
       go_loopg [6, 12] kj12 (fun kq v6 v12 w' => ∃ (x6_4 : Bool) (x12_4 : Int), v6 = .bool x6_4 ∧ v12 = .int .i64 x12_4 ∧ Aside0 (impl_ConvexityOf.l3 kq l0 x5_12 x6_4 x12_4 l0 (l0.length : Int) x18_1 l0 (l0.length : Int) x24_2 ((rd_T59 l0 x18_1).f0) ((rd_T59 l0 x18_1).f1) ((rd_T59 l0 x24_2).f0) ((rd_T59 l0 x24_2).f1) = some (r1, r2, r3)) ∧ Aside0 (kq ≤ kj12) ∧ Aside0 (w'.heap[gb507]? = some (.cells #[.int .i64 ((rd_T59 l0 x18_1).f0), .int .i64 ((rd_T59 l0 x18_1).f1)] 59 (0, 0))) ∧ Aside0 (w'.heap[gb509]? = some (.cells #[.int .i64 ((rd_T59 l0 x24_2).f0), .int .i64 ((rd_T59 l0 x24_2).f1)] 59 (0, 0))) ∧ Aside0 (Below w.heap.size w w'))
       case atStart => exact ⟨(x6_2), (wrap64 (((rd_T59 l0 x18_1).f1) + 1)), zr, zr, H', ⟨Nat.le_refl _⟩, ⟨mB_ BK507.out⟩, ⟨mB_ BK509.out⟩, ⟨zt GE507.out GE509.out⟩⟩
       case round =>
        clear H'
        try clear c1
        try clear c2
        try clear p2
        try clear c3
        try clear c5
        try clear c5b0
        try clear p5
        try clear q5
        try clear hx5
        try clear c6
        try clear c6b0
        try clear p6
        try clear c7
        try clear c7b0
        try clear c10
        try clear c10b0
        try clear c11
        try clear c11b0
        try clear c12
        try clear c12b0
        try clear c15
        try clear c18
        try clear c18b0
        try clear c18b1
        try clear c19
        try clear c19b0
        try clear c20
        try clear c22
        try clear c26
        try clear c29
        try clear c32
        try clear c35
        try clear hcz16_0
        try clear hcz16_1
        try clear hcz17_0
        try clear hcz17_1
        try clear hcz23_0
        try clear hcz23_1
        try clear hcz24_0
        try clear hcz24_1
        try clear hcz27_0
        try clear hcz27_1
        try clear hcz28_0
        try clear hcz28_1
        try clear hcz30_0
        try clear hcz30_1
        try clear hcz31_0
        try clear hcz31_1
        try clear hcz33_0
        try clear hcz33_1
        try clear hcz34_0
        try clear hcz34_1
        try clear hcz36_0
        try clear hcz36_1
        try clear hcz9_0
        try clear hcz9_1
        try clear hfz16_0
        try clear hfz16_1
        try clear hfz17_0
        try clear hfz17_1
        try clear hfz23_0
        try clear hfz23_1
        try clear hfz24_0
        try clear hfz24_1
        try clear hfz27_0
        try clear hfz27_1
        try clear hfz28_0
        try clear hfz28_1
        try clear hfz30_0
        try clear hfz30_1
        try clear hfz31_0
        try clear hfz31_1
        try clear hfz33_0
        try clear hfz33_1
        try clear hfz34_0
        try clear hfz34_1
        try clear hfz36_0
        try clear hfz36_1
        try clear hfz9_0
        try clear hfz9_1
        try clear hx506_0
        try clear hx506_1
        try clear hx508_0
        try clear hx508_1
        try clear p2
        try clear p5
        try clear p506
        try clear p508
        try clear p6
        try clear q5
        try clear q506
        try clear q508
        obtain ⟨x6_4, x12_4, rfl, rfl, HA, HK4, BK507, BK509, HB⟩ := hrel
        cases gk with
        | zero => exact absurd HA.out (by simp [impl_ConvexityOf.l3])
        | succ k4 =>
         have H := HA.out
         clear HA
         simp only [impl_ConvexityOf.l3] at H
         by_cases c37 : ((rd_T59 l0 x18_1).f0) = ((rd_T59 l0 x24_2).f0)
         rotate_left
         ·rw [if_neg c37] at H
          have c37b0 : (((rd_T59 l0 x18_1).f0) == ((rd_T59 l0 x24_2).f0)) = false := beq_eq_false_iff_ne.mpr c37
          have c37b1 : (((rd_T59 l0 x18_1).f0) != ((rd_T59 l0 x24_2).f0)) = true := bne_iff_ne.mpr c37
          have H' := aM H
          clear H
          have hnb51 := NB507_509.out
          have hnc51 := NB509_507.out
          have hcz52_0 : wr.cell? ⟨gb507, 0, none⟩ = some (.int .i64 ((rd_T59 l0 x18_1).f0)) := (blk_cell BK507.out 0).trans rfl
          have hcz52_1 : wr.cell? ⟨gb507, 1, none⟩ = some (.int .i64 ((rd_T59 l0 x18_1).f1)) := (blk_cell BK507.out 1).trans rfl
          have hfz52_0 := blk_frozen BK507.out 0
          have hfz52_1 := blk_frozen BK507.out 1
          have hcz53_0 : wr.cell? ⟨gb509, 0, none⟩ = some (.int .i64 ((rd_T59 l0 x24_2).f0)) := (blk_cell BK509.out 0).trans rfl
          have hcz53_1 : wr.cell? ⟨gb509, 1, none⟩ = some (.int .i64 ((rd_T59 l0 x24_2).f1)) := (blk_cell BK509.out 1).trans rfl
          have hfz53_0 := blk_frozen BK509.out 0
          have hfz53_1 := blk_frozen BK509.out 1
          go_wp2
          go_roundg k4
          case measure => have := HK1.out; have := HK2.out; have := HJ12.out; have := HK4.out; omega
          case rel => exact ⟨(x5_12), (x6_4), (wrap64 (x24_2 + 1)), zr, zr, zr, H', ⟨by have := HK1.out; have := HK2.out; have := HJ12.out; have := HK4.out; omega⟩, ⟨mB_ BK507.out⟩, ⟨zt GE507.out GE509.out⟩⟩
         rw [if_pos c37] at H
         have c37b0 : (((rd_T59 l0 x18_1).f0) == ((rd_T59 l0 x24_2).f0)) = true := beq_iff_eq.mpr c37
         have c37b1 : (((rd_T59 l0 x18_1).f0) != ((rd_T59 l0 x24_2).f0)) = false := bne_eq_false_iff_eq.mpr c37
         clear c37
         by_cases c38 : x12_4 < ((rd_T59 l0 x24_2).f1)
         rotate_left
         ·rw [if_neg c38] at H
          have c38b0 : decide (x12_4 < ((rd_T59 l0 x24_2).f1)) = false := decide_eq_false c38
          clear c38
          have H' := aM H
          clear H
          have hnb48 := NB507_509.out
          have hnc48 := NB509_507.out
          have hcz49_0 : wr.cell? ⟨gb507, 0, none⟩ = some (.int .i64 ((rd_T59 l0 x18_1).f0)) := (blk_cell BK507.out 0).trans rfl
          have hcz49_1 : wr.cell? ⟨gb507, 1, none⟩ = some (.int .i64 ((rd_T59 l0 x18_1).f1)) := (blk_cell BK507.out 1).trans rfl
          have hfz49_0 := blk_frozen BK507.out 0
          have hfz49_1 := blk_frozen BK507.out 1
          have hcz50_0 : wr.cell? ⟨gb509, 0, none⟩ = some (.int .i64 ((rd_T59 l0 x24_2).f0)) := (blk_cell BK509.out 0).trans rfl
          have hcz50_1 : wr.cell? ⟨gb509, 1, none⟩ = some (.int .i64 ((rd_T59 l0 x24_2).f1)) := (blk_cell BK509.out 1).trans rfl
          have hfz50_0 := blk_frozen BK509.out 0
          have hfz50_1 := blk_frozen BK509.out 1
          go_wp2
          go_roundg k4
          case measure => have := HK1.out; have := HK2.out; have := HJ12.out; have := HK4.out; omega
          case rel => exact ⟨(x5_12), (x6_4), (wrap64 (x24_2 + 1)), zr, zr, zr, H', ⟨by have := HK1.out; have := HK2.out; have := HJ12.out; have := HK4.out; omega⟩, ⟨mB_ BK507.out⟩, ⟨zt GE507.out GE509.out⟩⟩
         rw [if_pos c38] at H
         have c38b0 : decide (x12_4 < ((rd_T59 l0 x24_2).f1)) = true := decide_eq_true c38
         clear c38
         by_cases c39 : x6_4 = true
         rotate_left
         ·replace c39 := Bool.eq_false_iff.mpr c39
          subst c39
          have H1 : (impl_ConvexityOf.l3 k4 l0 x5_12 false (wrap64 (x12_4 + 1)) l0 (l0.length : Int) x18_1 l0 (l0.length : Int) x24_2 ((rd_T59 l0 x18_1).f0) ((rd_T59 l0 x18_1).f1) ((rd_T59 l0 x24_2).f0) ((rd_T59 l0 x24_2).f1)) = some (r1, r2, r3) := by rw [if_neg (show ¬ (false = true) by decide)] at H; exact H
          clear H
          have H := H1
          clear H1
          have H' := aM H
          clear H
          have hnb45 := NB507_509.out
          have hnc45 := NB509_507.out
          have hcz46_0 : wr.cell? ⟨gb507, 0, none⟩ = some (.int .i64 ((rd_T59 l0 x18_1).f0)) := (blk_cell BK507.out 0).trans rfl
          have hcz46_1 : wr.cell? ⟨gb507, 1, none⟩ = some (.int .i64 ((rd_T59 l0 x18_1).f1)) := (blk_cell BK507.out 1).trans rfl
          have hfz46_0 := blk_frozen BK507.out 0
          have hfz46_1 := blk_frozen BK507.out 1
          have hcz47_0 : wr.cell? ⟨gb509, 0, none⟩ = some (.int .i64 ((rd_T59 l0 x24_2).f0)) := (blk_cell BK509.out 0).trans rfl
          have hcz47_1 : wr.cell? ⟨gb509, 1, none⟩ = some (.int .i64 ((rd_T59 l0 x24_2).f1)) := (blk_cell BK509.out 1).trans rfl
          have hfz47_0 := blk_frozen BK509.out 0
          have hfz47_1 := blk_frozen BK509.out 1
          go_wp2
          go_roundg k4
          case measure => have := HK1.out; have := HK2.out; have := HJ12.out; have := HK4.out; omega
          case rel => exact ⟨(false), (wrap64 (x12_4 + 1)), zr, zr, H', ⟨by have := HK1.out; have := HK2.out; have := HJ12.out; have := HK4.out; omega⟩, ⟨mB_ BK507.out⟩, ⟨mB_ BK509.out⟩, ⟨zt GE507.out GE509.out⟩⟩
         subst c39
         have H1 : ((impl_Cell_65.f k4 l0 ((rd_T59 l0 x18_1).f0) x12_4).bind fun t511 => (impl_ConvexityOf.l3 k4 l0 x5_12 t511 (wrap64 (x12_4 + 1)) l0 (l0.length : Int) x18_1 l0 (l0.length : Int) x24_2 ((rd_T59 l0 x18_1).f0) ((rd_T59 l0 x18_1).f1) ((rd_T59 l0 x24_2).f0) ((rd_T59 l0 x24_2).f1))) = some (r1, r2, r3) := by rw [if_pos rfl] at H; exact H
         clear H
         have H := H1
         clear H1
         replace H := Option.bind_eq_some_iff.mp H
         obtain ⟨t511, A400, H⟩ := H
         replace H : (impl_ConvexityOf.l3 k4 l0 x5_12 t511 (wrap64 (x12_4 + 1)) l0 (l0.length : Int) x18_1 l0 (l0.length : Int) x24_2 ((rd_T59 l0 x18_1).f0) ((rd_T59 l0 x18_1).f1) ((rd_T59 l0 x24_2).f0) ((rd_T59 l0 x24_2).f1)) = some (r1, r2, r3) := H
         have A40 := aM A400
         clear A400
         have H' := aM H
         clear H
         have hnb41 := NB507_509.out
         have hnc41 := NB509_507.out
         have hcz42_0 : wr.cell? ⟨gb507, 0, none⟩ = some (.int .i64 ((rd_T59 l0 x18_1).f0)) := (blk_cell BK507.out 0).trans rfl
         have hcz42_1 : wr.cell? ⟨gb507, 1, none⟩ = some (.int .i64 ((rd_T59 l0 x18_1).f1)) := (blk_cell BK507.out 1).trans rfl
         have hfz42_0 := blk_frozen BK507.out 0
         have hfz42_1 := blk_frozen BK507.out 1
         have hcz43_0 : wr.cell? ⟨gb509, 0, none⟩ = some (.int .i64 ((rd_T59 l0 x24_2).f0)) := (blk_cell BK509.out 0).trans rfl
         have hcz43_1 : wr.cell? ⟨gb509, 1, none⟩ = some (.int .i64 ((rd_T59 l0 x24_2).f1)) := (blk_cell BK509.out 1).trans rfl
         have hfz43_0 := blk_frozen BK509.out 0
         have hfz43_1 := blk_frozen BK509.out 1
         go_wp2_with (first | (go_at_call 65; (with_reducible refine (impl_Cell_65.calls k4 _ _ l0 ((rd_T59 l0 x18_1).f0) x12_4 t511 _ ?side1 ?side2 A40.out).mono ?_); (case side1 => repeat (first | exact (Kd.C_below HR0.out HB.out) | (with_reducible refine Kd.C_alloc ?_ _) | (with_reducible refine Kd.C_drewN ?_ _) | (with_reducible refine Kd.C_drew ?_))); (case side2 => exact HC0.out); rintro e w44 ⟨rfl, hb⟩; have n0_ := aM (blk_below (g := gb507) (o := .cells #[.int .i64 ((rd_T59 l0 x18_1).f0), .int .i64 ((rd_T59 l0 x18_1).f1)] 59 (0, 0)) (mB_ BK507.out) hb); have n1_ := aM (blk_below (g := gb509) (o := .cells #[.int .i64 ((rd_T59 l0 x24_2).f0), .int .i64 ((rd_T59 l0 x24_2).f1)] 59 (0, 0)) (mB_ BK509.out) hb); have n2_ := aM (below_step (zt GE507.out GE509.out) hb); clear BK507 BK509 HB; have BK507 := n0_; have BK509 := n1_; have HB := n2_; clear n0_ n1_ n2_; (try clear hb); (try clear hb2); (try clear hk); (try clear hi)))
         go_roundg k4
         case measure => have := HK1.out; have := HK2.out; have := HJ12.out; have := HK4.out; omega
         case rel => exact ⟨(t511), (wrap64 (x12_4 + 1)), zr, zr, H', ⟨by have := HK1.out; have := HK2.out; have := HJ12.out; have := HK4.out; omega⟩, ⟨mB_ BK507.out⟩, ⟨mB_ BK509.out⟩, ⟨zt GE507.out GE509.out⟩⟩
def spec_IsShape.l0 : Nat → List (S59) → Int → Option (Bool)
 | 0, _, _ => none
 | k + 1, x0, x3 => if x3 < (x0.length : Int) then (if 0 ≤ x3 then ((spec_l02Cell.f ((rd_T59 x0 x3).f0) ((rd_T59 x0 x3).f1)).bind fun t108 => (if t108 = true then (if x3 > 0 then (if 0 ≤ (wrap64 (x3 - 1)) then (if (wrap64 (x3 - 1)) < (x0.length : Int) then ((spec_l02Less.f ((rd_T59 x0 (wrap64 (x3 - 1))).f0) ((rd_T59 x0 (wrap64 (x3 - 1))).f1) ((rd_T59 x0 x3).f0) ((rd_T59 x0 x3).f1)).bind fun t111 => (if t111 = true then (spec_IsShape.l0 k x0 (wrap64 (x3 + 1))) else (some false))) else (none)) else (none)) else (spec_IsShape.l0 k x0 (wrap64 (x3 + 1)))) else (some false))) else (none)) else ((spec_l01In.f (x0.length : Int) 1 40).bind fun t106 => (some t106))
def spec_IsShape.f (k : Nat) (l0 : List (S59)) : Option (Bool) := spec_IsShape.l0 k l0 0
def spec_IsShape.T4 : Bool × List (List Nat × List Nat) := (true, [([], []), ([], []), ([0, 1], [0, 1]), ([2], [2]), ([3], [3]), ([4], [4]), ([5, 4], [5]), ([6], [6]), ([7, 6], [6, 7]), ([8, 6, 6], [6, 8]), ([9], [9]), ([9], [9]), ([11, 9], [9, 11]), ([10, 12, 9], [9, 10, 12]), ([13, 9], [9, 13]), ([9], [9]), ([9], [9]), ([15, 16, 9], [9, 15, 16]), ([17, 9], [9, 17]), ([14, 18, 9, 9], [9, 14, 18]), ([19, 9], [9, 19]), ([9, 20, 6], [6, 9, 20]), ([6, 21], [6, 21])])
def spec_IsShape.B4 : List Nat := [0, 0, 3, 7, 15, 31, 63, 127, 255, 511, 1023, 1023, 3071, 8191, 16383, 1023, 1023, 99327, 230399, 524287, 1048575, 2097151, 4194303]
theorem spec_IsShape.tab4 : rtab .any (opsOf Try.f66 4) = spec_IsShape.T4 := by kernel_rfl
theorem spec_IsShape.bits4 : waitsOk spec_IsShape.T4.2 spec_IsShape.B4 = true := by kernel_rfl
theorem spec_IsShape.calls (k : Nat) (A0 : Option Addr) (c0 : Nat) (l0 : List (S59)) (r : Bool) (w : World) (hr0 : Kd.C k59 w A0 l0.length l0) (hc0 : l0.length ≤ c0) (h : spec_IsShape.f k l0 = some r) :
  Calls Try.prog 66 #[.slice A0 l0.length c0] w fun e w' => e = .returned (.bool r) ∧ Below w.heap.size w w' := by
 have hu59 := Try.underlying59
 have HR0 := aM hr0
 have HC0 := aM hc0
 clear hr0 hc0
 have HB := aM (Below.refl w.heap.size w)
 have H : (spec_IsShape.l0 k l0 0) = some r := h
 clear h
 have H' := aM H
 clear H
 go_enter Try.func66, Try.ntmps66
 go_wp2
 go_loopg [3] k (fun kq v3 w' => ∃ (x3_1 : Int), v3 = .int .i64 x3_1 ∧ Aside0 (spec_IsShape.l0 kq l0 x3_1 = some r) ∧ Aside0 (kq ≤ k) ∧ Aside0 (Below w.heap.size w w'))
 case atStart => exact ⟨(0), zr, H', ⟨Nat.le_refl _⟩, ⟨zb⟩⟩
 case round =>
  clear H'
  obtain ⟨x3_1, rfl, HA, HK1, HB⟩ := hrel
  cases gk with
  | zero => exact absurd HA.out (by simp [spec_IsShape.l0])
  | succ k1 =>
   have H := HA.out
   clear HA
   simp only [spec_IsShape.l0] at H
   by_cases c2 : x3_1 < (l0.length : Int)
   rotate_left
   ·rw [if_neg c2] at H
    have c2b0 : decide (x3_1 < (l0.length : Int)) = false := decide_eq_false c2
    clear c2
    replace H := Option.bind_eq_some_iff.mp H
    obtain ⟨t106, A220, H⟩ := H
    replace H : (some t106) = some r := H
    have A22 := aM A220
    clear A220
    obtain rfl := Option.some.inj H
    go_wp2_with (first | ((with_reducible refine gate_callee (f := 107) rfl ?_); refine goesL_ (some 35) rfl rfl Try.func107 (by kernel_rfl) rfl #[.int .i64 (l0.length : Int), .int .i64 1, .int .i64 40] rfl zm ?_; (with_reducible refine (spec_l01In.calls (l0.length : Int) 1 40 t106 _ A22.out).mono ?_); rintro e w' ⟨rfl, ⟨nd, rfl⟩⟩; refine ⟨_, rfl, ?_⟩))
    go_ret
    exact ⟨zw, zb⟩
   rw [if_pos c2] at H
   have c2b0 : decide (x3_1 < (l0.length : Int)) = true := decide_eq_true c2
   clear c2
   by_cases c3 : 0 ≤ x3_1
   rotate_left
   ·rw [if_neg c3] at H
    exact absurd H (by simp)
   rw [if_pos c3] at H
   have c3b0 : decide (0 ≤ x3_1) = true := decide_eq_true c3
   clear c3
   replace H := Option.bind_eq_some_iff.mp H
   obtain ⟨t108, A40, H⟩ := H
   replace H : (if t108 = true then (if x3_1 > 0 then (if 0 ≤ (wrap64 (x3_1 - 1)) then (if (wrap64 (x3_1 - 1)) < (l0.length : Int) then ((spec_l02Less.f ((rd_T59 l0 (wrap64 (x3_1 - 1))).f0) ((rd_T59 l0 (wrap64 (x3_1 - 1))).f1) ((rd_T59 l0 x3_1).f0) ((rd_T59 l0 x3_1).f1)).bind fun t111 => (if t111 = true then (spec_IsShape.l0 k1 l0 (wrap64 (x3_1 + 1))) else (some false))) else (none)) else (none)) else (spec_IsShape.l0 k1 l0 (wrap64 (x3_1 + 1)))) else (some false)) = some r := H
   have A4 := aM A40
   clear A40
   by_cases c5 : t108 = true
   rotate_left
   ·replace c5 := Bool.eq_false_iff.mpr c5
    subst c5
    have H1 : (some false) = some r := by rw [if_neg (show ¬ (false = true) by decide)] at H; exact H
    clear H
    have H := H1
    clear H1
    obtain rfl := Option.some.inj H
    try go_wp2
    have n0_ := aM (below_drew1 HB.out)
    clear HB
    have HB := n0_
    clear n0_
    have p107 : 0 ≤ (x3_1 : Int) := of_decide_eq_true za
    have q107 : x3_1 < (l0.length : Int) := of_decide_eq_true za
    obtain ⟨ad107, e107, hx107_0, hx107_1⟩ := at_T59 HR0.out x3_1 p107 q107
    have hw107_1 := hx107_1
    have hw107_0 := hx107_0
    cases e107
    replace hx107_0 := zk HB.out hx107_0
    replace hx107_1 := zk HB.out hx107_1
    replace p107 := eq_true p107
    replace q107 := eq_true q107
    refine start_ (n := 23) (S := fun w' => w'.cell? (ad107.add ((x3_1).toNat * 2)) = some (.int .i64 ((rd_T59 l0 x3_1).f0)) ∧ w'.cell? ⟨(ad107.add ((x3_1).toNat * 2)).block, (ad107.add ((x3_1).toNat * 2)).off + 1, none⟩ = some (.int .i64 ((rd_T59 l0 x3_1).f1))) (ds := []) zA95 (by kernel_rfl) rfl rfl ⟨(zk HB.out hw107_0), (zk HB.out hw107_1)⟩ (fun hHeld => ?_); refine with_tabW spec_IsShape.tab4 spec_IsShape.bits4 (fun HT_ HW_ => ?_)
    generalize wr.drew = w20 at HB hx107_0 hx107_1 hHeld ⊢
    refine zp 0 (some 10) ?_ zA96 rfl rfl (Or.inl ⟨by rfl, ?_⟩) ?_ ?_ ?_
    rotate_left
    ·intro w'
     go_simp
     with_reducible rfl
    rotate_left
    ·simp only [Act.put, xA, xB, xC, i64_w, i32_w]
     rfl
    refine zp 1 (some 11) ?_ zA97 rfl rfl (Or.inl ⟨by rfl, ?_⟩) ?_ ?_ ?_
    rotate_left
    ·intro w'
     go_simp
     with_reducible rfl
    rotate_left
    ·simp only [Act.put, xA, xB, xC, i64_w, i32_w]
     rfl
    refine zp 2 (some 12) ?_ zA98 rfl rfl (Or.inl ⟨by rfl, ?_⟩) ?_ ?_ ?_
    rotate_left
    ·intro w'
     go_simp
     with_reducible rfl
    rotate_left
    ·simp only [Act.put, xA, xB, xC, i64_w, i32_w]
     rfl
    refine zu 3 (some 13) ?_ zA99 rfl rfl (Or.inl ⟨by rfl, ?_⟩) hHeld ?_ ?_ ?_
    rotate_left
    ·rintro w' ⟨s0, s1⟩
     go_simp
     with_reducible rfl
    rotate_left
    ·simp only [Act.put, xA, xB, xC, i64_w, i32_w]
     rfl
    refine one_ (i := 4) (N := some 14) zA100 rfl rfl (one_of HT_.out (by kernel_rfl)) (by decide) (fun K hK => ?_)
    refine goes_ Try.func105 (by kernel_rfl) rfl #[.agg #[.int .i64 ((rd_T59 l0 x3_1).f0), .int .i64 ((rd_T59 l0 x3_1).f1)]] (by rfl) rfl rfl zm ?_
    with_reducible refine (spec_l02Cell.calls ((rd_T59 l0 x3_1).f0) ((rd_T59 l0 x3_1).f1) false _ A4.out).mono ?_
    rintro e w21 ⟨rfl, hb⟩
    refine ⟨_, rfl, ?_⟩
    have n0_ := aM (below_step zb hb)
    clear HB
    have HB := n0_
    clear n0_
    (try clear hb)
    (try clear hb2)
    (try clear hk)
    (try clear hi)
    refine hK.out _ _ ⟨(zk HB.out hw107_0), (zk HB.out hw107_1)⟩ (fun hHeld => ?_)
    clear hK K
    refine norm_ (a' := ?_) ?_ ?_
    rotate_left
    ·show Act.put _ (some 14) _ = _
     simp only [Act.put, xA, xB, xC, i64_w, i32_w]
     rfl
    refine zp 5 (some 15) ?_ zA101 rfl rfl (Or.inl ⟨by rfl, ?_⟩) ?_ ?_ ?_
    rotate_left
    ·intro w'
     go_simp
     with_reducible rfl
    rotate_left
    ·simp only [Act.put, xA, xB, xC, i64_w, i32_w]
     rfl
    refine zp 6 (some 16) ?_ zA102 rfl rfl (Or.inl ⟨by rfl, ?_⟩) ?_ ?_ ?_
    rotate_left
    ·intro w'
     go_simp
     with_reducible rfl
    rotate_left
    ·simp only [Act.put, xA, xB, xC, i64_w, i32_w]
     rfl
    refine zp 7 (some 17) undef zA103 rfl rfl (Or.inr ⟨by rfl, rfl⟩) ?_ ?_ ?_
    rotate_left
    ·simp only [Act.put, xA, xB, xC, i64_w, i32_w]
     rfl
    refine zp 8 (some 18) undef zA104 rfl rfl (Or.inr ⟨by rfl, rfl⟩) ?_ ?_ ?_
    rotate_left
    ·simp only [Act.put, xA, xB, xC, i64_w, i32_w]
     rfl
    refine zp 9 (some 19) undef zA105 rfl rfl (Or.inr ⟨by rfl, rfl⟩) ?_ ?_ ?_
    rotate_left
    ·simp only [Act.put, xA, xB, xC, i64_w, i32_w]
     rfl
    refine zp 10 (some 20) undef zA106 rfl rfl (Or.inr ⟨by rfl, rfl⟩) ?_ ?_ ?_
    rotate_left
    ·simp only [Act.put, xA, xB, xC, i64_w, i32_w]
     rfl
    refine zp 11 (some 21) undef zA107 rfl rfl (Or.inr ⟨by rfl, rfl⟩) ?_ ?_ ?_
    rotate_left
    ·simp only [Act.put, xA, xB, xC, i64_w, i32_w]
     rfl
    refine zp 12 (some 22) undef zA108 rfl rfl (Or.inr ⟨by rfl, rfl⟩) ?_ ?_ ?_
    rotate_left
    ·simp only [Act.put, xA, xB, xC, i64_w, i32_w]
     rfl
    refine zp 13 (some 23) undef zA109 rfl rfl (Or.inr ⟨by rfl, rfl⟩) ?_ ?_ ?_
    rotate_left
    ·simp only [Act.put, xA, xB, xC, i64_w, i32_w]
     rfl
    refine zp 14 (some 24) undef zA110 rfl rfl (Or.inr ⟨by rfl, rfl⟩) ?_ ?_ ?_
    rotate_left
    ·simp only [Act.put, xA, xB, xC, i64_w, i32_w]
     rfl
    refine zp 15 (some 25) undef zA111 rfl rfl (Or.inr ⟨by rfl, rfl⟩) ?_ ?_ ?_
    rotate_left
    ·simp only [Act.put, xA, xB, xC, i64_w, i32_w]
     rfl
    refine zp 16 (some 26) undef zA112 rfl rfl (Or.inr ⟨by rfl, rfl⟩) ?_ ?_ ?_
    rotate_left
    ·simp only [Act.put, xA, xB, xC, i64_w, i32_w]
     rfl
    refine zp 17 (some 27) undef zA113 rfl rfl (Or.inr ⟨by rfl, rfl⟩) ?_ ?_ ?_
    rotate_left
    ·simp only [Act.put, xA, xB, xC, i64_w, i32_w]
     rfl
    refine zp 18 (some 28) undef zA114 rfl rfl (Or.inr ⟨by rfl, rfl⟩) ?_ ?_ ?_
    rotate_left
    ·simp only [Act.put, xA, xB, xC, i64_w, i32_w]
     rfl
    refine zp 19 (some 29) undef zA115 rfl rfl (Or.inr ⟨by rfl, rfl⟩) ?_ ?_ ?_
    rotate_left
    ·simp only [Act.put, xA, xB, xC, i64_w, i32_w]
     rfl
    refine zp 20 (some 30) undef zA116 rfl rfl (Or.inr ⟨by rfl, rfl⟩) ?_ ?_ ?_
    rotate_left
    ·simp only [Act.put, xA, xB, xC, i64_w, i32_w]
     rfl
    refine zp 21 (some 31) undef zA117 rfl rfl (Or.inr ⟨by rfl, rfl⟩) ?_ ?_ ?_
    rotate_left
    ·simp only [Act.put, xA, xB, xC, i64_w, i32_w]
     rfl
    refine zp 22 (some 32) ?_ zA118 rfl rfl (Or.inl ⟨by rfl, ?_⟩) ?_ ?_ ?_
    rotate_left
    ·intro w'
     go_simp
     with_reducible rfl
    rotate_left
    ·simp only [Act.put, xA, xB, xC, i64_w, i32_w]
     rfl
    refine done_ (done_of HT_.out (by kernel_rfl)) ?_
    try go_wp2
    go_ret
    exact ⟨zw, zb⟩
   subst c5
   have H1 : (if x3_1 > 0 then (if 0 ≤ (wrap64 (x3_1 - 1)) then (if (wrap64 (x3_1 - 1)) < (l0.length : Int) then ((spec_l02Less.f ((rd_T59 l0 (wrap64 (x3_1 - 1))).f0) ((rd_T59 l0 (wrap64 (x3_1 - 1))).f1) ((rd_T59 l0 x3_1).f0) ((rd_T59 l0 x3_1).f1)).bind fun t111 => (if t111 = true then (spec_IsShape.l0 k1 l0 (wrap64 (x3_1 + 1))) else (some false))) else (none)) else (none)) else (spec_IsShape.l0 k1 l0 (wrap64 (x3_1 + 1)))) = some r := by rw [if_pos rfl] at H; exact H
   clear H
   have H := H1
   clear H1
   by_cases c6 : x3_1 > 0
   rotate_left
   ·rw [if_neg c6] at H
    have c6b0 : decide (0 < x3_1) = false := decide_eq_false c6
    clear c6
    have H' := aM H
    clear H
    try go_wp2
    have n0_ := aM (below_drew1 HB.out)
    clear HB
    have HB := n0_
    clear n0_
    have p107 : 0 ≤ (x3_1 : Int) := of_decide_eq_true za
    have q107 : x3_1 < (l0.length : Int) := of_decide_eq_true za
    obtain ⟨ad107, e107, hx107_0, hx107_1⟩ := at_T59 HR0.out x3_1 p107 q107
    have hw107_1 := hx107_1
    have hw107_0 := hx107_0
    cases e107
    replace hx107_0 := zk HB.out hx107_0
    replace hx107_1 := zk HB.out hx107_1
    replace p107 := eq_true p107
    replace q107 := eq_true q107
    refine start_ (n := 23) (S := fun w' => w'.cell? (ad107.add ((x3_1).toNat * 2)) = some (.int .i64 ((rd_T59 l0 x3_1).f0)) ∧ w'.cell? ⟨(ad107.add ((x3_1).toNat * 2)).block, (ad107.add ((x3_1).toNat * 2)).off + 1, none⟩ = some (.int .i64 ((rd_T59 l0 x3_1).f1))) (ds := []) zA95 (by kernel_rfl) rfl rfl ⟨(zk HB.out hw107_0), (zk HB.out hw107_1)⟩ (fun hHeld => ?_); refine with_tabW spec_IsShape.tab4 spec_IsShape.bits4 (fun HT_ HW_ => ?_)
    generalize wr.drew = w18 at HB hx107_0 hx107_1 hHeld ⊢
    refine zp 0 (some 10) ?_ zA96 rfl rfl (Or.inl ⟨by rfl, ?_⟩) ?_ ?_ ?_
    rotate_left
    ·intro w'
     go_simp
     with_reducible rfl
    rotate_left
    ·simp only [Act.put, xA, xB, xC, i64_w, i32_w]
     rfl
    refine zp 1 (some 11) ?_ zA97 rfl rfl (Or.inl ⟨by rfl, ?_⟩) ?_ ?_ ?_
    rotate_left
    ·intro w'
     go_simp
     with_reducible rfl
    rotate_left
    ·simp only [Act.put, xA, xB, xC, i64_w, i32_w]
     rfl
    refine zp 2 (some 12) ?_ zA98 rfl rfl (Or.inl ⟨by rfl, ?_⟩) ?_ ?_ ?_
    rotate_left
    ·intro w'
     go_simp
     with_reducible rfl
    rotate_left
    ·simp only [Act.put, xA, xB, xC, i64_w, i32_w]
     rfl
    refine zu 3 (some 13) ?_ zA99 rfl rfl (Or.inl ⟨by rfl, ?_⟩) hHeld ?_ ?_ ?_
    rotate_left
    ·rintro w' ⟨s0, s1⟩
     go_simp
     with_reducible rfl
    rotate_left
    ·simp only [Act.put, xA, xB, xC, i64_w, i32_w]
     rfl
    refine one_ (i := 4) (N := some 14) zA100 rfl rfl (one_of HT_.out (by kernel_rfl)) (by decide) (fun K hK => ?_)
    refine goes_ Try.func105 (by kernel_rfl) rfl #[.agg #[.int .i64 ((rd_T59 l0 x3_1).f0), .int .i64 ((rd_T59 l0 x3_1).f1)]] (by rfl) rfl rfl zm ?_
    with_reducible refine (spec_l02Cell.calls ((rd_T59 l0 x3_1).f0) ((rd_T59 l0 x3_1).f1) true _ A4.out).mono ?_
    rintro e w19 ⟨rfl, hb⟩
    refine ⟨_, rfl, ?_⟩
    have n0_ := aM (below_step zb hb)
    clear HB
    have HB := n0_
    clear n0_
    (try clear hb)
    (try clear hb2)
    (try clear hk)
    (try clear hi)
    refine hK.out _ _ ⟨(zk HB.out hw107_0), (zk HB.out hw107_1)⟩ (fun hHeld => ?_)
    clear hK K
    refine norm_ (a' := ?_) ?_ ?_
    rotate_left
    ·show Act.put _ (some 14) _ = _
     simp only [Act.put, xA, xB, xC, i64_w, i32_w]
     rfl
    refine zp 5 (some 15) ?_ zA101 rfl rfl (Or.inl ⟨by rfl, ?_⟩) ?_ ?_ ?_
    rotate_left
    ·intro w'
     go_simp
     with_reducible rfl
    rotate_left
    ·simp only [Act.put, xA, xB, xC, i64_w, i32_w]
     rfl
    refine zp 6 (some 16) ?_ zA102 rfl rfl (Or.inl ⟨by rfl, ?_⟩) ?_ ?_ ?_
    rotate_left
    ·intro w'
     go_simp
     with_reducible rfl
    rotate_left
    ·simp only [Act.put, xA, xB, xC, i64_w, i32_w]
     rfl
    refine zp 7 (some 17) ?_ zA103 rfl rfl (Or.inl ⟨by rfl, ?_⟩) ?_ ?_ ?_
    rotate_left
    ·intro w'
     go_simp
     with_reducible rfl
    rotate_left
    ·simp only [Act.put, xA, xB, xC, i64_w, i32_w]
     rfl
    refine zp 8 (some 18) ?_ zA104 rfl rfl (Or.inl ⟨by rfl, ?_⟩) ?_ ?_ ?_
    rotate_left
    ·intro w'
     go_simp
     with_reducible rfl
    rotate_left
    ·simp only [Act.put, xA, xB, xC, i64_w, i32_w]
     rfl
    refine zp 9 (some 19) ?_ zA105 rfl rfl (Or.inl ⟨by rfl, ?_⟩) ?_ ?_ ?_
    rotate_left
    ·intro w'
     go_simp
     with_reducible rfl
    rotate_left
    ·simp only [Act.put, xA, xB, xC, i64_w, i32_w]
     rfl
    refine zp 10 (some 20) undef zA106 rfl rfl (Or.inr ⟨by rfl, rfl⟩) ?_ ?_ ?_
    rotate_left
    ·simp only [Act.put, xA, xB, xC, i64_w, i32_w]
     rfl
    refine zp 11 (some 21) undef zA107 rfl rfl (Or.inr ⟨by rfl, rfl⟩) ?_ ?_ ?_
    rotate_left
    ·simp only [Act.put, xA, xB, xC, i64_w, i32_w]
     rfl
    refine zp 12 (some 22) undef zA108 rfl rfl (Or.inr ⟨by rfl, rfl⟩) ?_ ?_ ?_
    rotate_left
    ·simp only [Act.put, xA, xB, xC, i64_w, i32_w]
     rfl
    refine zp 13 (some 23) undef zA109 rfl rfl (Or.inr ⟨by rfl, rfl⟩) ?_ ?_ ?_
    rotate_left
    ·simp only [Act.put, xA, xB, xC, i64_w, i32_w]
     rfl
    refine zp 14 (some 24) undef zA110 rfl rfl (Or.inr ⟨by rfl, rfl⟩) ?_ ?_ ?_
    rotate_left
    ·simp only [Act.put, xA, xB, xC, i64_w, i32_w]
     rfl
    refine zp 15 (some 25) undef zA111 rfl rfl (Or.inr ⟨by rfl, rfl⟩) ?_ ?_ ?_
    rotate_left
    ·simp only [Act.put, xA, xB, xC, i64_w, i32_w]
     rfl
    refine zp 16 (some 26) undef zA112 rfl rfl (Or.inr ⟨by rfl, rfl⟩) ?_ ?_ ?_
    rotate_left
    ·simp only [Act.put, xA, xB, xC, i64_w, i32_w]
     rfl
    refine zp 17 (some 27) undef zA113 rfl rfl (Or.inr ⟨by rfl, rfl⟩) ?_ ?_ ?_
    rotate_left
    ·simp only [Act.put, xA, xB, xC, i64_w, i32_w]
     rfl
    refine zp 18 (some 28) undef zA114 rfl rfl (Or.inr ⟨by rfl, rfl⟩) ?_ ?_ ?_
    rotate_left
    ·simp only [Act.put, xA, xB, xC, i64_w, i32_w]
     rfl
    refine zp 19 (some 29) undef zA115 rfl rfl (Or.inr ⟨by rfl, rfl⟩) ?_ ?_ ?_
    rotate_left
    ·simp only [Act.put, xA, xB, xC, i64_w, i32_w]
     rfl
    refine zp 20 (some 30) undef zA116 rfl rfl (Or.inr ⟨by rfl, rfl⟩) ?_ ?_ ?_
    rotate_left
    ·simp only [Act.put, xA, xB, xC, i64_w, i32_w]
     rfl
    refine zp 21 (some 31) ?_ zA117 rfl rfl (Or.inl ⟨by rfl, ?_⟩) ?_ ?_ ?_
    rotate_left
    ·intro w'
     go_simp
     with_reducible rfl
    rotate_left
    ·simp only [Act.put, xA, xB, xC, i64_w, i32_w]
     rfl
    refine zp 22 (some 32) ?_ zA118 rfl rfl (Or.inl ⟨by rfl, ?_⟩) ?_ ?_ ?_
    rotate_left
    ·intro w'
     go_simp
     with_reducible rfl
    rotate_left
    ·simp only [Act.put, xA, xB, xC, i64_w, i32_w]
     rfl
    refine done_ (done_of HT_.out (by kernel_rfl)) ?_
    try go_wp2
    go_roundg k1
    case measure => have := HK1.out; omega
    case rel => exact ⟨(wrap64 (x3_1 + 1)), zr, H', ⟨by have := HK1.out; omega⟩, ⟨zb⟩⟩
   rw [if_pos c6] at H
   have c6b0 : decide (0 < x3_1) = true := decide_eq_true c6
   clear c6
   obtain ⟨ji7, hji7⟩ : ∃ j_ : Int, (wrap64 (x3_1 - 1)) = j_ := ⟨_, rfl⟩
   replace H : (if 0 ≤ (ji7) then (if (ji7) < (l0.length : Int) then ((spec_l02Less.f ((rd_T59 l0 (ji7)).f0) ((rd_T59 l0 (ji7)).f1) ((rd_T59 l0 x3_1).f0) ((rd_T59 l0 x3_1).f1)).bind fun t111 => (if t111 = true then (spec_IsShape.l0 k1 l0 (wrap64 (x3_1 + 1))) else (some false))) else (none)) else (none)) = some r := by first | (rw [hji7] at H; exact H) | (simp only [hji7] at H ⊢; exact H)
   (try rw [hji7] at A4)
   have hji7w : (IntKind.i64.wrap (x3_1 - 1)) = ji7 := (i64_w _).trans hji7
   by_cases c8 : 0 ≤ (ji7)
   rotate_left
   ·rw [if_neg c8] at H
    exact absurd H (by simp)
   rw [if_pos c8] at H
   have c8b0 : decide (0 ≤ (ji7)) = true := decide_eq_true c8
   clear c8
   by_cases c9 : (ji7) < (l0.length : Int)
   rotate_left
   ·rw [if_neg c9] at H
    exact absurd H (by simp)
   rw [if_pos c9] at H
   have c9b0 : decide ((ji7) < (l0.length : Int)) = true := decide_eq_true c9
   clear c9
   replace H := Option.bind_eq_some_iff.mp H
   obtain ⟨t111, A100, H⟩ := H
   replace H : (if t111 = true then (spec_IsShape.l0 k1 l0 (wrap64 (x3_1 + 1))) else (some false)) = some r := H
   have A10 := aM A100
   clear A100
   by_cases c11 : t111 = true
   rotate_left
   ·replace c11 := Bool.eq_false_iff.mpr c11
    subst c11
    have H1 : (some false) = some r := by rw [if_neg (show ¬ (false = true) by decide)] at H; exact H
    clear H
    have H := H1
    clear H1
    obtain rfl := Option.some.inj H
    try go_wp2
    have n0_ := aM (below_drew1 HB.out)
    clear HB
    have HB := n0_
    clear n0_
    have p107 : 0 ≤ (x3_1 : Int) := of_decide_eq_true za
    have q107 : x3_1 < (l0.length : Int) := of_decide_eq_true za
    obtain ⟨ad107, e107, hx107_0, hx107_1⟩ := at_T59 HR0.out x3_1 p107 q107
    have hw107_1 := hx107_1
    have hw107_0 := hx107_0
    cases e107
    replace hx107_0 := zk HB.out hx107_0
    replace hx107_1 := zk HB.out hx107_1
    replace p107 := eq_true p107
    replace q107 := eq_true q107
    have p109 : 0 ≤ ((ji7) : Int) := of_decide_eq_true za
    have q109 : (ji7) < (l0.length : Int) := of_decide_eq_true za
    obtain ⟨ad109, e109, hx109_0, hx109_1⟩ := at_T59 HR0.out (ji7) p109 q109
    have hw109_1 := hx109_1
    have hw109_0 := hx109_0
    obtain rfl : ad107 = ad109 := (by injection e109)
    replace hx109_0 := zk HB.out hx109_0
    replace hx109_1 := zk HB.out hx109_1
    replace p109 := eq_true p109
    replace q109 := eq_true q109
    have p110 : 0 ≤ (x3_1 : Int) := of_decide_eq_true za
    have q110 : x3_1 < (l0.length : Int) := of_decide_eq_true za
    obtain ⟨ad110, e110, hx110_0, hx110_1⟩ := at_T59 HR0.out x3_1 p110 q110
    have hw110_1 := hx110_1
    have hw110_0 := hx110_0
    obtain rfl : ad107 = ad110 := (by injection e110)
    replace hx110_0 := zk HB.out hx110_0
    replace hx110_1 := zk HB.out hx110_1
    replace p110 := eq_true p110
    replace q110 := eq_true q110
    refine start_ (n := 23) (S := fun w' => w'.cell? (ad107.add ((x3_1).toNat * 2)) = some (.int .i64 ((rd_T59 l0 x3_1).f0)) ∧ w'.cell? ⟨(ad107.add ((x3_1).toNat * 2)).block, (ad107.add ((x3_1).toNat * 2)).off + 1, none⟩ = some (.int .i64 ((rd_T59 l0 x3_1).f1)) ∧ w'.cell? (ad107.add (((ji7)).toNat * 2)) = some (.int .i64 ((rd_T59 l0 (ji7)).f0)) ∧ w'.cell? ⟨(ad107.add (((ji7)).toNat * 2)).block, (ad107.add (((ji7)).toNat * 2)).off + 1, none⟩ = some (.int .i64 ((rd_T59 l0 (ji7)).f1)) ∧ w'.cell? (ad107.add ((x3_1).toNat * 2)) = some (.int .i64 ((rd_T59 l0 x3_1).f0)) ∧ w'.cell? ⟨(ad107.add ((x3_1).toNat * 2)).block, (ad107.add ((x3_1).toNat * 2)).off + 1, none⟩ = some (.int .i64 ((rd_T59 l0 x3_1).f1))) (ds := []) zA95 (by kernel_rfl) rfl rfl ⟨(zk HB.out hw107_0), (zk HB.out hw107_1), (zk HB.out hw109_0), (zk HB.out hw109_1), (zk HB.out hw110_0), (zk HB.out hw110_1)⟩ (fun hHeld => ?_); refine with_tabW spec_IsShape.tab4 spec_IsShape.bits4 (fun HT_ HW_ => ?_)
    generalize wr.drew = w15 at HB hx107_0 hx107_1 hx109_0 hx109_1 hx110_0 hx110_1 hHeld ⊢
    refine zp 0 (some 10) ?_ zA96 rfl rfl (Or.inl ⟨by rfl, ?_⟩) ?_ ?_ ?_
    rotate_left
    ·intro w'
     go_simp
     with_reducible rfl
    rotate_left
    ·simp only [Act.put, xA, xB, xC, i64_w, i32_w]
     rfl
    refine zp 1 (some 11) ?_ zA97 rfl rfl (Or.inl ⟨by rfl, ?_⟩) ?_ ?_ ?_
    rotate_left
    ·intro w'
     go_simp
     with_reducible rfl
    rotate_left
    ·simp only [Act.put, xA, xB, xC, i64_w, i32_w]
     rfl
    refine zp 2 (some 12) ?_ zA98 rfl rfl (Or.inl ⟨by rfl, ?_⟩) ?_ ?_ ?_
    rotate_left
    ·intro w'
     go_simp
     with_reducible rfl
    rotate_left
    ·simp only [Act.put, xA, xB, xC, i64_w, i32_w]
     rfl
    refine zu 3 (some 13) ?_ zA99 rfl rfl (Or.inl ⟨by rfl, ?_⟩) hHeld ?_ ?_ ?_
    rotate_left
    ·rintro w' ⟨s0, s1, s2, s3, s4, s5⟩
     go_simp
     with_reducible rfl
    rotate_left
    ·simp only [Act.put, xA, xB, xC, i64_w, i32_w]
     rfl
    refine one_ (i := 4) (N := some 14) zA100 rfl rfl (one_of HT_.out (by kernel_rfl)) (by decide) (fun K hK => ?_)
    refine goes_ Try.func105 (by kernel_rfl) rfl #[.agg #[.int .i64 ((rd_T59 l0 x3_1).f0), .int .i64 ((rd_T59 l0 x3_1).f1)]] (by rfl) rfl rfl zm ?_
    with_reducible refine (spec_l02Cell.calls ((rd_T59 l0 x3_1).f0) ((rd_T59 l0 x3_1).f1) true _ A4.out).mono ?_
    rintro e w16 ⟨rfl, hb⟩
    refine ⟨_, rfl, ?_⟩
    have n0_ := aM (below_step zb hb)
    clear HB
    have HB := n0_
    clear n0_
    (try clear hb)
    (try clear hb2)
    (try clear hk)
    (try clear hi)
    refine hK.out _ _ ⟨(zk HB.out hw107_0), (zk HB.out hw107_1), (zk HB.out hw109_0), (zk HB.out hw109_1), (zk HB.out hw110_0), (zk HB.out hw110_1)⟩ (fun hHeld => ?_)
    clear hK K
    refine norm_ (a' := ?_) ?_ ?_
    rotate_left
    ·show Act.put _ (some 14) _ = _
     simp only [Act.put, xA, xB, xC, i64_w, i32_w]
     rfl
    refine zp 5 (some 15) ?_ zA101 rfl rfl (Or.inl ⟨by rfl, ?_⟩) ?_ ?_ ?_
    rotate_left
    ·intro w'
     go_simp
     with_reducible rfl
    rotate_left
    ·simp only [Act.put, xA, xB, xC, i64_w, i32_w]
     rfl
    refine zp 6 (some 16) ?_ zA102 rfl rfl (Or.inl ⟨by rfl, ?_⟩) ?_ ?_ ?_
    rotate_left
    ·intro w'
     go_simp
     with_reducible rfl
    rotate_left
    ·simp only [Act.put, xA, xB, xC, i64_w, i32_w]
     rfl
    refine zp 7 (some 17) ?_ zA103 rfl rfl (Or.inl ⟨by rfl, ?_⟩) ?_ ?_ ?_
    rotate_left
    ·intro w'
     go_simp
     with_reducible rfl
    rotate_left
    ·simp only [Act.put, xA, xB, xC, i64_w, i32_w]
     rfl
    refine zp 8 (some 18) ?_ zA104 rfl rfl (Or.inl ⟨by rfl, ?_⟩) ?_ ?_ ?_
    rotate_left
    ·intro w'
     go_simp
     with_reducible rfl
    rotate_left
    ·simp only [Act.put, xA, xB, xC, i64_w, i32_w]
     rfl
    refine zp 9 (some 19) ?_ zA105 rfl rfl (Or.inl ⟨by rfl, ?_⟩) ?_ ?_ ?_
    rotate_left
    ·intro w'
     go_simp
     with_reducible rfl
    rotate_left
    ·simp only [Act.put, xA, xB, xC, i64_w, i32_w]
     rfl
    refine zp 10 (some 20) ?_ zA106 rfl rfl (Or.inl ⟨by rfl, ?_⟩) ?_ ?_ ?_
    rotate_left
    ·intro w'
     go_simp
     with_reducible rfl
    rotate_left
    ·simp only [Act.put, xA, xB, xC, i64_w, i32_w]
     rfl
    refine zp 11 (some 21) ?_ zA107 rfl rfl (Or.inl ⟨by rfl, ?_⟩) ?_ ?_ ?_
    rotate_left
    ·intro w'
     go_simp
     with_reducible rfl
    rotate_left
    ·simp only [Act.put, xA, xB, xC, i64_w, i32_w]
     rfl
    refine zp 12 (some 22) ?_ zA108 rfl rfl (Or.inl ⟨by rfl, ?_⟩) ?_ ?_ ?_
    rotate_left
    ·intro w'
     go_simp
     with_reducible rfl
    rotate_left
    ·simp only [Act.put, xA, xB, xC, i64_w, i32_w]
     rfl
    refine zp 13 (some 23) ?_ zA109 rfl rfl (Or.inl ⟨by rfl, ?_⟩) ?_ ?_ ?_
    rotate_left
    ·intro w'
     go_simp
     with_reducible rfl
    rotate_left
    ·simp only [Act.put, xA, xB, xC, i64_w, i32_w]
     rfl
    refine zp 15 (some 25) ?_ zA119 rfl rfl (Or.inl ⟨by rfl, ?_⟩) ?_ ?_ ?_
    rotate_left
    ·intro w'
     go_simp
     with_reducible rfl
    rotate_left
    ·simp only [Act.put, xA, xB, xC, i64_w, i32_w]
     rfl
    refine zp 16 (some 26) ?_ zA120 rfl rfl (Or.inl ⟨by rfl, ?_⟩) ?_ ?_ ?_
    rotate_left
    ·intro w'
     go_simp
     with_reducible rfl
    rotate_left
    ·simp only [Act.put, xA, xB, xC, i64_w, i32_w]
     rfl
    refine zp 17 (some 27) ?_ zA121 rfl rfl (Or.inl ⟨by rfl, ?_⟩) ?_ ?_ ?_
    rotate_left
    ·intro w'
     go_simp
     with_reducible rfl
    rotate_left
    ·simp only [Act.put, xA, xB, xC, i64_w, i32_w]
     rfl
    refine zu 14 (some 24) ?_ zA113 rfl rfl (Or.inl ⟨by rfl, ?_⟩) hHeld ?_ ?_ ?_
    rotate_left
    ·rintro w' ⟨s0, s1, s2, s3, s4, s5⟩
     go_simp
     with_reducible rfl
    rotate_left
    ·simp only [Act.put, xA, xB, xC, i64_w, i32_w]
     rfl
    refine zu 18 (some 28) ?_ zA114 rfl rfl (Or.inl ⟨by rfl, ?_⟩) hHeld ?_ ?_ ?_
    rotate_left
    ·rintro w' ⟨s0, s1, s2, s3, s4, s5⟩
     go_simp
     with_reducible rfl
    rotate_left
    ·simp only [Act.put, xA, xB, xC, i64_w, i32_w]
     rfl
    refine one_ (i := 19) (N := some 29) zA115 rfl rfl (one_of HT_.out (by kernel_rfl)) (by decide) (fun K hK => ?_)
    refine goes_ Try.func106 (by kernel_rfl) rfl #[.agg #[.int .i64 ((rd_T59 l0 (ji7)).f0), .int .i64 ((rd_T59 l0 (ji7)).f1)], .agg #[.int .i64 ((rd_T59 l0 x3_1).f0), .int .i64 ((rd_T59 l0 x3_1).f1)]] (by rfl) rfl rfl (by (try simp only [mA, mB, mC]); first | done | (simp only [hji7]; rfl) | rfl | (simp only [lD, lT]; rfl)) ?_
    with_reducible refine (spec_l02Less.calls ((rd_T59 l0 (ji7)).f0) ((rd_T59 l0 (ji7)).f1) ((rd_T59 l0 x3_1).f0) ((rd_T59 l0 x3_1).f1) false _ A10.out).mono ?_
    rintro e w17 ⟨rfl, hb⟩
    refine ⟨_, rfl, ?_⟩
    have n0_ := aM (below_step zb hb)
    clear HB
    have HB := n0_
    clear n0_
    (try clear hb)
    (try clear hb2)
    (try clear hk)
    (try clear hi)
    refine hK.out _ _ ⟨(zk HB.out hw107_0), (zk HB.out hw107_1), (zk HB.out hw109_0), (zk HB.out hw109_1), (zk HB.out hw110_0), (zk HB.out hw110_1)⟩ (fun hHeld => ?_)
    clear hK K
    refine norm_ (a' := ?_) ?_ ?_
    rotate_left
    ·show Act.put _ (some 29) _ = _
     simp only [Act.put, xA, xB, xC, i64_w, i32_w]
     rfl
    refine zp 20 (some 30) ?_ zA116 rfl rfl (Or.inl ⟨by rfl, ?_⟩) ?_ ?_ ?_
    rotate_left
    ·intro w'
     go_simp
     with_reducible rfl
    rotate_left
    ·simp only [Act.put, xA, xB, xC, i64_w, i32_w]
     rfl
    refine zp 21 (some 31) ?_ zA117 rfl rfl (Or.inl ⟨by rfl, ?_⟩) ?_ ?_ ?_
    rotate_left
    ·intro w'
     go_simp
     with_reducible rfl
    rotate_left
    ·simp only [Act.put, xA, xB, xC, i64_w, i32_w]
     rfl
    refine zp 22 (some 32) ?_ zA118 rfl rfl (Or.inl ⟨by rfl, ?_⟩) ?_ ?_ ?_
    rotate_left
    ·intro w'
     go_simp
     with_reducible rfl
    rotate_left
    ·simp only [Act.put, xA, xB, xC, i64_w, i32_w]
     rfl
    refine done_ (done_of HT_.out (by kernel_rfl)) ?_
    try go_wp2
    go_ret
    exact ⟨by first | rfl | (simp [errW_none, errW_some] <;> rfl) | (simp only [← hji7]; first | rfl | (simp [errW_none, errW_some] <;> rfl)) | (simp [*, errW_none, errW_some] <;> rfl), zb⟩
   subst c11
   have H1 : (spec_IsShape.l0 k1 l0 (wrap64 (x3_1 + 1))) = some r := by rw [if_pos rfl] at H; exact H
   clear H
   have H := H1
   clear H1
   have H' := aM H
   clear H
   try go_wp2
   have n0_ := aM (below_drew1 HB.out)
   clear HB
   have HB := n0_
   clear n0_
   have p107 : 0 ≤ (x3_1 : Int) := of_decide_eq_true za
   have q107 : x3_1 < (l0.length : Int) := of_decide_eq_true za
   obtain ⟨ad107, e107, hx107_0, hx107_1⟩ := at_T59 HR0.out x3_1 p107 q107
   have hw107_1 := hx107_1
   have hw107_0 := hx107_0
   cases e107
   replace hx107_0 := zk HB.out hx107_0
   replace hx107_1 := zk HB.out hx107_1
   replace p107 := eq_true p107
   replace q107 := eq_true q107
   have p109 : 0 ≤ ((ji7) : Int) := of_decide_eq_true za
   have q109 : (ji7) < (l0.length : Int) := of_decide_eq_true za
   obtain ⟨ad109, e109, hx109_0, hx109_1⟩ := at_T59 HR0.out (ji7) p109 q109
   have hw109_1 := hx109_1
   have hw109_0 := hx109_0
   obtain rfl : ad107 = ad109 := (by injection e109)
   replace hx109_0 := zk HB.out hx109_0
   replace hx109_1 := zk HB.out hx109_1
   replace p109 := eq_true p109
   replace q109 := eq_true q109
   have p110 : 0 ≤ (x3_1 : Int) := of_decide_eq_true za
   have q110 : x3_1 < (l0.length : Int) := of_decide_eq_true za
   obtain ⟨ad110, e110, hx110_0, hx110_1⟩ := at_T59 HR0.out x3_1 p110 q110
   have hw110_1 := hx110_1
   have hw110_0 := hx110_0
   obtain rfl : ad107 = ad110 := (by injection e110)
   replace hx110_0 := zk HB.out hx110_0
   replace hx110_1 := zk HB.out hx110_1
   replace p110 := eq_true p110
   replace q110 := eq_true q110
   refine start_ (n := 23) (S := fun w' => w'.cell? (ad107.add ((x3_1).toNat * 2)) = some (.int .i64 ((rd_T59 l0 x3_1).f0)) ∧ w'.cell? ⟨(ad107.add ((x3_1).toNat * 2)).block, (ad107.add ((x3_1).toNat * 2)).off + 1, none⟩ = some (.int .i64 ((rd_T59 l0 x3_1).f1)) ∧ w'.cell? (ad107.add (((ji7)).toNat * 2)) = some (.int .i64 ((rd_T59 l0 (ji7)).f0)) ∧ w'.cell? ⟨(ad107.add (((ji7)).toNat * 2)).block, (ad107.add (((ji7)).toNat * 2)).off + 1, none⟩ = some (.int .i64 ((rd_T59 l0 (ji7)).f1)) ∧ w'.cell? (ad107.add ((x3_1).toNat * 2)) = some (.int .i64 ((rd_T59 l0 x3_1).f0)) ∧ w'.cell? ⟨(ad107.add ((x3_1).toNat * 2)).block, (ad107.add ((x3_1).toNat * 2)).off + 1, none⟩ = some (.int .i64 ((rd_T59 l0 x3_1).f1))) (ds := []) zA95 (by kernel_rfl) rfl rfl ⟨(zk HB.out hw107_0), (zk HB.out hw107_1), (zk HB.out hw109_0), (zk HB.out hw109_1), (zk HB.out hw110_0), (zk HB.out hw110_1)⟩ (fun hHeld => ?_); refine with_tabW spec_IsShape.tab4 spec_IsShape.bits4 (fun HT_ HW_ => ?_)
   generalize wr.drew = w12 at HB hx107_0 hx107_1 hx109_0 hx109_1 hx110_0 hx110_1 hHeld ⊢
   refine zp 0 (some 10) ?_ zA96 rfl rfl (Or.inl ⟨by rfl, ?_⟩) ?_ ?_ ?_
   rotate_left
   ·intro w'
    go_simp
    with_reducible rfl
   rotate_left
   ·simp only [Act.put, xA, xB, xC, i64_w, i32_w]
    rfl
   refine zp 1 (some 11) ?_ zA97 rfl rfl (Or.inl ⟨by rfl, ?_⟩) ?_ ?_ ?_
   rotate_left
   ·intro w'
    go_simp
    with_reducible rfl
   rotate_left
   ·simp only [Act.put, xA, xB, xC, i64_w, i32_w]
    rfl
   refine zp 2 (some 12) ?_ zA98 rfl rfl (Or.inl ⟨by rfl, ?_⟩) ?_ ?_ ?_
   rotate_left
   ·intro w'
    go_simp
    with_reducible rfl
   rotate_left
   ·simp only [Act.put, xA, xB, xC, i64_w, i32_w]
    rfl
   refine zu 3 (some 13) ?_ zA99 rfl rfl (Or.inl ⟨by rfl, ?_⟩) hHeld ?_ ?_ ?_
   rotate_left
   ·rintro w' ⟨s0, s1, s2, s3, s4, s5⟩
    go_simp
    with_reducible rfl
   rotate_left
   ·simp only [Act.put, xA, xB, xC, i64_w, i32_w]
    rfl
   refine one_ (i := 4) (N := some 14) zA100 rfl rfl (one_of HT_.out (by kernel_rfl)) (by decide) (fun K hK => ?_)
   refine goes_ Try.func105 (by kernel_rfl) rfl #[.agg #[.int .i64 ((rd_T59 l0 x3_1).f0), .int .i64 ((rd_T59 l0 x3_1).f1)]] (by rfl) rfl rfl zm ?_
   with_reducible refine (spec_l02Cell.calls ((rd_T59 l0 x3_1).f0) ((rd_T59 l0 x3_1).f1) true _ A4.out).mono ?_
   rintro e w13 ⟨rfl, hb⟩
   refine ⟨_, rfl, ?_⟩
   have n0_ := aM (below_step zb hb)
   clear HB
   have HB := n0_
   clear n0_
   (try clear hb)
   (try clear hb2)
   (try clear hk)
   (try clear hi)
   refine hK.out _ _ ⟨(zk HB.out hw107_0), (zk HB.out hw107_1), (zk HB.out hw109_0), (zk HB.out hw109_1), (zk HB.out hw110_0), (zk HB.out hw110_1)⟩ (fun hHeld => ?_)
   clear hK K
   refine norm_ (a' := ?_) ?_ ?_
   rotate_left
   ·show Act.put _ (some 14) _ = _
    simp only [Act.put, xA, xB, xC, i64_w, i32_w]
    rfl
   refine zp 5 (some 15) ?_ zA101 rfl rfl (Or.inl ⟨by rfl, ?_⟩) ?_ ?_ ?_
   rotate_left
   ·intro w'
    go_simp
    with_reducible rfl
   rotate_left
   ·simp only [Act.put, xA, xB, xC, i64_w, i32_w]
    rfl
   refine zp 6 (some 16) ?_ zA102 rfl rfl (Or.inl ⟨by rfl, ?_⟩) ?_ ?_ ?_
   rotate_left
   ·intro w'
    go_simp
    with_reducible rfl
   rotate_left
   ·simp only [Act.put, xA, xB, xC, i64_w, i32_w]
    rfl
   refine zp 7 (some 17) ?_ zA103 rfl rfl (Or.inl ⟨by rfl, ?_⟩) ?_ ?_ ?_
   rotate_left
   ·intro w'
    go_simp
    with_reducible rfl
   rotate_left
   ·simp only [Act.put, xA, xB, xC, i64_w, i32_w]
    rfl
   refine zp 8 (some 18) ?_ zA104 rfl rfl (Or.inl ⟨by rfl, ?_⟩) ?_ ?_ ?_
   rotate_left
   ·intro w'
    go_simp
    with_reducible rfl
   rotate_left
   ·simp only [Act.put, xA, xB, xC, i64_w, i32_w]
    rfl
   refine zp 9 (some 19) ?_ zA105 rfl rfl (Or.inl ⟨by rfl, ?_⟩) ?_ ?_ ?_
   rotate_left
   ·intro w'
    go_simp
    with_reducible rfl
   rotate_left
   ·simp only [Act.put, xA, xB, xC, i64_w, i32_w]
    rfl
   refine zp 10 (some 20) ?_ zA106 rfl rfl (Or.inl ⟨by rfl, ?_⟩) ?_ ?_ ?_
   rotate_left
   ·intro w'
    go_simp
    with_reducible rfl
   rotate_left
   ·simp only [Act.put, xA, xB, xC, i64_w, i32_w]
    rfl
   refine zp 11 (some 21) ?_ zA107 rfl rfl (Or.inl ⟨by rfl, ?_⟩) ?_ ?_ ?_
   rotate_left
   ·intro w'
    go_simp
    with_reducible rfl
   rotate_left
   ·simp only [Act.put, xA, xB, xC, i64_w, i32_w]
    rfl
   refine zp 12 (some 22) ?_ zA108 rfl rfl (Or.inl ⟨by rfl, ?_⟩) ?_ ?_ ?_
   rotate_left
   ·intro w'
    go_simp
    with_reducible rfl
   rotate_left
   ·simp only [Act.put, xA, xB, xC, i64_w, i32_w]
    rfl
   refine zp 13 (some 23) ?_ zA109 rfl rfl (Or.inl ⟨by rfl, ?_⟩) ?_ ?_ ?_
   rotate_left
   ·intro w'
    go_simp
    with_reducible rfl
   rotate_left
   ·simp only [Act.put, xA, xB, xC, i64_w, i32_w]
    rfl
   refine zp 15 (some 25) ?_ zA119 rfl rfl (Or.inl ⟨by rfl, ?_⟩) ?_ ?_ ?_
   rotate_left
   ·intro w'
    go_simp
    with_reducible rfl
   rotate_left
   ·simp only [Act.put, xA, xB, xC, i64_w, i32_w]
    rfl
   refine zp 16 (some 26) ?_ zA120 rfl rfl (Or.inl ⟨by rfl, ?_⟩) ?_ ?_ ?_
   rotate_left
   ·intro w'
    go_simp
    with_reducible rfl
   rotate_left
   ·simp only [Act.put, xA, xB, xC, i64_w, i32_w]
    rfl
   refine zp 17 (some 27) ?_ zA121 rfl rfl (Or.inl ⟨by rfl, ?_⟩) ?_ ?_ ?_
   rotate_left
   ·intro w'
    go_simp
    with_reducible rfl
   rotate_left
   ·simp only [Act.put, xA, xB, xC, i64_w, i32_w]
    rfl
   refine zu 14 (some 24) ?_ zA113 rfl rfl (Or.inl ⟨by rfl, ?_⟩) hHeld ?_ ?_ ?_
   rotate_left
   ·rintro w' ⟨s0, s1, s2, s3, s4, s5⟩
    go_simp
    with_reducible rfl
   rotate_left
   ·simp only [Act.put, xA, xB, xC, i64_w, i32_w]
    rfl
   refine zu 18 (some 28) ?_ zA114 rfl rfl (Or.inl ⟨by rfl, ?_⟩) hHeld ?_ ?_ ?_
   rotate_left
   ·rintro w' ⟨s0, s1, s2, s3, s4, s5⟩
    go_simp
    with_reducible rfl
   rotate_left
   ·simp only [Act.put, xA, xB, xC, i64_w, i32_w]
    rfl
   refine one_ (i := 19) (N := some 29) zA115 rfl rfl (one_of HT_.out (by kernel_rfl)) (by decide) (fun K hK => ?_)
   refine goes_ Try.func106 (by kernel_rfl) rfl #[.agg #[.int .i64 ((rd_T59 l0 (ji7)).f0), .int .i64 ((rd_T59 l0 (ji7)).f1)], .agg #[.int .i64 ((rd_T59 l0 x3_1).f0), .int .i64 ((rd_T59 l0 x3_1).f1)]] (by rfl) rfl rfl (by (try simp only [mA, mB, mC]); first | done | (simp only [hji7]; rfl) | rfl | (simp only [lD, lT]; rfl)) ?_
   with_reducible refine (spec_l02Less.calls ((rd_T59 l0 (ji7)).f0) ((rd_T59 l0 (ji7)).f1) ((rd_T59 l0 x3_1).f0) ((rd_T59 l0 x3_1).f1) true _ A10.out).mono ?_
   rintro e w14 ⟨rfl, hb⟩
   refine ⟨_, rfl, ?_⟩
   have n0_ := aM (below_step zb hb)
   clear HB
   have HB := n0_
   clear n0_
   (try clear hb)
   (try clear hb2)
   (try clear hk)
   (try clear hi)
   refine hK.out _ _ ⟨(zk HB.out hw107_0), (zk HB.out hw107_1), (zk HB.out hw109_0), (zk HB.out hw109_1), (zk HB.out hw110_0), (zk HB.out hw110_1)⟩ (fun hHeld => ?_)
   clear hK K
   refine norm_ (a' := ?_) ?_ ?_
   rotate_left
   ·show Act.put _ (some 29) _ = _
    simp only [Act.put, xA, xB, xC, i64_w, i32_w]
    rfl
   refine zp 20 (some 30) ?_ zA116 rfl rfl (Or.inl ⟨by rfl, ?_⟩) ?_ ?_ ?_
   rotate_left
   ·intro w'
    go_simp
    with_reducible rfl
   rotate_left
   ·simp only [Act.put, xA, xB, xC, i64_w, i32_w]
    rfl
   refine zp 21 (some 31) ?_ zA117 rfl rfl (Or.inl ⟨by rfl, ?_⟩) ?_ ?_ ?_
   rotate_left
   ·intro w'
    go_simp
    with_reducible rfl
   rotate_left
   ·simp only [Act.put, xA, xB, xC, i64_w, i32_w]
    rfl
   refine zp 22 (some 32) ?_ zA118 rfl rfl (Or.inl ⟨by rfl, ?_⟩) ?_ ?_ ?_
   rotate_left
   ·intro w'
    go_simp
    with_reducible rfl
   rotate_left
   ·simp only [Act.put, xA, xB, xC, i64_w, i32_w]
    rfl
   refine done_ (done_of HT_.out (by kernel_rfl)) ?_
   try go_wp2
   go_roundg k1
   case measure => have := HK1.out; omega
   case rel => exact ⟨(wrap64 (x3_1 + 1)), zr, H', ⟨by have := HK1.out; omega⟩, ⟨zb⟩⟩
mutual
def spec_ConvexityOf.l0 : Nat → List (S59) → Bool → Bool → Int → Option (Bool × Bool × Int)
 | 0, _, _, _, _ => none
 | k + 1, x0, x5, x6, x7 => if x7 < (x0.length : Int) then (spec_ConvexityOf.l1 k x0 x5 x6 x7 0) else (some (x5, x6, 0))
def spec_ConvexityOf.l1 : Nat → List (S59) → Bool → Bool → Int → Int → Option (Bool × Bool × Int)
 | 0, _, _, _, _, _ => none
 | k + 1, x0, x5, x6, x7, x8 => if x8 < (x0.length : Int) then (if 0 ≤ x7 then (if x7 < (x0.length : Int) then (if 0 ≤ x8 then (if ((rd_T59 x0 x7).f1) = ((rd_T59 x0 x8).f1) then (spec_ConvexityOf.l2 k x0 x5 x6 x7 x8 ((rd_T59 x0 x7).f0) ((rd_T59 x0 x7).f0) ((rd_T59 x0 x7).f1) ((rd_T59 x0 x8).f0) ((rd_T59 x0 x8).f1)) else (spec_ConvexityOf.j3 k x0 x5 x6 x7 x8 ((rd_T59 x0 x7).f0) ((rd_T59 x0 x7).f1) ((rd_T59 x0 x8).f0) ((rd_T59 x0 x8).f1))) else (none)) else (none)) else (none)) else (spec_ConvexityOf.l0 k x0 x5 x6 (wrap64 (x7 + 1)))
def spec_ConvexityOf.j3 : Nat → List (S59) → Bool → Bool → Int → Int → Int → Int → Int → Int → Option (Bool × Bool × Int)
 | 0, _, _, _, _, _, _, _, _, _ => none
 | k + 1, x0, x5, x6, x7, x8, x516000, x516001, x517000, x517001 => if x516000 = x517000 then (spec_ConvexityOf.l3 k x0 x5 x6 x7 x8 x516001 x516000 x516001 x517000 x517001) else (spec_ConvexityOf.l1 k x0 x5 x6 x7 (wrap64 (x8 + 1)))
def spec_ConvexityOf.l3 : Nat → List (S59) → Bool → Bool → Int → Int → Int → Int → Int → Int → Int → Option (Bool × Bool × Int)
 | 0, _, _, _, _, _, _, _, _, _, _ => none
 | k + 1, x0, x5, x6, x7, x8, x12, x516000, x516001, x517000, x517001 => if x12 < x517001 then (if x6 = true then ((spec_l02Index.f k x0 x516000 x12).bind fun t518 => (spec_ConvexityOf.l3 k x0 x5 (decide (t518 ≥ 0)) x7 x8 (wrap64 (x12 + 1)) x516000 x516001 x517000 x517001)) else (spec_ConvexityOf.l3 k x0 x5 false x7 x8 (wrap64 (x12 + 1)) x516000 x516001 x517000 x517001)) else (spec_ConvexityOf.l1 k x0 x5 x6 x7 (wrap64 (x8 + 1)))
def spec_ConvexityOf.l2 : Nat → List (S59) → Bool → Bool → Int → Int → Int → Int → Int → Int → Int → Option (Bool × Bool × Int)
 | 0, _, _, _, _, _, _, _, _, _, _ => none
 | k + 1, x0, x5, x6, x7, x8, x11, x516000, x516001, x517000, x517001 => if x11 < x517000 then (if x5 = true then ((spec_l02Index.f k x0 x11 x516001).bind fun t517 => (spec_ConvexityOf.l2 k x0 (decide (t517 ≥ 0)) x6 x7 x8 (wrap64 (x11 + 1)) x516000 x516001 x517000 x517001)) else (spec_ConvexityOf.l2 k x0 false x6 x7 x8 (wrap64 (x11 + 1)) x516000 x516001 x517000 x517001)) else (spec_ConvexityOf.j3 k x0 x5 x6 x7 x8 x516000 x516001 x517000 x517001)
end
def spec_ConvexityOf.f (k : Nat) (l0 : List (S59)) : Option (Bool × Bool × Int) := (spec_IsShape.f k l0).bind fun t512 => (if t512 = true then (spec_ConvexityOf.l0 k l0 true true 0) else (some (false, false, 1)))
def spec_ConvexityOf.T10 : Bool × List (List Nat × List Nat) := (true, [([], []), ([], []), ([0, 1], [0, 1]), ([2], [2]), ([], []), ([], []), ([4, 5], [4, 5]), ([6], [6]), ([], []), ([], []), ([8, 3, 0, 1, 2, 3, 8, 9], [3, 8]), ([9, 7, 10, 0, 1, 2, 3, 4, 5, 6, 7, 8, 9, 10], [7, 9])])
def spec_ConvexityOf.B10 : List Nat := [0, 0, 3, 7, 0, 0, 48, 112, 0, 0, 783, 2047]
theorem spec_ConvexityOf.tab10 : rtab .any (opsOf Try.f19 10) = spec_ConvexityOf.T10 := by kernel_rfl
theorem spec_ConvexityOf.bits10 : waitsOk spec_ConvexityOf.T10.2 spec_ConvexityOf.B10 = true := by kernel_rfl
theorem spec_ConvexityOf.calls (k : Nat) (A0 : Option Addr) (c0 : Nat) (l0 : List (S59)) (r1 : Bool) (r2 : Bool) (r3 : Int) (w : World) (hr0 : Kd.C k59 w A0 l0.length l0) (hc0 : l0.length ≤ c0) (h : spec_ConvexityOf.f k l0 = some (r1, r2, r3)) :
  Calls Try.prog 19 #[.slice A0 l0.length c0] w fun e w' => e = .returned (.tuple #[.bool r1, .bool r2, .int .i64 r3]) ∧ Below w.heap.size w w' := by
 have hu59 := Try.underlying59
 have HR0 := aM hr0
 have HC0 := aM hc0
 clear hr0 hc0
 have HB := aM (Below.refl w.heap.size w)
 have H : ((spec_IsShape.f k l0).bind fun t512 => (if t512 = true then (spec_ConvexityOf.l0 k l0 true true 0) else (some (false, false, 1)))) = some (r1, r2, r3) := h
 clear h
 replace H := Option.bind_eq_some_iff.mp H
 obtain ⟨t512, A20, H⟩ := H
 replace H : (if t512 = true then (spec_ConvexityOf.l0 k l0 true true 0) else (some (false, false, 1))) = some (r1, r2, r3) := H
 have A2 := aM A20
 clear A20
 by_cases c3 : t512 = true
 rotate_left
 ·replace c3 := Bool.eq_false_iff.mpr c3
  subst c3
  have H1 : (some (false, false, 1)) = some (r1, r2, r3) := by rw [if_neg (show ¬ (false = true) by decide)] at H; exact H
  clear H
  have H := H1
  clear H1
  simp only [Option.some.injEq, Prod.mk.injEq] at H
  obtain ⟨rfl, rfl, rfl⟩ := H
  go_enter Try.func19, Try.ntmps19
  go_wp2_with (first | ((with_reducible refine gate_callee (f := 66) rfl ?_); refine goesL_ (some 14) rfl rfl Try.func66 (by kernel_rfl) rfl #[.slice A0 l0.length c0] rfl zm ?_; (with_reducible refine (spec_IsShape.calls k _ _ l0 false _ ?side1 ?side2 A2.out).mono ?_); (case side1 => repeat (first | exact HR0.out | (with_reducible refine Kd.C_alloc ?_ _) | (with_reducible refine Kd.C_drewN ?_ _) | (with_reducible refine Kd.C_drew ?_))); (case side2 => exact HC0.out); rintro e w54 ⟨rfl, hb⟩; refine ⟨_, rfl, ?_⟩; have n0_ := aM (below_step zb hb); clear HB; have HB := n0_; clear n0_; (try clear hb); (try clear hb2); (try clear hk); (try clear hi)))
  go_ret3
  exact ⟨zw, zb⟩
 subst c3
 have H1 : (spec_ConvexityOf.l0 k l0 true true 0) = some (r1, r2, r3) := by rw [if_pos rfl] at H; exact H
 clear H
 have H := H1
 clear H1
 have H' := aM H
 clear H
 go_enter Try.func19, Try.ntmps19
 go_wp2_with (first | ((with_reducible refine gate_callee (f := 66) rfl ?_); refine goesL_ (some 14) rfl rfl Try.func66 (by kernel_rfl) rfl #[.slice A0 l0.length c0] rfl zm ?_; (with_reducible refine (spec_IsShape.calls k _ _ l0 true _ ?side1 ?side2 A2.out).mono ?_); (case side1 => repeat (first | exact HR0.out | (with_reducible refine Kd.C_alloc ?_ _) | (with_reducible refine Kd.C_drewN ?_ _) | (with_reducible refine Kd.C_drew ?_))); (case side2 => exact HC0.out); rintro e w4 ⟨rfl, hb⟩; refine ⟨_, rfl, ?_⟩; have n0_ := aM (below_step zb hb); clear HB; have HB := n0_; clear n0_; (try clear hb); (try clear hb2); (try clear hk); (try clear hi)))
 go_loopg [5, 6, 7] k (fun kq v5 v6 v7 w' => ∃ (x5_1 : Bool) (x6_1 : Bool) (x7_1 : Int), v5 = .bool x5_1 ∧ v6 = .bool x6_1 ∧ v7 = .int .i64 x7_1 ∧ Aside0 (spec_ConvexityOf.l0 kq l0 x5_1 x6_1 x7_1 = some (r1, r2, r3)) ∧ Aside0 (kq ≤ k) ∧ Aside0 (Below w.heap.size w w'))
 case atStart => exact ⟨(true), (true), (0), zr, zr, zr, H', ⟨Nat.le_refl _⟩, ⟨zb⟩⟩
 case round =>
  clear H'
  try clear c1
  try clear p2
  try clear c3
  obtain ⟨x5_1, x6_1, x7_1, rfl, rfl, rfl, HA, HK1, HB⟩ := hrel
  cases gk with
  | zero => exact absurd HA.out (by simp [spec_ConvexityOf.l0])
  | succ k1 =>
   have H := HA.out
   clear HA
   simp only [spec_ConvexityOf.l0] at H
   by_cases c5 : x7_1 < (l0.length : Int)
   rotate_left
   ·rw [if_neg c5] at H
    have c5b0 : decide (x7_1 < (l0.length : Int)) = false := decide_eq_false c5
    clear c5
    simp only [Option.some.injEq, Prod.mk.injEq] at H
    obtain ⟨rfl, rfl, rfl⟩ := H
    go_wp2
    go_ret3
    exact ⟨zw, zb⟩
   rw [if_pos c5] at H
   have c5b0 : decide (x7_1 < (l0.length : Int)) = true := decide_eq_true c5
   clear c5
   have H' := aM H
   clear H
   go_wp2
   go_loopg [5, 6, 8] k1 (fun kq v5 v6 v8 w' => ∃ (x5_2 : Bool) (x6_2 : Bool) (x8_2 : Int), v5 = .bool x5_2 ∧ v6 = .bool x6_2 ∧ v8 = .int .i64 x8_2 ∧ Aside0 (spec_ConvexityOf.l1 kq l0 x5_2 x6_2 x7_1 x8_2 = some (r1, r2, r3)) ∧ Aside0 (kq ≤ k1) ∧ Aside0 (Below w.heap.size w w'))
   case atStart => exact ⟨(x5_1), (x6_1), (0), zr, zr, zr, H', ⟨Nat.le_refl _⟩, ⟨zb⟩⟩
   case round =>
    clear H'
    try clear c1
    try clear p2
    try clear c3
    try clear c5
    try clear c5b0
    try clear p2
    obtain ⟨x5_2, x6_2, x8_2, rfl, rfl, rfl, HA, HK2, HB⟩ := hrel
    cases gk with
    | zero => exact absurd HA.out (by simp [spec_ConvexityOf.l1])
    | succ k2 =>
     have H := HA.out
     clear HA
     simp only [spec_ConvexityOf.l1] at H
     by_cases c6 : x8_2 < (l0.length : Int)
     rotate_left
     ·rw [if_neg c6] at H
      have c6b0 : decide (x8_2 < (l0.length : Int)) = false := decide_eq_false c6
      clear c6
      have H' := aM H
      clear H
      go_wp2
      go_roundg k2
      case measure => have := HK1.out; have := HK2.out; omega
      case rel => exact ⟨(x5_2), (x6_2), (wrap64 (x7_1 + 1)), zr, zr, zr, H', ⟨by have := HK1.out; have := HK2.out; omega⟩, ⟨zb⟩⟩
     rw [if_pos c6] at H
     have c6b0 : decide (x8_2 < (l0.length : Int)) = true := decide_eq_true c6
     clear c6
     by_cases c7 : 0 ≤ x7_1
     rotate_left
     ·rw [if_neg c7] at H
      exact absurd H (by simp)
     rw [if_pos c7] at H
     have c7b0 : decide (0 ≤ x7_1) = true := decide_eq_true c7
     clear c7
     by_cases c8 : x7_1 < (l0.length : Int)
     rotate_left
     ·rw [if_neg c8] at H
      exact absurd H (by simp)
     rw [if_pos c8] at H
     have c8b0 : decide (x7_1 < (l0.length : Int)) = true := decide_eq_true c8
     clear c8
     by_cases c9 : 0 ≤ x8_2
     rotate_left
     ·rw [if_neg c9] at H
      exact absurd H (by simp)
     rw [if_pos c9] at H
     have c9b0 : decide (0 ≤ x8_2) = true := decide_eq_true c9
     clear c9
     have HC10 := aM H
     clear H
     try go_wp2
     have n0_ := aM (below_drew1 HB.out)
     clear HB
     have HB := n0_
     clear n0_
     have p513 : 0 ≤ (x7_1 : Int) := of_decide_eq_true za
     have q513 : x7_1 < (l0.length : Int) := of_decide_eq_true za
     obtain ⟨ad513, e513, hx513_0, hx513_1⟩ := at_T59 HR0.out x7_1 p513 q513
     have hw513_1 := hx513_1
     have hw513_0 := hx513_0
     cases e513
     replace hx513_0 := zk HB.out hx513_0
     replace hx513_1 := zk HB.out hx513_1
     replace p513 := eq_true p513
     replace q513 := eq_true q513
     have p514 : 0 ≤ (x8_2 : Int) := of_decide_eq_true za
     have q514 : x8_2 < (l0.length : Int) := of_decide_eq_true za
     obtain ⟨ad514, e514, hx514_0, hx514_1⟩ := at_T59 HR0.out x8_2 p514 q514
     have hw514_1 := hx514_1
     have hw514_0 := hx514_0
     obtain rfl : ad513 = ad514 := (by injection e514)
     replace hx514_0 := zk HB.out hx514_0
     replace hx514_1 := zk HB.out hx514_1
     replace p514 := eq_true p514
     replace q514 := eq_true q514
     refine start_ (n := 12) (S := fun w' => w'.cell? (ad513.add ((x7_1).toNat * 2)) = some (.int .i64 ((rd_T59 l0 x7_1).f0)) ∧ w'.cell? ⟨(ad513.add ((x7_1).toNat * 2)).block, (ad513.add ((x7_1).toNat * 2)).off + 1, none⟩ = some (.int .i64 ((rd_T59 l0 x7_1).f1)) ∧ w'.cell? (ad513.add ((x8_2).toNat * 2)) = some (.int .i64 ((rd_T59 l0 x8_2).f0)) ∧ w'.cell? ⟨(ad513.add ((x8_2).toNat * 2)).block, (ad513.add ((x8_2).toNat * 2)).off + 1, none⟩ = some (.int .i64 ((rd_T59 l0 x8_2).f1))) (ds := []) zA122 (by kernel_rfl) rfl rfl ⟨(zk HB.out hw513_0), (zk HB.out hw513_1), (zk HB.out hw514_0), (zk HB.out hw514_1)⟩ (fun hHeld => ?_); refine with_tabW spec_ConvexityOf.tab10 spec_ConvexityOf.bits10 (fun HT_ HW_ => ?_)
     generalize wr.drew = w11 at HB hx513_0 hx513_1 hx514_0 hx514_1 hHeld ⊢
     refine zp 0 (some 28) ?_ zA123 rfl rfl (Or.inl ⟨by rfl, ?_⟩) ?_ ?_ ?_
     rotate_left
     ·intro w'
      go_simp
      with_reducible rfl
     rotate_left
     ·simp only [Act.put, xA, xB, xC, i64_w, i32_w]
      rfl
     refine zp 1 (some 29) ?_ zA124 rfl rfl (Or.inl ⟨by rfl, ?_⟩) ?_ ?_ ?_
     rotate_left
     ·intro w'
      go_simp
      with_reducible rfl
     rotate_left
     ·simp only [Act.put, xA, xB, xC, i64_w, i32_w]
      rfl
     refine zp 2 (some 30) ?_ zA125 rfl rfl (Or.inl ⟨by rfl, ?_⟩) ?_ ?_ ?_
     rotate_left
     ·intro w'
      go_simp
      with_reducible rfl
     rotate_left
     ·simp only [Act.put, xA, xB, xC, i64_w, i32_w]
      rfl
     refine zp 4 (some 32) ?_ zA126 rfl rfl (Or.inl ⟨by rfl, ?_⟩) ?_ ?_ ?_
     rotate_left
     ·intro w'
      go_simp
      with_reducible rfl
     rotate_left
     ·simp only [Act.put, xA, xB, xC, i64_w, i32_w]
      rfl
     refine zp 5 (some 33) ?_ zA127 rfl rfl (Or.inl ⟨by rfl, ?_⟩) ?_ ?_ ?_
     rotate_left
     ·intro w'
      go_simp
      with_reducible rfl
     rotate_left
     ·simp only [Act.put, xA, xB, xC, i64_w, i32_w]
      rfl
     refine zp 6 (some 34) ?_ zA128 rfl rfl (Or.inl ⟨by rfl, ?_⟩) ?_ ?_ ?_
     rotate_left
     ·intro w'
      go_simp
      with_reducible rfl
     rotate_left
     ·simp only [Act.put, xA, xB, xC, i64_w, i32_w]
      rfl
     refine zu 3 (some 31) ?_ zA129 rfl rfl (Or.inl ⟨by rfl, ?_⟩) hHeld ?_ ?_ ?_
     rotate_left
     ·rintro w' ⟨s0, s1, s2, s3⟩
      go_simp
      with_reducible rfl
     rotate_left
     ·simp only [Act.put, xA, xB, xC, i64_w, i32_w]
      rfl
     refine zu 7 (some 35) ?_ zA130 rfl rfl (Or.inl ⟨by rfl, ?_⟩) hHeld ?_ ?_ ?_
     rotate_left
     ·rintro w' ⟨s0, s1, s2, s3⟩
      go_simp
      with_reducible rfl
     rotate_left
     ·simp only [Act.put, xA, xB, xC, i64_w, i32_w]
      rfl
     refine join_ (σ := Nat × Nat) 2 zA131 (fun s_ => [(9, .pointer (some ⟨s_.1, 0, none⟩)), (10, .pointer (some ⟨s_.2, 0, none⟩))]) (fun s_ w' => (w'.cell? (ad513.add ((x7_1).toNat * 2)) = some (.int .i64 ((rd_T59 l0 x7_1).f0)) ∧ w'.cell? ⟨(ad513.add ((x7_1).toNat * 2)).block, (ad513.add ((x7_1).toNat * 2)).off + 1, none⟩ = some (.int .i64 ((rd_T59 l0 x7_1).f1)) ∧ w'.cell? (ad513.add ((x8_2).toNat * 2)) = some (.int .i64 ((rd_T59 l0 x8_2).f0)) ∧ w'.cell? ⟨(ad513.add ((x8_2).toNat * 2)).block, (ad513.add ((x8_2).toNat * 2)).off + 1, none⟩ = some (.int .i64 ((rd_T59 l0 x8_2).f1))) ∧ (w'.heap[s_.1]? = some (.cells #[.int .i64 0, .int .i64 0] 59 (0, 0))) ∧ (w'.heap[s_.2]? = some (.cells #[.int .i64 0, .int .i64 0] 59 (0, 0))) ∧ (w.heap.size ≤ s_.1) ∧ (w.heap.size ≤ s_.1) ∧ (s_.2 ≠ s_.1) ∧ (s_.1 ≠ s_.2) ∧ (w.heap.size ≤ s_.2) ∧ (w.heap.size ≤ s_.2) ∧ (Below w.heap.size w w')) ?_ ?_
     rotate_left
     ·intro hCont
      refine two_ (i := 8) (j := 9) (Ni := some 9) (Nj := some 10) zA132 zA133 rfl rfl rfl rfl (two_of HT_.out (by kernel_rfl)) (by decide) (by decide) (fun K hK => ?_) (fun K hK => ?_)
      ·skip
       refine box_step ?hg (N := 9) ?hd (cs := #[.int .i64 0, .int .i64 0]) (t := 59) ?hr ?_; (case hd => rfl); (case hg => rfl); (case hr => first | (go_simp; done) | (go_simp; rfl))
       intro gb515 hg w12 hbox hb
       have n0_ := aM (below_step zb hb)
       have n1_ := aM (hbox)
       have n2_ := aM ((ze : w.heap.size ≤ gb515))
       have n3_ := aM ((ze : w.heap.size ≤ gb515))
       clear HB
       have HB := n0_
       have BK515 := n1_
       have GW515 := n2_
       have GE515 := n3_
       clear n0_ n1_ n2_ n3_
       clear hb hbox hg
       refine hK.out _ _ ⟨(zk HB.out hw513_0), (zk HB.out hw513_1), (zk HB.out hw514_0), (zk HB.out hw514_1)⟩ (fun hHeld => ?_)
       clear hK K
       refine norm_ (a' := ?_) ?_ ?_
       rotate_left
       ·show Act.put _ (some 9) _ = _
        simp only [Act.put, xA, xB, xC, i64_w, i32_w]
        rfl
       refine one_ (i := 9) (N := some 10) zA131 rfl rfl (one_of HT_.out (by kernel_rfl)) (by decide) (fun K hK => ?_)
       refine box_step ?hg (N := 10) ?hd (cs := #[.int .i64 0, .int .i64 0]) (t := 59) ?hr ?_; (case hd => rfl); (case hg => rfl); (case hr => first | (go_simp; done) | (go_simp; rfl))
       intro gb516 hg w13 hbox hb
       have n0_ := aM (blk_below (g := gb515) (o := .cells #[.int .i64 0, .int .i64 0] 59 (0, 0)) (mB_ BK515.out) hb)
       have n1_ := aM (below_step (zs GE515.out) hb)
       have n2_ := aM (hbox)
       have n3_ := aM ((zf GE515.out : w.heap.size ≤ gb516))
       have n4_ := aM ((zf GE515.out : w.heap.size ≤ gb516))
       have n5_ := aM ((zl BK515.out : gb515 ≠ gb516))
       have n6_ := aM ((zn BK515.out : gb516 ≠ gb515))
       clear BK515
       clear HB
       have BK515 := n0_
       have HB := n1_
       have BK516 := n2_
       have GW516 := n3_
       have GE516 := n4_
       have NB515_516 := n5_
       have NB516_515 := n6_
       clear n0_ n1_ n2_ n3_ n4_ n5_ n6_
       clear hb hbox hg
       refine hK.out _ _ ⟨(zk HB.out hw513_0), (zk HB.out hw513_1), (zk HB.out hw514_0), (zk HB.out hw514_1)⟩ (fun hHeld => ?_)
       clear hK K
       refine norm_ (a' := ?_) ?_ ?_
       rotate_left
       ·show Act.put _ (some 10) _ = _
        simp only [Act.put, xA, xB, xC, i64_w, i32_w]
        rfl
       exact norm_ (by simp only [putAll, Act.put, xA, xB, xC]) (hCont (gb515, gb516) _ ⟨hHeld, (mB_ BK515.out), (mB_ BK516.out), GW515.out, GE515.out, NB516_515.out, NB515_516.out, GW516.out, GE516.out, (zt GE515.out GE516.out)⟩)
      ·skip
       refine box_step ?hg (N := 10) ?hd (cs := #[.int .i64 0, .int .i64 0]) (t := 59) ?hr ?_; (case hd => rfl); (case hg => rfl); (case hr => first | (go_simp; done) | (go_simp; rfl))
       intro gb516 hg w12 hbox hb
       have n0_ := aM (below_step zb hb)
       have n1_ := aM (hbox)
       have n2_ := aM ((ze : w.heap.size ≤ gb516))
       have n3_ := aM ((ze : w.heap.size ≤ gb516))
       clear HB
       have HB := n0_
       have BK516 := n1_
       have GW516 := n2_
       have GE516 := n3_
       clear n0_ n1_ n2_ n3_
       clear hb hbox hg
       refine hK.out _ _ ⟨(zk HB.out hw513_0), (zk HB.out hw513_1), (zk HB.out hw514_0), (zk HB.out hw514_1)⟩ (fun hHeld => ?_)
       clear hK K
       refine norm_ (a' := ?_) ?_ ?_
       rotate_left
       ·show Act.put _ (some 10) _ = _
        simp only [Act.put, xA, xB, xC, i64_w, i32_w]
        rfl
       refine one_ (i := 8) (N := some 9) zA131 rfl rfl (one_of HT_.out (by kernel_rfl)) (by decide) (fun K hK => ?_)
       refine box_step ?hg (N := 9) ?hd (cs := #[.int .i64 0, .int .i64 0]) (t := 59) ?hr ?_; (case hd => rfl); (case hg => rfl); (case hr => first | (go_simp; done) | (go_simp; rfl))
       intro gb515 hg w13 hbox hb
       have n0_ := aM (blk_below (g := gb516) (o := .cells #[.int .i64 0, .int .i64 0] 59 (0, 0)) (mB_ BK516.out) hb)
       have n1_ := aM (below_step (zs GE516.out) hb)
       have n2_ := aM (hbox)
       have n3_ := aM ((zf GE516.out : w.heap.size ≤ gb515))
       have n4_ := aM ((zf GE516.out : w.heap.size ≤ gb515))
       have n5_ := aM ((zl BK516.out : gb516 ≠ gb515))
       have n6_ := aM ((zn BK516.out : gb515 ≠ gb516))
       clear BK516
       clear HB
       have BK516 := n0_
       have HB := n1_
       have BK515 := n2_
       have GW515 := n3_
       have GE515 := n4_
       have NB516_515 := n5_
       have NB515_516 := n6_
       clear n0_ n1_ n2_ n3_ n4_ n5_ n6_
       clear hb hbox hg
       refine hK.out _ _ ⟨(zk HB.out hw513_0), (zk HB.out hw513_1), (zk HB.out hw514_0), (zk HB.out hw514_1)⟩ (fun hHeld => ?_)
       clear hK K
       refine norm_ (a' := ?_) ?_ ?_
       rotate_left
       ·show Act.put _ (some 9) _ = _
        simp only [Act.put, xA, xB, xC, i64_w, i32_w]
        rfl
       exact norm_ (by simp only [putAll, Act.put, xA, xB, xC]) (hCont (gb515, gb516) _ ⟨hHeld, (mB_ BK515.out), (mB_ BK516.out), GW515.out, GE515.out, NB516_515.out, NB515_516.out, GW516.out, GE516.out, (zt GE516.out GE515.out)⟩)
     rintro ⟨gb515, gb516⟩ w14 ⟨hS_, h0_, h1_, h2_, h3_, h4_, h5_, h6_, h7_, h8_⟩
     have n0_ : Aside0 (w14.heap[gb515]? = some (.cells #[.int .i64 0, .int .i64 0] 59 (0, 0))) := ⟨h0_⟩
     have n1_ : Aside0 (w14.heap[gb516]? = some (.cells #[.int .i64 0, .int .i64 0] 59 (0, 0))) := ⟨h1_⟩
     have n2_ : Aside0 (w.heap.size ≤ gb515) := ⟨h2_⟩
     have n3_ : Aside0 (w.heap.size ≤ gb515) := ⟨h3_⟩
     have n4_ : Aside0 (gb516 ≠ gb515) := ⟨h4_⟩
     have n5_ : Aside0 (gb515 ≠ gb516) := ⟨h5_⟩
     have n6_ : Aside0 (w.heap.size ≤ gb516) := ⟨h6_⟩
     have n7_ : Aside0 (w.heap.size ≤ gb516) := ⟨h7_⟩
     have n8_ : Aside0 (Below w.heap.size w w14) := ⟨h8_⟩
     clear HB
     clear h0_ h1_ h2_ h3_ h4_ h5_ h6_ h7_ h8_
     have BK515 := n0_
     have BK516 := n1_
     have GW515 := n2_
     have GE515 := n3_
     have NB516_515 := n4_
     have NB515_516 := n5_
     have GW516 := n6_
     have GE516 := n7_
     have HB := n8_
     clear n0_ n1_ n2_ n3_ n4_ n5_ n6_ n7_ n8_
     have hHeld : w14.cell? (ad513.add ((x7_1).toNat * 2)) = some (.int .i64 ((rd_T59 l0 x7_1).f0)) ∧ w14.cell? ⟨(ad513.add ((x7_1).toNat * 2)).block, (ad513.add ((x7_1).toNat * 2)).off + 1, none⟩ = some (.int .i64 ((rd_T59 l0 x7_1).f1)) ∧ w14.cell? (ad513.add ((x8_2).toNat * 2)) = some (.int .i64 ((rd_T59 l0 x8_2).f0)) ∧ w14.cell? ⟨(ad513.add ((x8_2).toNat * 2)).block, (ad513.add ((x8_2).toNat * 2)).off + 1, none⟩ = some (.int .i64 ((rd_T59 l0 x8_2).f1)) := hS_
     refine norm_ (a' := ?_) ?_ ?_
     rotate_left
     ·simp only [putAll, Act.put, xA, xB, xC]
      rfl
     refine one_ (i := 10) (N := none) zA134 rfl rfl (one_of HT_.out (by kernel_rfl)) (by decide) (fun K hK => ?_)
     have hs15 : w14.cell? ⟨gb515, 0, none⟩ = some (.int .i64 0) := (blk_cell BK515.out 0).trans rfl
     have hfs15 := blk_frozen BK515.out 0
     have hns15_1 := NB516_515.out
     have hms15_1 := NB515_516.out
     have hs16 : w14.cell? ⟨gb515, 1, none⟩ = some (.int .i64 0) := (blk_cell BK515.out 1).trans rfl
     have hfs16 := blk_frozen BK515.out 1
     have hns16_1 := NB516_515.out
     have hms16_1 := NB515_516.out
     refine skip_ (w1 := ?_) (by rfl) rfl ?_ ?_
     rotate_left
     ·go_simp
      rfl
     refine hK.out _ _ ⟨((cell_far (p := ⟨gb515, _, none⟩) (by first | exact Nat.ne_of_lt (Nat.lt_of_lt_of_le (by have := World.block_lt_of_cell? _ _ hw513_0; first | rwa [add_block] at this | exact this) GW515.out) | (rw [add_block]; exact Nat.ne_of_lt (Nat.lt_of_lt_of_le (by have := World.block_lt_of_cell? _ _ hw513_0; first | rwa [add_block] at this | exact this) GW515.out)) | (show (Addr.add _ _).block ≠ _; rw [add_block]; exact Nat.ne_of_lt (Nat.lt_of_lt_of_le (by have := World.block_lt_of_cell? _ _ hw513_0; first | rwa [add_block] at this | exact this) GW515.out)) | (dsimp only; exact Nat.ne_of_lt (Nat.lt_of_lt_of_le (by have := World.block_lt_of_cell? _ _ hw513_0; first | rwa [add_block] at this | exact this) GW515.out))) _).trans (((cell_far (p := ⟨gb515, _, none⟩) (by first | exact Nat.ne_of_lt (Nat.lt_of_lt_of_le (by have := World.block_lt_of_cell? _ _ hw513_0; first | rwa [add_block] at this | exact this) GW515.out) | (rw [add_block]; exact Nat.ne_of_lt (Nat.lt_of_lt_of_le (by have := World.block_lt_of_cell? _ _ hw513_0; first | rwa [add_block] at this | exact this) GW515.out)) | (show (Addr.add _ _).block ≠ _; rw [add_block]; exact Nat.ne_of_lt (Nat.lt_of_lt_of_le (by have := World.block_lt_of_cell? _ _ hw513_0; first | rwa [add_block] at this | exact this) GW515.out)) | (dsimp only; exact Nat.ne_of_lt (Nat.lt_of_lt_of_le (by have := World.block_lt_of_cell? _ _ hw513_0; first | rwa [add_block] at this | exact this) GW515.out))) _).trans (hHeld.1)))), ((cell_far (p := ⟨gb515, _, none⟩) (by first | exact Nat.ne_of_lt (Nat.lt_of_lt_of_le (by have := World.block_lt_of_cell? _ _ hw513_1; first | rwa [add_block] at this | exact this) GW515.out) | (rw [add_block]; exact Nat.ne_of_lt (Nat.lt_of_lt_of_le (by have := World.block_lt_of_cell? _ _ hw513_1; first | rwa [add_block] at this | exact this) GW515.out)) | (show (Addr.add _ _).block ≠ _; rw [add_block]; exact Nat.ne_of_lt (Nat.lt_of_lt_of_le (by have := World.block_lt_of_cell? _ _ hw513_1; first | rwa [add_block] at this | exact this) GW515.out)) | (dsimp only; exact Nat.ne_of_lt (Nat.lt_of_lt_of_le (by have := World.block_lt_of_cell? _ _ hw513_1; first | rwa [add_block] at this | exact this) GW515.out))) _).trans (((cell_far (p := ⟨gb515, _, none⟩) (by first | exact Nat.ne_of_lt (Nat.lt_of_lt_of_le (by have := World.block_lt_of_cell? _ _ hw513_1; first | rwa [add_block] at this | exact this) GW515.out) | (rw [add_block]; exact Nat.ne_of_lt (Nat.lt_of_lt_of_le (by have := World.block_lt_of_cell? _ _ hw513_1; first | rwa [add_block] at this | exact this) GW515.out)) | (show (Addr.add _ _).block ≠ _; rw [add_block]; exact Nat.ne_of_lt (Nat.lt_of_lt_of_le (by have := World.block_lt_of_cell? _ _ hw513_1; first | rwa [add_block] at this | exact this) GW515.out)) | (dsimp only; exact Nat.ne_of_lt (Nat.lt_of_lt_of_le (by have := World.block_lt_of_cell? _ _ hw513_1; first | rwa [add_block] at this | exact this) GW515.out))) _).trans (hHeld.2.1)))), ((cell_far (p := ⟨gb515, _, none⟩) (by first | exact Nat.ne_of_lt (Nat.lt_of_lt_of_le (by have := World.block_lt_of_cell? _ _ hw514_0; first | rwa [add_block] at this | exact this) GW515.out) | (rw [add_block]; exact Nat.ne_of_lt (Nat.lt_of_lt_of_le (by have := World.block_lt_of_cell? _ _ hw514_0; first | rwa [add_block] at this | exact this) GW515.out)) | (show (Addr.add _ _).block ≠ _; rw [add_block]; exact Nat.ne_of_lt (Nat.lt_of_lt_of_le (by have := World.block_lt_of_cell? _ _ hw514_0; first | rwa [add_block] at this | exact this) GW515.out)) | (dsimp only; exact Nat.ne_of_lt (Nat.lt_of_lt_of_le (by have := World.block_lt_of_cell? _ _ hw514_0; first | rwa [add_block] at this | exact this) GW515.out))) _).trans (((cell_far (p := ⟨gb515, _, none⟩) (by first | exact Nat.ne_of_lt (Nat.lt_of_lt_of_le (by have := World.block_lt_of_cell? _ _ hw514_0; first | rwa [add_block] at this | exact this) GW515.out) | (rw [add_block]; exact Nat.ne_of_lt (Nat.lt_of_lt_of_le (by have := World.block_lt_of_cell? _ _ hw514_0; first | rwa [add_block] at this | exact this) GW515.out)) | (show (Addr.add _ _).block ≠ _; rw [add_block]; exact Nat.ne_of_lt (Nat.lt_of_lt_of_le (by have := World.block_lt_of_cell? _ _ hw514_0; first | rwa [add_block] at this | exact this) GW515.out)) | (dsimp only; exact Nat.ne_of_lt (Nat.lt_of_lt_of_le (by have := World.block_lt_of_cell? _ _ hw514_0; first | rwa [add_block] at this | exact this) GW515.out))) _).trans (hHeld.2.2.1)))), ((cell_far (p := ⟨gb515, _, none⟩) (by first | exact Nat.ne_of_lt (Nat.lt_of_lt_of_le (by have := World.block_lt_of_cell? _ _ hw514_1; first | rwa [add_block] at this | exact this) GW515.out) | (rw [add_block]; exact Nat.ne_of_lt (Nat.lt_of_lt_of_le (by have := World.block_lt_of_cell? _ _ hw514_1; first | rwa [add_block] at this | exact this) GW515.out)) | (show (Addr.add _ _).block ≠ _; rw [add_block]; exact Nat.ne_of_lt (Nat.lt_of_lt_of_le (by have := World.block_lt_of_cell? _ _ hw514_1; first | rwa [add_block] at this | exact this) GW515.out)) | (dsimp only; exact Nat.ne_of_lt (Nat.lt_of_lt_of_le (by have := World.block_lt_of_cell? _ _ hw514_1; first | rwa [add_block] at this | exact this) GW515.out))) _).trans (((cell_far (p := ⟨gb515, _, none⟩) (by first | exact Nat.ne_of_lt (Nat.lt_of_lt_of_le (by have := World.block_lt_of_cell? _ _ hw514_1; first | rwa [add_block] at this | exact this) GW515.out) | (rw [add_block]; exact Nat.ne_of_lt (Nat.lt_of_lt_of_le (by have := World.block_lt_of_cell? _ _ hw514_1; first | rwa [add_block] at this | exact this) GW515.out)) | (show (Addr.add _ _).block ≠ _; rw [add_block]; exact Nat.ne_of_lt (Nat.lt_of_lt_of_le (by have := World.block_lt_of_cell? _ _ hw514_1; first | rwa [add_block] at this | exact this) GW515.out)) | (dsimp only; exact Nat.ne_of_lt (Nat.lt_of_lt_of_le (by have := World.block_lt_of_cell? _ _ hw514_1; first | rwa [add_block] at this | exact this) GW515.out))) _).trans (hHeld.2.2.2))))⟩ (fun hHeld => ?_)
     clear hK K
     refine one_ (i := 11) (N := none) zA135 rfl rfl (one_of HT_.out (by kernel_rfl)) (by decide) (fun K hK => ?_)
     have hs17 : w14.cell? ⟨gb516, 0, none⟩ = some (.int .i64 0) := (blk_cell BK516.out 0).trans rfl
     have hfs17 := blk_frozen BK516.out 0
     have hns17_0 := NB515_516.out
     have hms17_0 := NB516_515.out
     have hs18 : w14.cell? ⟨gb516, 1, none⟩ = some (.int .i64 0) := (blk_cell BK516.out 1).trans rfl
     have hfs18 := blk_frozen BK516.out 1
     have hns18_0 := NB515_516.out
     have hms18_0 := NB516_515.out
     refine skip_ (w1 := ?_) (by rfl) rfl ?_ ?_
     rotate_left
     ·go_simp
      rfl
     refine hK.out _ _ ⟨((cell_far (p := ⟨gb516, _, none⟩) (by first | exact Nat.ne_of_lt (Nat.lt_of_lt_of_le (by have := World.block_lt_of_cell? _ _ hw513_0; first | rwa [add_block] at this | exact this) GW516.out) | (rw [add_block]; exact Nat.ne_of_lt (Nat.lt_of_lt_of_le (by have := World.block_lt_of_cell? _ _ hw513_0; first | rwa [add_block] at this | exact this) GW516.out)) | (show (Addr.add _ _).block ≠ _; rw [add_block]; exact Nat.ne_of_lt (Nat.lt_of_lt_of_le (by have := World.block_lt_of_cell? _ _ hw513_0; first | rwa [add_block] at this | exact this) GW516.out)) | (dsimp only; exact Nat.ne_of_lt (Nat.lt_of_lt_of_le (by have := World.block_lt_of_cell? _ _ hw513_0; first | rwa [add_block] at this | exact this) GW516.out))) _).trans (((cell_far (p := ⟨gb516, _, none⟩) (by first | exact Nat.ne_of_lt (Nat.lt_of_lt_of_le (by have := World.block_lt_of_cell? _ _ hw513_0; first | rwa [add_block] at this | exact this) GW516.out) | (rw [add_block]; exact Nat.ne_of_lt (Nat.lt_of_lt_of_le (by have := World.block_lt_of_cell? _ _ hw513_0; first | rwa [add_block] at this | exact this) GW516.out)) | (show (Addr.add _ _).block ≠ _; rw [add_block]; exact Nat.ne_of_lt (Nat.lt_of_lt_of_le (by have := World.block_lt_of_cell? _ _ hw513_0; first | rwa [add_block] at this | exact this) GW516.out)) | (dsimp only; exact Nat.ne_of_lt (Nat.lt_of_lt_of_le (by have := World.block_lt_of_cell? _ _ hw513_0; first | rwa [add_block] at this | exact this) GW516.out))) _).trans (hHeld.1)))), ((cell_far (p := ⟨gb516, _, none⟩) (by first | exact Nat.ne_of_lt (Nat.lt_of_lt_of_le (by have := World.block_lt_of_cell? _ _ hw513_1; first | rwa [add_block] at this | exact this) GW516.out) | (rw [add_block]; exact Nat.ne_of_lt (Nat.lt_of_lt_of_le (by have := World.block_lt_of_cell? _ _ hw513_1; first | rwa [add_block] at this | exact this) GW516.out)) | (show (Addr.add _ _).block ≠ _; rw [add_block]; exact Nat.ne_of_lt (Nat.lt_of_lt_of_le (by have := World.block_lt_of_cell? _ _ hw513_1; first | rwa [add_block] at this | exact this) GW516.out)) | (dsimp only; exact Nat.ne_of_lt (Nat.lt_of_lt_of_le (by have := World.block_lt_of_cell? _ _ hw513_1; first | rwa [add_block] at this | exact this) GW516.out))) _).trans (((cell_far (p := ⟨gb516, _, none⟩) (by first | exact Nat.ne_of_lt (Nat.lt_of_lt_of_le (by have := World.block_lt_of_cell? _ _ hw513_1; first | rwa [add_block] at this | exact this) GW516.out) | (rw [add_block]; exact Nat.ne_of_lt (Nat.lt_of_lt_of_le (by have := World.block_lt_of_cell? _ _ hw513_1; first | rwa [add_block] at this | exact this) GW516.out)) | (show (Addr.add _ _).block ≠ _; rw [add_block]; exact Nat.ne_of_lt (Nat.lt_of_lt_of_le (by have := World.block_lt_of_cell? _ _ hw513_1; first | rwa [add_block] at this | exact this) GW516.out)) | (dsimp only; exact Nat.ne_of_lt (Nat.lt_of_lt_of_le (by have := World.block_lt_of_cell? _ _ hw513_1; first | rwa [add_block] at this | exact this) GW516.out))) _).trans (hHeld.2.1)))), ((cell_far (p := ⟨gb516, _, none⟩) (by first | exact Nat.ne_of_lt (Nat.lt_of_lt_of_le (by have := World.block_lt_of_cell? _ _ hw514_0; first | rwa [add_block] at this | exact this) GW516.out) | (rw [add_block]; exact Nat.ne_of_lt (Nat.lt_of_lt_of_le (by have := World.block_lt_of_cell? _ _ hw514_0; first | rwa [add_block] at this | exact this) GW516.out)) | (show (Addr.add _ _).block ≠ _; rw [add_block]; exact Nat.ne_of_lt (Nat.lt_of_lt_of_le (by have := World.block_lt_of_cell? _ _ hw514_0; first | rwa [add_block] at this | exact this) GW516.out)) | (dsimp only; exact Nat.ne_of_lt (Nat.lt_of_lt_of_le (by have := World.block_lt_of_cell? _ _ hw514_0; first | rwa [add_block] at this | exact this) GW516.out))) _).trans (((cell_far (p := ⟨gb516, _, none⟩) (by first | exact Nat.ne_of_lt (Nat.lt_of_lt_of_le (by have := World.block_lt_of_cell? _ _ hw514_0; first | rwa [add_block] at this | exact this) GW516.out) | (rw [add_block]; exact Nat.ne_of_lt (Nat.lt_of_lt_of_le (by have := World.block_lt_of_cell? _ _ hw514_0; first | rwa [add_block] at this | exact this) GW516.out)) | (show (Addr.add _ _).block ≠ _; rw [add_block]; exact Nat.ne_of_lt (Nat.lt_of_lt_of_le (by have := World.block_lt_of_cell? _ _ hw514_0; first | rwa [add_block] at this | exact this) GW516.out)) | (dsimp only; exact Nat.ne_of_lt (Nat.lt_of_lt_of_le (by have := World.block_lt_of_cell? _ _ hw514_0; first | rwa [add_block] at this | exact this) GW516.out))) _).trans (hHeld.2.2.1)))), ((cell_far (p := ⟨gb516, _, none⟩) (by first | exact Nat.ne_of_lt (Nat.lt_of_lt_of_le (by have := World.block_lt_of_cell? _ _ hw514_1; first | rwa [add_block] at this | exact this) GW516.out) | (rw [add_block]; exact Nat.ne_of_lt (Nat.lt_of_lt_of_le (by have := World.block_lt_of_cell? _ _ hw514_1; first | rwa [add_block] at this | exact this) GW516.out)) | (show (Addr.add _ _).block ≠ _; rw [add_block]; exact Nat.ne_of_lt (Nat.lt_of_lt_of_le (by have := World.block_lt_of_cell? _ _ hw514_1; first | rwa [add_block] at this | exact this) GW516.out)) | (dsimp only; exact Nat.ne_of_lt (Nat.lt_of_lt_of_le (by have := World.block_lt_of_cell? _ _ hw514_1; first | rwa [add_block] at this | exact this) GW516.out))) _).trans (((cell_far (p := ⟨gb516, _, none⟩) (by first | exact Nat.ne_of_lt (Nat.lt_of_lt_of_le (by have := World.block_lt_of_cell? _ _ hw514_1; first | rwa [add_block] at this | exact this) GW516.out) | (rw [add_block]; exact Nat.ne_of_lt (Nat.lt_of_lt_of_le (by have := World.block_lt_of_cell? _ _ hw514_1; first | rwa [add_block] at this | exact this) GW516.out)) | (show (Addr.add _ _).block ≠ _; rw [add_block]; exact Nat.ne_of_lt (Nat.lt_of_lt_of_le (by have := World.block_lt_of_cell? _ _ hw514_1; first | rwa [add_block] at this | exact this) GW516.out)) | (dsimp only; exact Nat.ne_of_lt (Nat.lt_of_lt_of_le (by have := World.block_lt_of_cell? _ _ hw514_1; first | rwa [add_block] at this | exact this) GW516.out))) _).trans (hHeld.2.2.2))))⟩ (fun hHeld => ?_)
     clear hK K
     refine done_ (done_of HT_.out (by kernel_rfl)) ?_
     have hnb19 := NB515_516.out
     have hnc19 := NB516_515.out
     have hcz20_0 : w14.cell? ⟨gb515, 0, none⟩ = some (.int .i64 0) := (blk_cell BK515.out 0).trans rfl
     have hcz20_1 : w14.cell? ⟨gb515, 1, none⟩ = some (.int .i64 0) := (blk_cell BK515.out 1).trans rfl
     have hfz20_0 := blk_frozen BK515.out 0
     have hfz20_1 := blk_frozen BK515.out 1
     have hcz21_0 : w14.cell? ⟨gb516, 0, none⟩ = some (.int .i64 0) := (blk_cell BK516.out 0).trans rfl
     have hcz21_1 : w14.cell? ⟨gb516, 1, none⟩ = some (.int .i64 0) := (blk_cell BK516.out 1).trans rfl
     have hfz21_0 := blk_frozen BK516.out 0
     have hfz21_1 := blk_frozen BK516.out 1
     go_upto_if 40 with (fail)
     go_cut [5] (fun v5 wc => ∃ (kq : Nat) (x5_9 : Bool), v5 = .bool x5_9 ∧ Aside0 (spec_ConvexityOf.j3 kq l0 x5_9 x6_2 x7_1 x8_2 ((rd_T59 l0 x7_1).f0) ((rd_T59 l0 x7_1).f1) ((rd_T59 l0 x8_2).f0) ((rd_T59 l0 x8_2).f1) = some (r1, r2, r3)) ∧ Aside0 (kq ≤ k2) ∧ Aside0 (wc.heap[gb515]? = some (.cells #[.int .i64 ((rd_T59 l0 x7_1).f0), .int .i64 ((rd_T59 l0 x7_1).f1)] 59 (0, 0))) ∧ Aside0 (wc.heap[gb516]? = some (.cells #[.int .i64 ((rd_T59 l0 x8_2).f0), .int .i64 ((rd_T59 l0 x8_2).f1)] 59 (0, 0))) ∧ Aside0 (Below w.heap.size w wc))
     case first =>
      have H := HC10.out
      clear HC10
      by_cases c22 : ((rd_T59 l0 x7_1).f1) = ((rd_T59 l0 x8_2).f1)
      rotate_left
      ·rw [if_neg c22] at H
       have c22b0 : (((rd_T59 l0 x7_1).f1) == ((rd_T59 l0 x8_2).f1)) = false := beq_eq_false_iff_ne.mpr c22
       have c22b1 : (((rd_T59 l0 x7_1).f1) != ((rd_T59 l0 x8_2).f1)) = true := bne_iff_ne.mpr c22
       (first | rw [c22b0] | (simp only [i64_w, i32_w]; rw [c22b0]) | skip)
       have H' := aM H
       clear H
       go_wp2
       go_meet
       case rel => exact ⟨_, (x5_2), zr, H', ⟨by have := HK1.out; have := HK2.out; first | omega | exact Nat.le_refl _⟩, ⟨by (with_reducible repeat (first | refine blk_drewN ?_ _ | refine blk_drew ?_ | refine blk_alloc ?_ _)); refine blk_far ?_ NB515_516.out _; (with_reducible repeat (first | refine blk_drewN ?_ _ | refine blk_drew ?_ | refine blk_alloc ?_ _)); refine blk_far ?_ NB515_516.out _; (with_reducible repeat (first | refine blk_drewN ?_ _ | refine blk_drew ?_ | refine blk_alloc ?_ _)); refine blk_put (cs := #[.int .i64 ((rd_T59 l0 x7_1).f0), .int .i64 0]) ?_ 1 _ rfl; (with_reducible repeat (first | refine blk_drewN ?_ _ | refine blk_drew ?_ | refine blk_alloc ?_ _)); refine blk_put (cs := #[.int .i64 0, .int .i64 0]) ?_ 0 _ rfl; (with_reducible repeat (first | refine blk_drewN ?_ _ | refine blk_drew ?_ | refine blk_alloc ?_ _)); exact BK515.out⟩, ⟨by (with_reducible repeat (first | refine blk_drewN ?_ _ | refine blk_drew ?_ | refine blk_alloc ?_ _)); refine blk_put (cs := #[.int .i64 ((rd_T59 l0 x8_2).f0), .int .i64 0]) ?_ 1 _ rfl; (with_reducible repeat (first | refine blk_drewN ?_ _ | refine blk_drew ?_ | refine blk_alloc ?_ _)); refine blk_put (cs := #[.int .i64 0, .int .i64 0]) ?_ 0 _ rfl; (with_reducible repeat (first | refine blk_drewN ?_ _ | refine blk_drew ?_ | refine blk_alloc ?_ _)); refine blk_far ?_ NB516_515.out _; (with_reducible repeat (first | refine blk_drewN ?_ _ | refine blk_drew ?_ | refine blk_alloc ?_ _)); refine blk_far ?_ NB516_515.out _; (with_reducible repeat (first | refine blk_drewN ?_ _ | refine blk_drew ?_ | refine blk_alloc ?_ _)); exact BK516.out⟩, ⟨zt GE515.out GE516.out⟩⟩
      rw [if_pos c22] at H
      have c22b0 : (((rd_T59 l0 x7_1).f1) == ((rd_T59 l0 x8_2).f1)) = true := beq_iff_eq.mpr c22
      have c22b1 : (((rd_T59 l0 x7_1).f1) != ((rd_T59 l0 x8_2).f1)) = false := bne_eq_false_iff_eq.mpr c22
      clear c22
      (first | rw [c22b0] | (simp only [i64_w, i32_w]; rw [c22b0]) | skip)
      have H' := aM H
      clear H
      have hnb23 := NB515_516.out
      have hnc23 := NB516_515.out
      have hcz24_0 : w14.cell? ⟨gb515, 0, none⟩ = some (.int .i64 0) := (blk_cell BK515.out 0).trans rfl
      have hcz24_1 : w14.cell? ⟨gb515, 1, none⟩ = some (.int .i64 0) := (blk_cell BK515.out 1).trans rfl
      have hfz24_0 := blk_frozen BK515.out 0
      have hfz24_1 := blk_frozen BK515.out 1
      go_wp2
      go_loopg [5, 11] k2 (fun kq v5 v11 w' => ∃ (x5_3 : Bool) (x11_3 : Int), v5 = .bool x5_3 ∧ v11 = .int .i64 x11_3 ∧ Aside0 (spec_ConvexityOf.l2 kq l0 x5_3 x6_2 x7_1 x8_2 x11_3 ((rd_T59 l0 x7_1).f0) ((rd_T59 l0 x7_1).f1) ((rd_T59 l0 x8_2).f0) ((rd_T59 l0 x8_2).f1) = some (r1, r2, r3)) ∧ Aside0 (kq ≤ k2) ∧ Aside0 (w'.heap[gb515]? = some (.cells #[.int .i64 ((rd_T59 l0 x7_1).f0), .int .i64 ((rd_T59 l0 x7_1).f1)] 59 (0, 0))) ∧ Aside0 (w'.heap[gb516]? = some (.cells #[.int .i64 ((rd_T59 l0 x8_2).f0), .int .i64 ((rd_T59 l0 x8_2).f1)] 59 (0, 0))) ∧ Aside0 (Below w.heap.size w w'))
      case atStart => exact ⟨(x5_2), ((rd_T59 l0 x7_1).f0), zr, zr, H', ⟨Nat.le_refl _⟩, ⟨by (with_reducible repeat (first | refine blk_drewN ?_ _ | refine blk_drew ?_ | refine blk_alloc ?_ _)); refine blk_far ?_ NB515_516.out _; (with_reducible repeat (first | refine blk_drewN ?_ _ | refine blk_drew ?_ | refine blk_alloc ?_ _)); refine blk_far ?_ NB515_516.out _; (with_reducible repeat (first | refine blk_drewN ?_ _ | refine blk_drew ?_ | refine blk_alloc ?_ _)); refine blk_put (cs := #[.int .i64 ((rd_T59 l0 x7_1).f0), .int .i64 0]) ?_ 1 _ rfl; (with_reducible repeat (first | refine blk_drewN ?_ _ | refine blk_drew ?_ | refine blk_alloc ?_ _)); refine blk_put (cs := #[.int .i64 0, .int .i64 0]) ?_ 0 _ rfl; (with_reducible repeat (first | refine blk_drewN ?_ _ | refine blk_drew ?_ | refine blk_alloc ?_ _)); exact BK515.out⟩, ⟨by (with_reducible repeat (first | refine blk_drewN ?_ _ | refine blk_drew ?_ | refine blk_alloc ?_ _)); refine blk_put (cs := #[.int .i64 ((rd_T59 l0 x8_2).f0), .int .i64 0]) ?_ 1 _ rfl; (with_reducible repeat (first | refine blk_drewN ?_ _ | refine blk_drew ?_ | refine blk_alloc ?_ _)); refine blk_put (cs := #[.int .i64 0, .int .i64 0]) ?_ 0 _ rfl; (with_reducible repeat (first | refine blk_drewN ?_ _ | refine blk_drew ?_ | refine blk_alloc ?_ _)); refine blk_far ?_ NB516_515.out _; (with_reducible repeat (first | refine blk_drewN ?_ _ | refine blk_drew ?_ | refine blk_alloc ?_ _)); refine blk_far ?_ NB516_515.out _; (with_reducible repeat (first | refine blk_drewN ?_ _ | refine blk_drew ?_ | refine blk_alloc ?_ _)); exact BK516.out⟩, ⟨zt GE515.out GE516.out⟩⟩
      case round =>
       clear H'
       try clear c1
       try clear c2
       try clear p2
       try clear c3
       try clear c5
       try clear c5b0
       try clear p5
       try clear q5
       try clear hx5
       try clear c6
       try clear c6b0
       try clear c7
       try clear c7b0
       try clear c8
       try clear c8b0
       try clear c9
       try clear c9b0
       try clear c19
       try clear c22
       try clear c22b0
       try clear c22b1
       try clear c23
       try clear hcz20_0
       try clear hcz20_1
       try clear hcz21_0
       try clear hcz21_1
       try clear hcz24_0
       try clear hcz24_1
       try clear hfz20_0
       try clear hfz20_1
       try clear hfz21_0
       try clear hfz21_1
       try clear hfz24_0
       try clear hfz24_1
       try clear hx513_0
       try clear hx513_1
       try clear hx514_0
       try clear hx514_1
       try clear p2
       try clear p513
       try clear p514
       try clear q513
       try clear q514
       obtain ⟨x5_3, x11_3, rfl, rfl, HA, HK3, BK515, BK516, HB⟩ := hrel
       cases gk with
       | zero => exact absurd HA.out (by simp [spec_ConvexityOf.l2])
       | succ k3 =>
        have H := HA.out
        clear HA
        simp only [spec_ConvexityOf.l2] at H
        by_cases c25 : x11_3 < ((rd_T59 l0 x8_2).f0)
        rotate_left
        ·rw [if_neg c25] at H
         have c25b0 : decide (x11_3 < ((rd_T59 l0 x8_2).f0)) = false := decide_eq_false c25
         clear c25
         have H' := aM H
         clear H
         have hnb34 := NB516_515.out
         have hnc34 := NB515_516.out
         have hcz35_0 : wr.cell? ⟨gb516, 0, none⟩ = some (.int .i64 ((rd_T59 l0 x8_2).f0)) := (blk_cell BK516.out 0).trans rfl
         have hcz35_1 : wr.cell? ⟨gb516, 1, none⟩ = some (.int .i64 ((rd_T59 l0 x8_2).f1)) := (blk_cell BK516.out 1).trans rfl
         have hfz35_0 := blk_frozen BK516.out 0
         have hfz35_1 := blk_frozen BK516.out 1
         go_wp2
         go_meet
         case rel => exact ⟨_, (x5_3), zr, H', ⟨by have := HK1.out; have := HK2.out; have := HK3.out; first | omega | exact Nat.le_refl _⟩, ⟨mB_ BK515.out⟩, ⟨mB_ BK516.out⟩, ⟨zt GE515.out GE516.out⟩⟩
        rw [if_pos c25] at H
        have c25b0 : decide (x11_3 < ((rd_T59 l0 x8_2).f0)) = true := decide_eq_true c25
        clear c25
        by_cases c26 : x5_3 = true
        rotate_left
        ·replace c26 := Bool.eq_false_iff.mpr c26
         subst c26
         have H1 : (spec_ConvexityOf.l2 k3 l0 false x6_2 x7_1 x8_2 (wrap64 (x11_3 + 1)) ((rd_T59 l0 x7_1).f0) ((rd_T59 l0 x7_1).f1) ((rd_T59 l0 x8_2).f0) ((rd_T59 l0 x8_2).f1)) = some (r1, r2, r3) := by rw [if_neg (show ¬ (false = true) by decide)] at H; exact H
         clear H
         have H := H1
         clear H1
         have H' := aM H
         clear H
         have hnb32 := NB516_515.out
         have hnc32 := NB515_516.out
         have hcz33_0 : wr.cell? ⟨gb516, 0, none⟩ = some (.int .i64 ((rd_T59 l0 x8_2).f0)) := (blk_cell BK516.out 0).trans rfl
         have hcz33_1 : wr.cell? ⟨gb516, 1, none⟩ = some (.int .i64 ((rd_T59 l0 x8_2).f1)) := (blk_cell BK516.out 1).trans rfl
         have hfz33_0 := blk_frozen BK516.out 0
         have hfz33_1 := blk_frozen BK516.out 1
         go_wp2
         go_roundg k3
         case measure => have := HK1.out; have := HK2.out; have := HK3.out; omega
         case rel => exact ⟨(false), (wrap64 (x11_3 + 1)), zr, zr, H', ⟨by have := HK1.out; have := HK2.out; have := HK3.out; omega⟩, ⟨mB_ BK515.out⟩, ⟨mB_ BK516.out⟩, ⟨zt GE515.out GE516.out⟩⟩
        subst c26
        have H1 : ((spec_l02Index.f k3 l0 x11_3 ((rd_T59 l0 x7_1).f1)).bind fun t517 => (spec_ConvexityOf.l2 k3 l0 (decide (t517 ≥ 0)) x6_2 x7_1 x8_2 (wrap64 (x11_3 + 1)) ((rd_T59 l0 x7_1).f0) ((rd_T59 l0 x7_1).f1) ((rd_T59 l0 x8_2).f0) ((rd_T59 l0 x8_2).f1))) = some (r1, r2, r3) := by rw [if_pos rfl] at H; exact H
        clear H
        have H := H1
        clear H1
        replace H := Option.bind_eq_some_iff.mp H
        obtain ⟨t517, A270, H⟩ := H
        replace H : (spec_ConvexityOf.l2 k3 l0 (decide (t517 ≥ 0)) x6_2 x7_1 x8_2 (wrap64 (x11_3 + 1)) ((rd_T59 l0 x7_1).f0) ((rd_T59 l0 x7_1).f1) ((rd_T59 l0 x8_2).f0) ((rd_T59 l0 x8_2).f1)) = some (r1, r2, r3) := H
        have A27 := aM A270
        clear A270
        have H' := aM H
        clear H
        have hnb28 := NB516_515.out
        have hnc28 := NB515_516.out
        have hcz29_0 : wr.cell? ⟨gb516, 0, none⟩ = some (.int .i64 ((rd_T59 l0 x8_2).f0)) := (blk_cell BK516.out 0).trans rfl
        have hcz29_1 : wr.cell? ⟨gb516, 1, none⟩ = some (.int .i64 ((rd_T59 l0 x8_2).f1)) := (blk_cell BK516.out 1).trans rfl
        have hfz29_0 := blk_frozen BK516.out 0
        have hfz29_1 := blk_frozen BK516.out 1
        have hcz30_0 : wr.cell? ⟨gb515, 0, none⟩ = some (.int .i64 ((rd_T59 l0 x7_1).f0)) := (blk_cell BK515.out 0).trans rfl
        have hcz30_1 : wr.cell? ⟨gb515, 1, none⟩ = some (.int .i64 ((rd_T59 l0 x7_1).f1)) := (blk_cell BK515.out 1).trans rfl
        have hfz30_0 := blk_frozen BK515.out 0
        have hfz30_1 := blk_frozen BK515.out 1
        go_wp2_with (first | (go_at_call 67; (with_reducible refine (spec_l02Index.calls k3 _ _ l0 x11_3 ((rd_T59 l0 x7_1).f1) t517 _ ?side1 ?side2 A27.out).mono ?_); (case side1 => repeat (first | exact (Kd.C_below HR0.out HB.out) | (with_reducible refine Kd.C_alloc ?_ _) | (with_reducible refine Kd.C_drewN ?_ _) | (with_reducible refine Kd.C_drew ?_))); (case side2 => exact HC0.out); rintro e w31 ⟨rfl, hb⟩; have n0_ := aM (blk_below (g := gb515) (o := .cells #[.int .i64 ((rd_T59 l0 x7_1).f0), .int .i64 ((rd_T59 l0 x7_1).f1)] 59 (0, 0)) (mB_ BK515.out) hb); have n1_ := aM (blk_below (g := gb516) (o := .cells #[.int .i64 ((rd_T59 l0 x8_2).f0), .int .i64 ((rd_T59 l0 x8_2).f1)] 59 (0, 0)) (mB_ BK516.out) hb); have n2_ := aM (below_step (zt GE515.out GE516.out) hb); clear BK515 BK516 HB; have BK515 := n0_; have BK516 := n1_; have HB := n2_; clear n0_ n1_ n2_; (try clear hb); (try clear hb2); (try clear hk); (try clear hi)))
        go_roundg k3
        case measure => have := HK1.out; have := HK2.out; have := HK3.out; omega
        case rel => exact ⟨(decide (t517 ≥ 0)), (wrap64 (x11_3 + 1)), zr, zr, H', ⟨by have := HK1.out; have := HK2.out; have := HK3.out; omega⟩, ⟨mB_ BK515.out⟩, ⟨mB_ BK516.out⟩, ⟨zt GE515.out GE516.out⟩⟩
     case rest =>
      clear HC10
      try clear c1
      try clear c2
      try clear p2
      try clear c3
      try clear c5
      try clear c5b0
      try clear p5
      try clear q5
      try clear hx5
      try clear c6
      try clear c6b0
      try clear p6
      try clear c7
      try clear c7b0
      try clear c8
      try clear c8b0
      try clear c9
      try clear c9b0
      try clear c19
      try clear c22
      try clear c22b0
      try clear c22b1
      try clear c23
      try clear c25
      try clear c25b0
      try clear c26
      try clear c28
      try clear c32
      try clear c34
      try clear hcz20_0
      try clear hcz20_1
      try clear hcz21_0
      try clear hcz21_1
      try clear hcz24_0
      try clear hcz24_1
      try clear hcz29_0
      try clear hcz29_1
      try clear hcz30_0
      try clear hcz30_1
      try clear hcz33_0
      try clear hcz33_1
      try clear hcz35_0
      try clear hcz35_1
      try clear hfz20_0
      try clear hfz20_1
      try clear hfz21_0
      try clear hfz21_1
      try clear hfz24_0
      try clear hfz24_1
      try clear hfz29_0
      try clear hfz29_1
      try clear hfz30_0
      try clear hfz30_1
      try clear hfz33_0
      try clear hfz33_1
      try clear hfz35_0
      try clear hfz35_1
      try clear hx513_0
      try clear hx513_1
      try clear hx514_0
      try clear hx514_1
      try clear p2
      try clear p5
      try clear p513
      try clear p514
      try clear q5
      try clear q513
      try clear q514
      obtain ⟨kq, x5_9, rfl, HA, HJ9, BK515, BK516, HB⟩ := hcut
      cases kq with
      | zero => exact absurd HA.out (by simp [spec_ConvexityOf.j3])
      | succ kj9 =>
       have H := HA.out
       clear HA
       simp only [spec_ConvexityOf.j3] at H
       by_cases c36 : ((rd_T59 l0 x7_1).f0) = ((rd_T59 l0 x8_2).f0)
       rotate_left
       ·rw [if_neg c36] at H
        have c36b0 : (((rd_T59 l0 x7_1).f0) == ((rd_T59 l0 x8_2).f0)) = false := beq_eq_false_iff_ne.mpr c36
        have c36b1 : (((rd_T59 l0 x7_1).f0) != ((rd_T59 l0 x8_2).f0)) = true := bne_iff_ne.mpr c36
        have H' := aM H
        clear H
        have hnb51 := NB515_516.out
        have hnc51 := NB516_515.out
        have hcz52_0 : wc.cell? ⟨gb515, 0, none⟩ = some (.int .i64 ((rd_T59 l0 x7_1).f0)) := (blk_cell BK515.out 0).trans rfl
        have hcz52_1 : wc.cell? ⟨gb515, 1, none⟩ = some (.int .i64 ((rd_T59 l0 x7_1).f1)) := (blk_cell BK515.out 1).trans rfl
        have hfz52_0 := blk_frozen BK515.out 0
        have hfz52_1 := blk_frozen BK515.out 1
        have hcz53_0 : wc.cell? ⟨gb516, 0, none⟩ = some (.int .i64 ((rd_T59 l0 x8_2).f0)) := (blk_cell BK516.out 0).trans rfl
        have hcz53_1 : wc.cell? ⟨gb516, 1, none⟩ = some (.int .i64 ((rd_T59 l0 x8_2).f1)) := (blk_cell BK516.out 1).trans rfl
        have hfz53_0 := blk_frozen BK516.out 0
        have hfz53_1 := blk_frozen BK516.out 1
        go_wp2
        go_roundg kj9
        case measure => have := HK1.out; have := HK2.out; have := HJ9.out; omega
        case rel => exact ⟨(x5_9), (x6_2), (wrap64 (x8_2 + 1)), zr, zr, zr, H', ⟨by have := HK1.out; have := HK2.out; have := HJ9.out; omega⟩, ⟨zt GE515.out GE516.out⟩⟩
       rw [if_pos c36] at H
       have c36b0 : (((rd_T59 l0 x7_1).f0) == ((rd_T59 l0 x8_2).f0)) = true := beq_iff_eq.mpr c36
       have c36b1 : (((rd_T59 l0 x7_1).f0) != ((rd_T59 l0 x8_2).f0)) = false := bne_eq_false_iff_eq.mpr c36
       clear c36
       have H' := aM H
       clear H
       have hnb37 := NB515_516.out
       have hnc37 := NB516_515.out
       have hcz38_0 : wc.cell? ⟨gb515, 0, none⟩ = some (.int .i64 ((rd_T59 l0 x7_1).f0)) := (blk_cell BK515.out 0).trans rfl
       have hcz38_1 : wc.cell? ⟨gb515, 1, none⟩ = some (.int .i64 ((rd_T59 l0 x7_1).f1)) := (blk_cell BK515.out 1).trans rfl
       have hfz38_0 := blk_frozen BK515.out 0
       have hfz38_1 := blk_frozen BK515.out 1
       have hcz39_0 : wc.cell? ⟨gb516, 0, none⟩ = some (.int .i64 ((rd_T59 l0 x8_2).f0)) := (blk_cell BK516.out 0).trans rfl
       have hcz39_1 : wc.cell? ⟨gb516, 1, none⟩ = some (.int .i64 ((rd_T59 l0 x8_2).f1)) := (blk_cell BK516.out 1).trans rfl
       have hfz39_0 := blk_frozen BK516.out 0
       have hfz39_1 := blk_frozen BK516.out 1
       go_wp2
       go_loopg [6, 12] kj9 (fun kq v6 v12 w' => ∃ (x6_4 : Bool) (x12_4 : Int), v6 = .bool x6_4 ∧ v12 = .int .i64 x12_4 ∧ Aside0 (spec_ConvexityOf.l3 kq l0 x5_9 x6_4 x7_1 x8_2 x12_4 ((rd_T59 l0 x7_1).f0) ((rd_T59 l0 x7_1).f1) ((rd_T59 l0 x8_2).f0) ((rd_T59 l0 x8_2).f1) = some (r1, r2, r3)) ∧ Aside0 (kq ≤ kj9) ∧ Aside0 (w'.heap[gb515]? = some (.cells #[.int .i64 ((rd_T59 l0 x7_1).f0), .int .i64 ((rd_T59 l0 x7_1).f1)] 59 (0, 0))) ∧ Aside0 (w'.heap[gb516]? = some (.cells #[.int .i64 ((rd_T59 l0 x8_2).f0), .int .i64 ((rd_T59 l0 x8_2).f1)] 59 (0, 0))) ∧ Aside0 (Below w.heap.size w w'))
       case atStart => exact ⟨(x6_2), (((rd_T59 l0 x7_1).f1)), zr, zr, H', ⟨Nat.le_refl _⟩, ⟨mB_ BK515.out⟩, ⟨mB_ BK516.out⟩, ⟨zt GE515.out GE516.out⟩⟩
       case round =>
        clear H'
        try clear c1
        try clear c2
        try clear p2
        try clear c3
        try clear c5
        try clear c5b0
        try clear p5
        try clear q5
        try clear hx5
        try clear c6
        try clear c6b0
        try clear p6
        try clear c7
        try clear c7b0
        try clear c8
        try clear c8b0
        try clear c9
        try clear c9b0
        try clear c19
        try clear c22
        try clear c22b0
        try clear c22b1
        try clear c23
        try clear c25
        try clear c25b0
        try clear c26
        try clear c28
        try clear c32
        try clear c34
        try clear c36
        try clear c36b0
        try clear c36b1
        try clear c37
        try clear hcz20_0
        try clear hcz20_1
        try clear hcz21_0
        try clear hcz21_1
        try clear hcz24_0
        try clear hcz24_1
        try clear hcz29_0
        try clear hcz29_1
        try clear hcz30_0
        try clear hcz30_1
        try clear hcz33_0
        try clear hcz33_1
        try clear hcz35_0
        try clear hcz35_1
        try clear hcz38_0
        try clear hcz38_1
        try clear hcz39_0
        try clear hcz39_1
        try clear hfz20_0
        try clear hfz20_1
        try clear hfz21_0
        try clear hfz21_1
        try clear hfz24_0
        try clear hfz24_1
        try clear hfz29_0
        try clear hfz29_1
        try clear hfz30_0
        try clear hfz30_1
        try clear hfz33_0
        try clear hfz33_1
        try clear hfz35_0
        try clear hfz35_1
        try clear hfz38_0
        try clear hfz38_1
        try clear hfz39_0
        try clear hfz39_1
        try clear hx513_0
        try clear hx513_1
        try clear hx514_0
        try clear hx514_1
        try clear p2
        try clear p5
        try clear p513
        try clear p514
        try clear p6
        try clear q5
        try clear q513
        try clear q514
        obtain ⟨x6_4, x12_4, rfl, rfl, HA, HK4, BK515, BK516, HB⟩ := hrel
        cases gk with
        | zero => exact absurd HA.out (by simp [spec_ConvexityOf.l3])
        | succ k4 =>
         have H := HA.out
         clear HA
         simp only [spec_ConvexityOf.l3] at H
         by_cases c40 : x12_4 < ((rd_T59 l0 x8_2).f1)
         rotate_left
         ·rw [if_neg c40] at H
          have c40b0 : decide (x12_4 < ((rd_T59 l0 x8_2).f1)) = false := decide_eq_false c40
          clear c40
          have H' := aM H
          clear H
          have hnb49 := NB516_515.out
          have hnc49 := NB515_516.out
          have hcz50_0 : wr.cell? ⟨gb516, 0, none⟩ = some (.int .i64 ((rd_T59 l0 x8_2).f0)) := (blk_cell BK516.out 0).trans rfl
          have hcz50_1 : wr.cell? ⟨gb516, 1, none⟩ = some (.int .i64 ((rd_T59 l0 x8_2).f1)) := (blk_cell BK516.out 1).trans rfl
          have hfz50_0 := blk_frozen BK516.out 0
          have hfz50_1 := blk_frozen BK516.out 1
          go_wp2
          go_roundg k4
          case measure => have := HK1.out; have := HK2.out; have := HJ9.out; have := HK4.out; omega
          case rel => exact ⟨(x5_9), (x6_4), (wrap64 (x8_2 + 1)), zr, zr, zr, H', ⟨by have := HK1.out; have := HK2.out; have := HJ9.out; have := HK4.out; omega⟩, ⟨zt GE515.out GE516.out⟩⟩
         rw [if_pos c40] at H
         have c40b0 : decide (x12_4 < ((rd_T59 l0 x8_2).f1)) = true := decide_eq_true c40
         clear c40
         by_cases c41 : x6_4 = true
         rotate_left
         ·replace c41 := Bool.eq_false_iff.mpr c41
          subst c41
          have H1 : (spec_ConvexityOf.l3 k4 l0 x5_9 false x7_1 x8_2 (wrap64 (x12_4 + 1)) ((rd_T59 l0 x7_1).f0) ((rd_T59 l0 x7_1).f1) ((rd_T59 l0 x8_2).f0) ((rd_T59 l0 x8_2).f1)) = some (r1, r2, r3) := by rw [if_neg (show ¬ (false = true) by decide)] at H; exact H
          clear H
          have H := H1
          clear H1
          have H' := aM H
          clear H
          have hnb47 := NB516_515.out
          have hnc47 := NB515_516.out
          have hcz48_0 : wr.cell? ⟨gb516, 0, none⟩ = some (.int .i64 ((rd_T59 l0 x8_2).f0)) := (blk_cell BK516.out 0).trans rfl
          have hcz48_1 : wr.cell? ⟨gb516, 1, none⟩ = some (.int .i64 ((rd_T59 l0 x8_2).f1)) := (blk_cell BK516.out 1).trans rfl
          have hfz48_0 := blk_frozen BK516.out 0
          have hfz48_1 := blk_frozen BK516.out 1
          go_wp2
          go_roundg k4
          case measure => have := HK1.out; have := HK2.out; have := HJ9.out; have := HK4.out; omega
          case rel => exact ⟨(false), (wrap64 (x12_4 + 1)), zr, zr, H', ⟨by have := HK1.out; have := HK2.out; have := HJ9.out; have := HK4.out; omega⟩, ⟨mB_ BK515.out⟩, ⟨mB_ BK516.out⟩, ⟨zt GE515.out GE516.out⟩⟩
         subst c41
         have H1 : ((spec_l02Index.f k4 l0 ((rd_T59 l0 x7_1).f0) x12_4).bind fun t518 => (spec_ConvexityOf.l3 k4 l0 x5_9 (decide (t518 ≥ 0)) x7_1 x8_2 (wrap64 (x12_4 + 1)) ((rd_T59 l0 x7_1).f0) ((rd_T59 l0 x7_1).f1) ((rd_T59 l0 x8_2).f0) ((rd_T59 l0 x8_2).f1))) = some (r1, r2, r3) := by rw [if_pos rfl] at H; exact H
         clear H
         have H := H1
         clear H1
         replace H := Option.bind_eq_some_iff.mp H
         obtain ⟨t518, A420, H⟩ := H
         replace H : (spec_ConvexityOf.l3 k4 l0 x5_9 (decide (t518 ≥ 0)) x7_1 x8_2 (wrap64 (x12_4 + 1)) ((rd_T59 l0 x7_1).f0) ((rd_T59 l0 x7_1).f1) ((rd_T59 l0 x8_2).f0) ((rd_T59 l0 x8_2).f1)) = some (r1, r2, r3) := H
         have A42 := aM A420
         clear A420
         have H' := aM H
         clear H
         have hnb43 := NB516_515.out
         have hnc43 := NB515_516.out
         have hcz44_0 : wr.cell? ⟨gb516, 0, none⟩ = some (.int .i64 ((rd_T59 l0 x8_2).f0)) := (blk_cell BK516.out 0).trans rfl
         have hcz44_1 : wr.cell? ⟨gb516, 1, none⟩ = some (.int .i64 ((rd_T59 l0 x8_2).f1)) := (blk_cell BK516.out 1).trans rfl
         have hfz44_0 := blk_frozen BK516.out 0
         have hfz44_1 := blk_frozen BK516.out 1
         have hcz45_0 : wr.cell? ⟨gb515, 0, none⟩ = some (.int .i64 ((rd_T59 l0 x7_1).f0)) := (blk_cell BK515.out 0).trans rfl
         have hcz45_1 : wr.cell? ⟨gb515, 1, none⟩ = some (.int .i64 ((rd_T59 l0 x7_1).f1)) := (blk_cell BK515.out 1).trans rfl
         have hfz45_0 := blk_frozen BK515.out 0
         have hfz45_1 := blk_frozen BK515.out 1
         go_wp2_with (first | (go_at_call 67; (with_reducible refine (spec_l02Index.calls k4 _ _ l0 ((rd_T59 l0 x7_1).f0) x12_4 t518 _ ?side1 ?side2 A42.out).mono ?_); (case side1 => repeat (first | exact (Kd.C_below HR0.out HB.out) | (with_reducible refine Kd.C_alloc ?_ _) | (with_reducible refine Kd.C_drewN ?_ _) | (with_reducible refine Kd.C_drew ?_))); (case side2 => exact HC0.out); rintro e w46 ⟨rfl, hb⟩; have n0_ := aM (blk_below (g := gb515) (o := .cells #[.int .i64 ((rd_T59 l0 x7_1).f0), .int .i64 ((rd_T59 l0 x7_1).f1)] 59 (0, 0)) (mB_ BK515.out) hb); have n1_ := aM (blk_below (g := gb516) (o := .cells #[.int .i64 ((rd_T59 l0 x8_2).f0), .int .i64 ((rd_T59 l0 x8_2).f1)] 59 (0, 0)) (mB_ BK516.out) hb); have n2_ := aM (below_step (zt GE515.out GE516.out) hb); clear BK515 BK516 HB; have BK515 := n0_; have BK516 := n1_; have HB := n2_; clear n0_ n1_ n2_; (try clear hb); (try clear hb2); (try clear hk); (try clear hi)))
         go_roundg k4
         case measure => have := HK1.out; have := HK2.out; have := HJ9.out; have := HK4.out; omega
         case rel => exact ⟨(decide (t518 ≥ 0)), (wrap64 (x12_4 + 1)), zr, zr, H', ⟨by have := HK1.out; have := HK2.out; have := HJ9.out; have := HK4.out; omega⟩, ⟨mB_ BK515.out⟩, ⟨mB_ BK516.out⟩, ⟨zt GE515.out GE516.out⟩⟩
end Go.Proofs.Ytfdfdifjkaaeoaa.F
end
section
namespace Go.Proofs.Ytfdfdifjkaaeoaa.F
open Go.RowKit Go.Proofs.YtfdfdifjkaaeoaaW.PrintWords Go.Proofs.YtfdfdifjkaaeoaaW.PrintLast Go.Proofs.YtfdfdifjkaaeoaaW.PrintMore
attribute [local go_sem] max2_int min2_int max_two min_two max_three min_three max_four min_four
set_option linter.unusedVariables false
set_option linter.unusedSimpArgs false
mutual
def impl_LongestLine.l0 : Nat → List (S59) → Int → List (S59) → Int → Int → Option (Int × Int)
 | 0, _, _, _, _, _ => none
 | k + 1, x0, x4, x14, x15, x16 => if x16 < x15 then (if 0 ≤ x16 then (if x16 < (x14.length : Int) then ((some (([(⟨1, 0⟩ : S59), (⟨0, 1⟩ : S59)] : List (S59)) : List (S59))).bind fun y522 => (impl_LongestLine.l1 k x0 x4 x14 x15 x16 y522 (y522.length : Int) 0 ((rd_T59 x14 x16).f0) ((rd_T59 x14 x16).f1))) else (none)) else (none)) else (some (x4, 0))
def impl_LongestLine.l1 : Nat → List (S59) → Int → List (S59) → Int → Int → List (S59) → Int → Int → Int → Int → Option (Int × Int)
 | 0, _, _, _, _, _, _, _, _, _, _ => none
 | k + 1, x0, x4, x14, x15, x16, x22, x23, x24, x522000, x522001 => if x24 < x23 then (if 0 ≤ x24 then (if x24 < (x22.length : Int) then (impl_LongestLine.l2 k x0 x4 0 x14 x15 x16 x22 x23 x24 x522000 x522001 x522000 x522001) else (none)) else (none)) else (impl_LongestLine.l0 k x0 x4 x14 x15 (wrap64 (x16 + 1)))
def impl_LongestLine.l2 : Nat → List (S59) → Int → Int → List (S59) → Int → Int → List (S59) → Int → Int → Int → Int → Int → Int → Option (Int × Int)
 | 0, _, _, _, _, _, _, _, _, _, _, _, _, _ => none
 | k + 1, x0, x4, x9, x14, x15, x16, x22, x23, x24, x522000, x522001, x528000, x528001 => (impl_Cell_65.f k x0 x528000 x528001).bind fun t528 => (if t528 = true then (impl_LongestLine.l2 k x0 x4 (wrap64 (x9 + 1)) x14 x15 x16 x22 x23 x24 x522000 x522001 (wrap64 (x528000 + (rd_T59 x22 x24).f0)) (wrap64 (x528001 + (rd_T59 x22 x24).f1))) else (impl_LongestLine.l1 k x0 (mx x4 x9) x14 x15 x16 x22 x23 (wrap64 (x24 + 1)) x522000 x522001))
end
def impl_LongestLine.f (k : Nat) (l0 : List (S59)) : Option (Int × Int) := (impl_IsShape.f k l0).bind fun t519 => (if t519 = true then (impl_LongestLine.l0 k l0 0 l0 (l0.length : Int) 0) else (some (0, 1)))
end Go.Proofs.Ytfdfdifjkaaeoaa.F
end
