/- The row of FnConvex, with what it needs: text 6 of 9. -/
import Derived.Test.YtfdfdifjkaaeoaaKFC4
set_option maxHeartbeats 8000000
set_option maxRecDepth 100000
section
namespace Go.Proofs.Ytfdfdifjkaaeoaa.F
open Go.RowKit Go.Proofs.YtfdfdifjkaaeoaaW.PrintWords Go.Proofs.YtfdfdifjkaaeoaaW.PrintLast Go.Proofs.YtfdfdifjkaaeoaaW.PrintMore
attribute [local go_sem] max2_int min2_int max_two min_two max_three min_three max_four min_four
set_option linter.unusedVariables false
set_option linter.unusedSimpArgs false
theorem impl_LongestLine.calls (k : Nat) (A0 : Option Addr) (c0 : Nat) (l0 : List (S59)) (r1 : Int) (r2 : Int) (w : World) (hr0 : Kd.C k59 w A0 l0.length l0) (hc0 : l0.length ≤ c0) (h : impl_LongestLine.f k l0 = some (r1, r2)) :
  Calls Try.prog 20 #[.slice A0 l0.length c0] w fun e w' => e = .returned (.tuple #[.int .i64 r1, .int .i64 r2]) ∧ Below w.heap.size w w' := by
 have hu59 := Try.underlying59
 have HR0 := aM hr0
 have HC0 := aM hc0
 clear hr0 hc0
 have HB := aM (Below.refl w.heap.size w)
 have H : ((impl_IsShape.f k l0).bind fun t519 => (if t519 = true then (impl_LongestLine.l0 k l0 0 l0 (l0.length : Int) 0) else (some (0, 1)))) = some (r1, r2) := h
 clear h
 replace H := Option.bind_eq_some_iff.mp H
 obtain ⟨t519, A20, H⟩ := H
 replace H : (if t519 = true then (impl_LongestLine.l0 k l0 0 l0 (l0.length : Int) 0) else (some (0, 1))) = some (r1, r2) := H
 have A2 := aM A20
 clear A20
 by_cases c3 : t519 = true
 rotate_left
 ·replace c3 := Bool.eq_false_iff.mpr c3
  subst c3
  have H1 : (some (0, 1)) = some (r1, r2) := by rw [if_neg (show ¬ (false = true) by decide)] at H; exact H
  clear H
  have H := H1
  clear H1
  simp only [Option.some.injEq, Prod.mk.injEq] at H
  obtain ⟨rfl, rfl⟩ := H
  go_enter Try.func20, Try.ntmps20
  go_wp2_with (first | ((with_reducible refine gate_callee (f := 61) rfl ?_); refine goesL_ (some 12) rfl rfl Try.func61 (by kernel_rfl) rfl #[.slice A0 l0.length c0] rfl zm ?_; (with_reducible refine (impl_IsShape.calls k _ _ l0 false _ ?side1 ?side2 A2.out).mono ?_); (case side1 => repeat (first | exact HR0.out | (with_reducible refine Kd.C_alloc ?_ _) | (with_reducible refine Kd.C_drewN ?_ _) | (with_reducible refine Kd.C_drew ?_))); (case side2 => exact HC0.out); rintro e w43 ⟨rfl, hb⟩; refine ⟨_, rfl, ?_⟩; have n0_ := aM (below_step zb hb); clear HB; have HB := n0_; clear n0_; (try clear hb); (try clear hb2); (try clear hk); (try clear hi)))
  go_ret2
  exact ⟨zw, zb⟩
 subst c3
 have H1 : (impl_LongestLine.l0 k l0 0 l0 (l0.length : Int) 0) = some (r1, r2) := by rw [if_pos rfl] at H; exact H
 clear H
 have H := H1
 clear H1
 have H' := aM H
 clear H
 go_enter Try.func20, Try.ntmps20
 go_wp2_with (first | ((with_reducible refine gate_callee (f := 61) rfl ?_); refine goesL_ (some 12) rfl rfl Try.func61 (by kernel_rfl) rfl #[.slice A0 l0.length c0] rfl zm ?_; (with_reducible refine (impl_IsShape.calls k _ _ l0 true _ ?side1 ?side2 A2.out).mono ?_); (case side1 => repeat (first | exact HR0.out | (with_reducible refine Kd.C_alloc ?_ _) | (with_reducible refine Kd.C_drewN ?_ _) | (with_reducible refine Kd.C_drew ?_))); (case side2 => exact HC0.out); rintro e w4 ⟨rfl, hb⟩; refine ⟨_, rfl, ?_⟩; have n0_ := aM (below_step zb hb); clear HB; have HB := n0_; clear n0_; (try clear hb); (try clear hb2); (try clear hk); (try clear hi)))
 go_loopg [4, 16] k (fun kq v4 v16 w' => ∃ (x4_1 : Int) (x16_1 : Int), v4 = .int .i64 x4_1 ∧ v16 = .int .i64 x16_1 ∧ Aside0 (impl_LongestLine.l0 kq l0 x4_1 l0 (l0.length : Int) x16_1 = some (r1, r2)) ∧ Aside0 (kq ≤ k) ∧ Aside0 (Below w.heap.size w w'))
 case atStart => exact ⟨(0), (0), zr, zr, H', ⟨Nat.le_refl _⟩, ⟨zb⟩⟩
 case round =>
  clear H'
  try clear c2
  try clear p2
  try clear c3
  obtain ⟨x4_1, x16_1, rfl, rfl, HA, HK1, HB⟩ := hrel
  cases gk with
  | zero => exact absurd HA.out (by simp [impl_LongestLine.l0])
  | succ k1 =>
   have H := HA.out
   clear HA
   simp only [impl_LongestLine.l0] at H
   by_cases c5 : x16_1 < (l0.length : Int)
   rotate_left
   ·rw [if_neg c5] at H
    have c5b0 : decide (x16_1 < (l0.length : Int)) = false := decide_eq_false c5
    clear c5
    simp only [Option.some.injEq, Prod.mk.injEq] at H
    obtain ⟨rfl, rfl⟩ := H
    go_wp2
    go_ret2
    exact ⟨zw, zb⟩
   rw [if_pos c5] at H
   have c5b0 : decide (x16_1 < (l0.length : Int)) = true := decide_eq_true c5
   clear c5
   by_cases c6 : 0 ≤ x16_1
   rotate_left
   ·rw [if_neg c6] at H
    exact absurd H (by simp)
   rw [if_pos c6] at H
   have c6b0 : decide (0 ≤ x16_1) = true := decide_eq_true c6
   clear c6
   by_cases c7 : x16_1 < (l0.length : Int)
   rotate_left
   ·rw [if_neg c7] at H
    exact absurd H (by simp)
   rw [if_pos c7] at H
   have c7b0 : decide (x16_1 < (l0.length : Int)) = true := decide_eq_true c7
   clear c7
   obtain ⟨y522, hy522⟩ : ∃ y_ : List (S59), y_ = (([(⟨1, 0⟩ : S59), (⟨0, 1⟩ : S59)] : List (S59))) := ⟨_, rfl⟩
   replace H : (impl_LongestLine.l1 k1 l0 x4_1 l0 (l0.length : Int) x16_1 y522 (y522.length : Int) 0 ((rd_T59 l0 x16_1).f0) ((rd_T59 l0 x16_1).f1)) = some (r1, r2) := zy H hy522
   have Ny522 := aM hy522
   clear hy522
   have H' := aM H
   clear H
   have p520 : 0 ≤ (x16_1 : Int) := of_decide_eq_true za
   have q520 : x16_1 < (l0.length : Int) := of_decide_eq_true za
   obtain ⟨ad520, e520, hx520_0, hx520_1⟩ := at_T59 HR0.out x16_1 p520 q520
   cases e520
   replace hx520_0 := zk HB.out hx520_0
   replace hx520_1 := zk HB.out hx520_1
   replace p520 := eq_true p520
   replace q520 := eq_true q520
   go_wp2_with (first | ((with_reducible refine gate_dst (N := 6) rfl ?_); refine zx 6 #[.int .i64 0, .int .i64 0] 59 ?_; intro gb521 hg w8 hbox hb; have n0_ := aM (below_step zb hb); have n1_ := aM (hbox); have n2_ := aM ((ze : w.heap.size ≤ gb521)); have n3_ := aM ((ze : w.heap.size ≤ gb521)); clear HB; have HB := n0_; have BK521 := n1_; have GW521 := n2_; have GE521 := n3_; clear n0_ n1_ n2_ n3_ hb hbox hg; have hcz9_0 : w8.cell? ⟨gb521, 0, none⟩ = some (.int .i64 0) := (blk_cell BK521.out 0).trans rfl; have hcz9_1 : w8.cell? ⟨gb521, 1, none⟩ = some (.int .i64 0) := (blk_cell BK521.out 1).trans rfl; have hfz9_0 := blk_frozen BK521.out 0; have hfz9_1 := blk_frozen BK521.out 1) | ((with_reducible refine gate_dst (N := 22) rfl ?_); refine Kd.R_lit k59 _ 59 ?hg (N := 22) ?hd (xs := ([(⟨1, 0⟩ : S59), (⟨0, 1⟩ : S59)] : List (S59))) (inner := [.int .i64 1, .int .i64 0, .int .i64 0, .int .i64 1]) (ok := fun _ => True) (okp := fun _ => True) ?hr ?hp (fun _ hk => hk) trivial (Below.refl _ _) (Nat.le_refl _) (by simp) ?_; (case hd => rfl); (case hg => rfl); (case hr => first | (go_simp; done) | (go_simp; rfl)); (case hp => exact (Reps.c2 (show Kd.M k59 _ _ _ (⟨1, 0⟩ : S59) [.int .i64 1, .int .i64 0] from (k59_mkM _ _ _ (⟨1, 0⟩ : S59) )) (Reps.c2 (show Kd.M k59 _ _ _ (⟨0, 1⟩ : S59) [.int .i64 0, .int .i64 1] from (k59_mkM _ _ _ (⟨0, 1⟩ : S59) )) (Reps.none _ _)))); intro v523 w10 ho11 hb hg_ hnew_; clear hg_ hnew_; (first | rw [← Ny522.out] at ho11 | (simp only [Int.reduceToNat] at ho11; rw [← Ny522.out] at ho11)); have n0_ := aM (Kd.R_lower (Kd.R_newB ho11 (g := gb521) (o := .cells #[.int .i64 ((rd_T59 l0 x16_1).f0), .int .i64 ((rd_T59 l0 x16_1).f1)] 59 (0, 0)) (by (with_reducible repeat (first | refine blk_drewN ?_ _ | refine blk_drew ?_ | refine blk_alloc ?_ _)); refine blk_put (cs := #[.int .i64 ((rd_T59 l0 x16_1).f0), .int .i64 0]) ?_ 1 _ rfl; (with_reducible repeat (first | refine blk_drewN ?_ _ | refine blk_drew ?_ | refine blk_alloc ?_ _)); refine blk_put (cs := #[.int .i64 0, .int .i64 0]) ?_ 0 _ rfl; (with_reducible repeat (first | refine blk_drewN ?_ _ | refine blk_drew ?_ | refine blk_alloc ?_ _)); exact BK521.out)) (below_size (zs GE521.out))); have n1_ := aM (blk_below (g := gb521) (o := .cells #[.int .i64 ((rd_T59 l0 x16_1).f0), .int .i64 ((rd_T59 l0 x16_1).f1)] 59 (0, 0)) (by (with_reducible repeat (first | refine blk_drewN ?_ _ | refine blk_drew ?_ | refine blk_alloc ?_ _)); refine blk_put (cs := #[.int .i64 ((rd_T59 l0 x16_1).f0), .int .i64 0]) ?_ 1 _ rfl; (with_reducible repeat (first | refine blk_drewN ?_ _ | refine blk_drew ?_ | refine blk_alloc ?_ _)); refine blk_put (cs := #[.int .i64 0, .int .i64 0]) ?_ 0 _ rfl; (with_reducible repeat (first | refine blk_drewN ?_ _ | refine blk_drew ?_ | refine blk_alloc ?_ _)); exact BK521.out) hb); have n2_ := aM (below_step (zs GE521.out) hb); clear BK521 HB; have HO524 := n0_; have BK521 := n1_; have HB := n2_; clear n0_ n1_ n2_ hb ho11; obtain ⟨Ao12, co12, eo12⟩ := Kd.R_slice HO524.out; subst eo12))
   go_loopg [4, 24] k1 (fun kq v4 v24 w' => ∃ (x4_2 : Int) (x24_2 : Int), v4 = .int .i64 x4_2 ∧ v24 = .int .i64 x24_2 ∧ Aside0 (impl_LongestLine.l1 kq l0 x4_2 l0 (l0.length : Int) x16_1 y522 (y522.length : Int) x24_2 ((rd_T59 l0 x16_1).f0) ((rd_T59 l0 x16_1).f1) = some (r1, r2)) ∧ Aside0 (kq ≤ k1) ∧ Aside0 (Kd.R k59 59 w' w.heap.size (fun k_ => k_ ≠ gb521) (.slice Ao12 y522.length co12) y522) ∧ Aside0 (w'.heap[gb521]? = some (.cells #[.int .i64 ((rd_T59 l0 x16_1).f0), .int .i64 ((rd_T59 l0 x16_1).f1)] 59 (0, 0))) ∧ Aside0 (Below w.heap.size w w'))
   case atStart => exact ⟨(x4_1), (0), zr, zr, H', ⟨Nat.le_refl _⟩, ⟨zd1 HO524.out⟩, ⟨mB_ BK521.out⟩, ⟨zs GE521.out⟩⟩
   case round =>
    clear H'
    try clear c2
    try clear p2
    try clear c3
    try clear c5
    try clear c5b0
    try clear p5
    try clear q5
    try clear hx5
    try clear c6
    try clear c6b0
    try clear c7
    try clear c7b0
    try clear hcz9_0
    try clear hcz9_1
    try clear hfz9_0
    try clear hfz9_1
    try clear hx520_0
    try clear hx520_1
    try clear p2
    try clear p520
    try clear q520
    obtain ⟨x4_2, x24_2, rfl, rfl, HA, HK2, HO_22, BK521, HB⟩ := hrel
    cases gk with
    | zero => exact absurd HA.out (by simp [impl_LongestLine.l1])
    | succ k2 =>
     have H := HA.out
     clear HA
     simp only [impl_LongestLine.l1] at H
     by_cases c13 : x24_2 < (y522.length : Int)
     rotate_left
     ·rw [if_neg c13] at H
      have c13b0 : decide (x24_2 < (y522.length : Int)) = false := decide_eq_false c13
      clear c13
      have H' := aM H
      clear H
      go_wp2
      go_roundg k2
      case measure => have := HK1.out; have := HK2.out; omega
      case rel => exact ⟨(x4_2), (wrap64 (x16_1 + 1)), zr, zr, H', ⟨by have := HK1.out; have := HK2.out; omega⟩, ⟨zs GE521.out⟩⟩
     rw [if_pos c13] at H
     have c13b0 : decide (x24_2 < (y522.length : Int)) = true := decide_eq_true c13
     clear c13
     by_cases c14 : 0 ≤ x24_2
     rotate_left
     ·rw [if_neg c14] at H
      exact absurd H (by simp)
     rw [if_pos c14] at H
     have c14b0 : decide (0 ≤ x24_2) = true := decide_eq_true c14
     clear c14
     by_cases c15 : x24_2 < (y522.length : Int)
     rotate_left
     ·rw [if_neg c15] at H
      exact absurd H (by simp)
     rw [if_pos c15] at H
     have c15b0 : decide (x24_2 < (y522.length : Int)) = true := decide_eq_true c15
     clear c15
     have H' := aM H
     clear H
     have p525 : 0 ≤ (x24_2 : Int) := of_decide_eq_true za
     have q525 : x24_2 < (y522.length : Int) := of_decide_eq_true za
     obtain ⟨ad525, e525, hx525_0, hx525_1⟩ := at_T59 (Kd.R_reads' HO_22.out).2.2 x24_2 p525 q525
     cases e525
     replace p525 := eq_true p525
     replace q525 := eq_true q525
     go_wp2_with (first | ((with_reducible refine gate_dst (N := 8) rfl ?_); refine zx 8 #[.int .i64 0, .int .i64 0] 59 ?_; intro gb526 hg w16 hbox hb; have n0_ := aM (Kd.R_below (Kd.R_elderB (mR_ HO_22.out) gb526 (Nat.le_of_eq hg.symm)) hb); have n1_ := aM (blk_below (g := gb521) (o := .cells #[.int .i64 ((rd_T59 l0 x16_1).f0), .int .i64 ((rd_T59 l0 x16_1).f1)] 59 (0, 0)) (mB_ BK521.out) hb); have n2_ := aM (below_step (zs GE521.out) hb); have n3_ := aM (hbox); have n4_ := aM ((zf GE521.out : w.heap.size ≤ gb526)); have n5_ := aM ((zf GE521.out : w.heap.size ≤ gb526)); have n6_ := aM ((zl BK521.out : gb521 ≠ gb526)); have n7_ := aM ((zn BK521.out : gb526 ≠ gb521)); clear HO_22 BK521 HB; have HO_22 := n0_; have BK521 := n1_; have HB := n2_; have BK526 := n3_; have GW526 := n4_; have GE526 := n5_; have NB521_526 := n6_; have NB526_521 := n7_; clear n0_ n1_ n2_ n3_ n4_ n5_ n6_ n7_ hb hbox hg; have hnb17 := NB526_521.out; have hnc17 := NB521_526.out; have hcz18_0 : w16.cell? ⟨gb526, 0, none⟩ = some (.int .i64 0) := (blk_cell BK526.out 0).trans rfl; have hcz18_1 : w16.cell? ⟨gb526, 1, none⟩ = some (.int .i64 0) := (blk_cell BK526.out 1).trans rfl; have hfz18_0 := blk_frozen BK526.out 0; have hfz18_1 := blk_frozen BK526.out 1; have hcz19_0 : w16.cell? ⟨gb521, 0, none⟩ = some (.int .i64 ((rd_T59 l0 x16_1).f0)) := (blk_cell BK521.out 0).trans rfl; have hcz19_1 : w16.cell? ⟨gb521, 1, none⟩ = some (.int .i64 ((rd_T59 l0 x16_1).f1)) := (blk_cell BK521.out 1).trans rfl; have hfz19_0 := blk_frozen BK521.out 0; have hfz19_1 := blk_frozen BK521.out 1) | ((with_reducible refine gate_dst (N := 10) rfl ?_); refine zx 10 #[.int .i64 0, .int .i64 0] 59 ?_; intro gb527 hg w20 hbox hb; have n0_ := aM (Kd.R_below (Kd.R_elderB (by (with_reducible repeat (first | apply Kd.R_alloc | apply Kd.R_drewN | apply Kd.R_drew)); exact (Kd.R_mono (Kd.R_far (p := ⟨gb526, 1, none⟩) (Kd.R_far (p := ⟨gb526, 0, none⟩) (Kd.R_mono HO_22.out (fun k_ hk => (⟨hk, hk.2⟩ : _ ∧ k_ ≠ gb526))) (fun _ hk => hk.2) (.int .i64 ((rd_T59 y522 x24_2).f0))) (fun _ hk => hk.2) (.int .i64 ((rd_T59 y522 x24_2).f1))) (fun _ h_ => h_.1))) gb527 (Nat.le_of_eq hg.symm)) hb); have n1_ := aM (blk_below (g := gb521) (o := .cells #[.int .i64 ((rd_T59 l0 x16_1).f0), .int .i64 ((rd_T59 l0 x16_1).f1)] 59 (0, 0)) (by (with_reducible repeat (first | refine blk_drewN ?_ _ | refine blk_drew ?_ | refine blk_alloc ?_ _)); refine blk_far ?_ NB521_526.out _; (with_reducible repeat (first | refine blk_drewN ?_ _ | refine blk_drew ?_ | refine blk_alloc ?_ _)); refine blk_far ?_ NB521_526.out _; (with_reducible repeat (first | refine blk_drewN ?_ _ | refine blk_drew ?_ | refine blk_alloc ?_ _)); exact BK521.out) hb); have n2_ := aM (blk_below (g := gb526) (o := .cells #[.int .i64 ((rd_T59 y522 x24_2).f0), .int .i64 ((rd_T59 y522 x24_2).f1)] 59 (0, 0)) (by (with_reducible repeat (first | refine blk_drewN ?_ _ | refine blk_drew ?_ | refine blk_alloc ?_ _)); refine blk_put (cs := #[.int .i64 ((rd_T59 y522 x24_2).f0), .int .i64 0]) ?_ 1 _ rfl; (with_reducible repeat (first | refine blk_drewN ?_ _ | refine blk_drew ?_ | refine blk_alloc ?_ _)); refine blk_put (cs := #[.int .i64 0, .int .i64 0]) ?_ 0 _ rfl; (with_reducible repeat (first | refine blk_drewN ?_ _ | refine blk_drew ?_ | refine blk_alloc ?_ _)); exact BK526.out) hb); have n3_ := aM (below_step (zt GE521.out GE526.out) hb); have n4_ := aM (hbox); have n5_ := aM ((by rw [hg]; exact (below_size (zt GE521.out GE526.out)) : w.heap.size ≤ gb527)); have n6_ := aM ((by rw [hg]; exact (below_size (zt GE521.out GE526.out)) : w.heap.size ≤ gb527)); have n7_ := aM ((by rw [hg]; exact Nat.ne_of_lt (blk_lt (g := gb521) (o := .cells #[.int .i64 ((rd_T59 l0 x16_1).f0), .int .i64 ((rd_T59 l0 x16_1).f1)] 59 (0, 0)) (by (with_reducible repeat (first | refine blk_drewN ?_ _ | refine blk_drew ?_ | refine blk_alloc ?_ _)); refine blk_far ?_ NB521_526.out _; (with_reducible repeat (first | refine blk_drewN ?_ _ | refine blk_drew ?_ | refine blk_alloc ?_ _)); refine blk_far ?_ NB521_526.out _; (with_reducible repeat (first | refine blk_drewN ?_ _ | refine blk_drew ?_ | refine blk_alloc ?_ _)); exact BK521.out)) : gb521 ≠ gb527)); have n8_ := aM ((by rw [hg]; exact Nat.ne_of_gt (blk_lt (g := gb521) (o := .cells #[.int .i64 ((rd_T59 l0 x16_1).f0), .int .i64 ((rd_T59 l0 x16_1).f1)] 59 (0, 0)) (by (with_reducible repeat (first | refine blk_drewN ?_ _ | refine blk_drew ?_ | refine blk_alloc ?_ _)); refine blk_far ?_ NB521_526.out _; (with_reducible repeat (first | refine blk_drewN ?_ _ | refine blk_drew ?_ | refine blk_alloc ?_ _)); refine blk_far ?_ NB521_526.out _; (with_reducible repeat (first | refine blk_drewN ?_ _ | refine blk_drew ?_ | refine blk_alloc ?_ _)); exact BK521.out)) : gb527 ≠ gb521)); have n9_ := aM ((by rw [hg]; exact Nat.ne_of_lt (blk_lt (g := gb526) (o := .cells #[.int .i64 ((rd_T59 y522 x24_2).f0), .int .i64 ((rd_T59 y522 x24_2).f1)] 59 (0, 0)) (by (with_reducible repeat (first | refine blk_drewN ?_ _ | refine blk_drew ?_ | refine blk_alloc ?_ _)); refine blk_put (cs := #[.int .i64 ((rd_T59 y522 x24_2).f0), .int .i64 0]) ?_ 1 _ rfl; (with_reducible repeat (first | refine blk_drewN ?_ _ | refine blk_drew ?_ | refine blk_alloc ?_ _)); refine blk_put (cs := #[.int .i64 0, .int .i64 0]) ?_ 0 _ rfl; (with_reducible repeat (first | refine blk_drewN ?_ _ | refine blk_drew ?_ | refine blk_alloc ?_ _)); exact BK526.out)) : gb526 ≠ gb527)); have n10_ := aM ((by rw [hg]; exact Nat.ne_of_gt (blk_lt (g := gb526) (o := .cells #[.int .i64 ((rd_T59 y522 x24_2).f0), .int .i64 ((rd_T59 y522 x24_2).f1)] 59 (0, 0)) (by (with_reducible repeat (first | refine blk_drewN ?_ _ | refine blk_drew ?_ | refine blk_alloc ?_ _)); refine blk_put (cs := #[.int .i64 ((rd_T59 y522 x24_2).f0), .int .i64 0]) ?_ 1 _ rfl; (with_reducible repeat (first | refine blk_drewN ?_ _ | refine blk_drew ?_ | refine blk_alloc ?_ _)); refine blk_put (cs := #[.int .i64 0, .int .i64 0]) ?_ 0 _ rfl; (with_reducible repeat (first | refine blk_drewN ?_ _ | refine blk_drew ?_ | refine blk_alloc ?_ _)); exact BK526.out)) : gb527 ≠ gb526)); clear HO_22 BK521 BK526 HB; have HO_22 := n0_; have BK521 := n1_; have BK526 := n2_; have HB := n3_; have BK527 := n4_; have GW527 := n5_; have GE527 := n6_; have NB521_527 := n7_; have NB527_521 := n8_; have NB526_527 := n9_; have NB527_526 := n10_; clear n0_ n1_ n2_ n3_ n4_ n5_ n6_ n7_ n8_ n9_ n10_ hb hbox hg; have hnb21 := NB527_521.out; have hnc21 := NB521_527.out; have hnb22 := NB527_526.out; have hnc22 := NB526_527.out; have hcz23_0 : w20.cell? ⟨gb527, 0, none⟩ = some (.int .i64 0) := (blk_cell BK527.out 0).trans rfl; have hcz23_1 : w20.cell? ⟨gb527, 1, none⟩ = some (.int .i64 0) := (blk_cell BK527.out 1).trans rfl; have hfz23_0 := blk_frozen BK527.out 0; have hfz23_1 := blk_frozen BK527.out 1))
     go_loopg [9, 10] k2 (fun kq v9 v10 w' => ∃ (x9_3 : Int) (gb527 : Nat) (xL_ yL_ : Int), v9 = .int .i64 x9_3 ∧ v10 = .pointer (some ⟨gb527, 0, none⟩) ∧ Aside0 (w.heap.size ≤ gb527) ∧ Aside0 (gb521 ≠ gb527) ∧ Aside0 (gb527 ≠ gb521) ∧ Aside0 (gb526 ≠ gb527) ∧ Aside0 (gb527 ≠ gb526) ∧ Aside0 (impl_LongestLine.l2 kq l0 x4_2 x9_3 l0 (l0.length : Int) x16_1 y522 (y522.length : Int) x24_2 ((rd_T59 l0 x16_1).f0) ((rd_T59 l0 x16_1).f1) xL_ yL_ = some (r1, r2)) ∧ Aside0 (kq ≤ k2) ∧ Aside0 (Kd.R k59 59 w' w.heap.size (fun k_ => k_ ≠ gb521 ∧ k_ ≠ gb526 ∧ k_ ≠ gb527) (.slice (some ad525) y522.length co12) y522) ∧ Aside0 (w'.heap[gb521]? = some (.cells #[.int .i64 ((rd_T59 l0 x16_1).f0), .int .i64 ((rd_T59 l0 x16_1).f1)] 59 (0, 0))) ∧ Aside0 (w'.heap[gb526]? = some (.cells #[.int .i64 ((rd_T59 y522 x24_2).f0), .int .i64 ((rd_T59 y522 x24_2).f1)] 59 (0, 0))) ∧ Aside0 (w'.heap[gb527]? = some (.cells #[.int .i64 xL_, .int .i64 yL_] 59 (0, 0))) ∧ Aside0 (Below w.heap.size w w'))
     case atStart => exact ⟨(0), gb527, ((rd_T59 l0 x16_1).f0), ((rd_T59 l0 x16_1).f1), zr, rfl, GE527, NB521_527, NB527_521, NB526_527, NB527_526, H', ⟨Nat.le_refl _⟩, ⟨by (with_reducible repeat (first | apply Kd.R_alloc | apply Kd.R_drewN | apply Kd.R_drew)); exact Kd.R_mono (Kd.R_far (p := ⟨gb527, 1, none⟩) (Kd.R_far (p := ⟨gb527, 0, none⟩) (Kd.R_mono HO_22.out (fun k_ hk => (⟨hk, hk.2⟩ : _ ∧ k_ ≠ gb527))) (fun _ hk => hk.2) (.int .i64 ((rd_T59 l0 x16_1).f0))) (fun _ hk => hk.2) (.int .i64 ((rd_T59 l0 x16_1).f1))) (fun _ hk => ⟨hk.1.1.1, ⟨hk.1.1.2, hk.1.2⟩⟩)⟩, ⟨by (with_reducible repeat (first | refine blk_drewN ?_ _ | refine blk_drew ?_ | refine blk_alloc ?_ _)); refine blk_far ?_ NB521_527.out _; (with_reducible repeat (first | refine blk_drewN ?_ _ | refine blk_drew ?_ | refine blk_alloc ?_ _)); refine blk_far ?_ NB521_527.out _; (with_reducible repeat (first | refine blk_drewN ?_ _ | refine blk_drew ?_ | refine blk_alloc ?_ _)); exact BK521.out⟩, ⟨by (with_reducible repeat (first | refine blk_drewN ?_ _ | refine blk_drew ?_ | refine blk_alloc ?_ _)); refine blk_far ?_ NB526_527.out _; (with_reducible repeat (first | refine blk_drewN ?_ _ | refine blk_drew ?_ | refine blk_alloc ?_ _)); refine blk_far ?_ NB526_527.out _; (with_reducible repeat (first | refine blk_drewN ?_ _ | refine blk_drew ?_ | refine blk_alloc ?_ _)); exact BK526.out⟩, ⟨by (with_reducible repeat (first | refine blk_drewN ?_ _ | refine blk_drew ?_ | refine blk_alloc ?_ _)); refine blk_put (cs := #[.int .i64 ((rd_T59 l0 x16_1).f0), .int .i64 0]) ?_ 1 _ rfl; (with_reducible repeat (first | refine blk_drewN ?_ _ | refine blk_drew ?_ | refine blk_alloc ?_ _)); refine blk_put (cs := #[.int .i64 0, .int .i64 0]) ?_ 0 _ rfl; (with_reducible repeat (first | refine blk_drewN ?_ _ | refine blk_drew ?_ | refine blk_alloc ?_ _)); exact BK527.out⟩, ⟨by repeat (first | (with_reducible first | exact HB.out | apply below_alloc | apply pw_below_drewN | apply below_drew1 | refine below_set ?_ GE521.out | refine below_set ?_ GE526.out | refine below_set ?_ GE527.out) | exact HB.out)⟩⟩
     case round =>
      clear H'
      try clear c1
      try clear c2
      try clear p2
      try clear c3
      try clear c5
      try clear c5b0
      try clear p5
      try clear q5
      try clear hx5
      try clear c6
      try clear c6b0
      try clear c7
      try clear c7b0
      try clear c13
      try clear c13b0
      try clear c14
      try clear c14b0
      try clear c15
      try clear c15b0
      try clear c17
      try clear c20
      try clear c21
      try clear c22
      try clear hcz18_0
      try clear hcz18_1
      try clear hcz19_0
      try clear hcz19_1
      try clear hcz23_0
      try clear hcz23_1
      try clear hcz9_0
      try clear hcz9_1
      try clear hfz18_0
      try clear hfz18_1
      try clear hfz19_0
      try clear hfz19_1
      try clear hfz23_0
      try clear hfz23_1
      try clear hfz9_0
      try clear hfz9_1
      try clear hx520_0
      try clear hx520_1
      try clear hx525_0
      try clear hx525_1
      try clear p2
      try clear p5
      try clear p520
      try clear p525
      try clear q5
      try clear q520
      try clear q525
      obtain ⟨x9_3, gb527, xL_, yL_, rfl, rfl, GE527, NB521_527, NB527_521, NB526_527, NB527_526, HA, HK3, HO_22, BK521, BK526, BK527, HB⟩ := hrel
      have GW527 := GE527
      cases gk with
      | zero => exact absurd HA.out (by simp [impl_LongestLine.l2])
      | succ k3 =>
       have H := HA.out
       clear HA
       simp only [impl_LongestLine.l2] at H
       replace H := Option.bind_eq_some_iff.mp H
       obtain ⟨t528, A240, H⟩ := H
       replace H : (if t528 = true then (impl_LongestLine.l2 k3 l0 x4_2 (wrap64 (x9_3 + 1)) l0 (l0.length : Int) x16_1 y522 (y522.length : Int) x24_2 ((rd_T59 l0 x16_1).f0) ((rd_T59 l0 x16_1).f1) (wrap64 (xL_ + ((rd_T59 y522 x24_2).f0))) (wrap64 (yL_ + ((rd_T59 y522 x24_2).f1)))) else (impl_LongestLine.l1 k3 l0 (mx x4_2 x9_3) l0 (l0.length : Int) x16_1 y522 (y522.length : Int) (wrap64 (x24_2 + 1)) ((rd_T59 l0 x16_1).f0) ((rd_T59 l0 x16_1).f1))) = some (r1, r2) := H
       have A24 := aM A240
       clear A240
       by_cases c25 : t528 = true
       ·subst c25
        have H1 : (impl_LongestLine.l2 k3 l0 x4_2 (wrap64 (x9_3 + 1)) l0 (l0.length : Int) x16_1 y522 (y522.length : Int) x24_2 ((rd_T59 l0 x16_1).f0) ((rd_T59 l0 x16_1).f1) (wrap64 (xL_ + ((rd_T59 y522 x24_2).f0))) (wrap64 (yL_ + ((rd_T59 y522 x24_2).f1)))) = some (r1, r2) := by rw [if_pos rfl] at H; exact H
        clear H
        have H := H1
        clear H1
        have H' := aM H
        clear H
        have hnb26 := NB527_521.out
        have hnc26 := NB521_527.out
        have hnb27 := NB527_526.out
        have hnc27 := NB526_527.out
        have hcz28_0 : wr.cell? ⟨gb527, 0, none⟩ = some (.int .i64 xL_) := (blk_cell BK527.out 0).trans rfl
        have hcz28_1 : wr.cell? ⟨gb527, 1, none⟩ = some (.int .i64 yL_) := (blk_cell BK527.out 1).trans rfl
        have hfz28_0 := blk_frozen BK527.out 0
        have hfz28_1 := blk_frozen BK527.out 1
        go_wp2_with (first | ((with_reducible refine gate_callee (f := 65) rfl ?_); refine goesL_ (some 31) rfl rfl Try.func65 (by kernel_rfl) rfl #[.slice (some ad520) l0.length c0, .agg #[.int .i64 xL_, .int .i64 yL_]] rfl zm ?_; (with_reducible refine (impl_Cell_65.calls k3 _ _ l0 xL_ yL_ true _ ?side1 ?side2 A24.out).mono ?_); (case side1 => repeat (first | exact (Kd.C_below HR0.out HB.out) | (with_reducible refine Kd.C_alloc ?_ _) | (with_reducible refine Kd.C_drewN ?_ _) | (with_reducible refine Kd.C_drew ?_))); (case side2 => exact HC0.out); rintro e w29 ⟨rfl, hb⟩; refine ⟨_, rfl, ?_⟩; have n0_ := aM (Kd.R_below (mR_ HO_22.out) hb); have n1_ := aM (blk_below (g := gb521) (o := .cells #[.int .i64 ((rd_T59 l0 x16_1).f0), .int .i64 ((rd_T59 l0 x16_1).f1)] 59 (0, 0)) (mB_ BK521.out) hb); have n2_ := aM (blk_below (g := gb526) (o := .cells #[.int .i64 ((rd_T59 y522 x24_2).f0), .int .i64 ((rd_T59 y522 x24_2).f1)] 59 (0, 0)) (mB_ BK526.out) hb); have n3_ := aM (blk_below (g := gb527) (o := .cells #[.int .i64 xL_, .int .i64 yL_] 59 (0, 0)) (mB_ BK527.out) hb); have n4_ := aM (below_step (by repeat (first | (with_reducible first | exact HB.out | apply below_alloc | apply pw_below_drewN | apply below_drew1 | refine below_set ?_ GE521.out | refine below_set ?_ GE526.out | refine below_set ?_ GE527.out) | exact HB.out)) hb); clear HO_22 BK521 BK526 BK527 HB; have HO_22 := n0_; have BK521 := n1_; have BK526 := n2_; have BK527 := n3_; have HB := n4_; clear n0_ n1_ n2_ n3_ n4_; (try clear hb); (try clear hb2); (try clear hk); (try clear hi); have hcz30_0 : w29.cell? ⟨gb527, 0, none⟩ = some (.int .i64 xL_) := (blk_cell BK527.out 0).trans rfl; have hcz30_1 : w29.cell? ⟨gb527, 1, none⟩ = some (.int .i64 yL_) := (blk_cell BK527.out 1).trans rfl; have hfz30_0 := blk_frozen BK527.out 0; have hfz30_1 := blk_frozen BK527.out 1) | ((with_reducible refine gate_dst (N := 10) rfl ?_); refine zx 10 #[.int .i64 0, .int .i64 0] 59 ?_; intro gb529 hg w31 hbox hb; have n0_ := aM (Kd.R_below (Kd.R_elderB (mR_ HO_22.out) gb529 (Nat.le_of_eq hg.symm)) hb); have n1_ := aM (blk_below (g := gb521) (o := .cells #[.int .i64 ((rd_T59 l0 x16_1).f0), .int .i64 ((rd_T59 l0 x16_1).f1)] 59 (0, 0)) (mB_ BK521.out) hb); have n2_ := aM (blk_below (g := gb526) (o := .cells #[.int .i64 ((rd_T59 y522 x24_2).f0), .int .i64 ((rd_T59 y522 x24_2).f1)] 59 (0, 0)) (mB_ BK526.out) hb); have n3_ := aM (blk_below (g := gb527) (o := .cells #[.int .i64 xL_, .int .i64 yL_] 59 (0, 0)) (mB_ BK527.out) hb); have n4_ := aM (below_step (by repeat (first | (with_reducible first | exact HB.out | apply below_alloc | apply pw_below_drewN | apply below_drew1 | refine below_set ?_ GE521.out | refine below_set ?_ GE526.out | refine below_set ?_ GE527.out) | exact HB.out)) hb); have n5_ := aM (hbox); have n6_ := aM ((by rw [hg]; exact (below_size (by repeat (first | (with_reducible first | exact HB.out | apply below_alloc | apply pw_below_drewN | apply below_drew1 | refine below_set ?_ GE521.out | refine below_set ?_ GE526.out | refine below_set ?_ GE527.out) | exact HB.out))) : w.heap.size ≤ gb529)); have n7_ := aM ((by rw [hg]; exact (below_size (by repeat (first | (with_reducible first | exact HB.out | apply below_alloc | apply pw_below_drewN | apply below_drew1 | refine below_set ?_ GE521.out | refine below_set ?_ GE526.out | refine below_set ?_ GE527.out) | exact HB.out))) : w.heap.size ≤ gb529)); have n8_ := aM ((zl BK521.out : gb521 ≠ gb529)); have n9_ := aM ((zn BK521.out : gb529 ≠ gb521)); have n10_ := aM ((zl BK526.out : gb526 ≠ gb529)); have n11_ := aM ((zn BK526.out : gb529 ≠ gb526)); have n12_ := aM ((zl BK527.out : gb527 ≠ gb529)); have n13_ := aM ((zn BK527.out : gb529 ≠ gb527)); clear HO_22 BK521 BK526 BK527 HB; have HO_22 := n0_; have BK521 := n1_; have BK526 := n2_; have BK527 := n3_; have HB := n4_; have BK529 := n5_; have GW529 := n6_; have GE529 := n7_; have NB521_529 := n8_; have NB529_521 := n9_; have NB526_529 := n10_; have NB529_526 := n11_; have NB527_529 := n12_; have NB529_527 := n13_; clear n0_ n1_ n2_ n3_ n4_ n5_ n6_ n7_ n8_ n9_ n10_ n11_ n12_ n13_ hb hbox hg; have hnb32 := NB529_521.out; have hnc32 := NB521_529.out; have hnb33 := NB529_526.out; have hnc33 := NB526_529.out; have hnb34 := NB529_527.out; have hnc34 := NB527_529.out; have hcz35_0 : w31.cell? ⟨gb529, 0, none⟩ = some (.int .i64 0) := (blk_cell BK529.out 0).trans rfl; have hcz35_1 : w31.cell? ⟨gb529, 1, none⟩ = some (.int .i64 0) := (blk_cell BK529.out 1).trans rfl; have hfz35_0 := blk_frozen BK529.out 0; have hfz35_1 := blk_frozen BK529.out 1; have hnb36 := NB526_521.out; have hnc36 := NB521_526.out; have hcz37_0 : w31.cell? ⟨gb526, 0, none⟩ = some (.int .i64 ((rd_T59 y522 x24_2).f0)) := (blk_cell BK526.out 0).trans rfl; have hcz37_1 : w31.cell? ⟨gb526, 1, none⟩ = some (.int .i64 ((rd_T59 y522 x24_2).f1)) := (blk_cell BK526.out 1).trans rfl; have hfz37_0 := blk_frozen BK526.out 0; have hfz37_1 := blk_frozen BK526.out 1))
        go_roundg k3
        case measure => have := HK1.out; have := HK2.out; have := HK3.out; omega
        case rel => exact ⟨(wrap64 (x9_3 + 1)), gb529, _, _, zr, rfl, GE529, NB521_529, NB529_521, NB526_529, NB529_526, H', ⟨by have := HK1.out; have := HK2.out; have := HK3.out; omega⟩, ⟨by (with_reducible repeat (first | apply Kd.R_alloc | apply Kd.R_drewN | apply Kd.R_drew)); exact Kd.R_mono (Kd.R_far (p := ⟨gb529, 1, none⟩) (Kd.R_far (p := ⟨gb529, 0, none⟩) (Kd.R_far (p := ⟨gb529, 1, none⟩) (Kd.R_far (p := ⟨gb529, 0, none⟩) (Kd.R_mono HO_22.out (fun k_ hk => (⟨hk, hk.2⟩ : _ ∧ k_ ≠ gb529))) (fun _ hk => hk.2) (.int .i64 xL_)) (fun _ hk => hk.2) (.int .i64 yL_)) (fun _ hk => hk.2) (.int .i64 (wrap64 (xL_ + ((rd_T59 y522 x24_2).f0))))) (fun _ hk => hk.2) (.int .i64 (wrap64 (yL_ + ((rd_T59 y522 x24_2).f1))))) (fun _ hk => ⟨hk.1.1.1, ⟨hk.1.1.2.1, hk.2⟩⟩)⟩, ⟨by (with_reducible repeat (first | refine blk_drewN ?_ _ | refine blk_drew ?_ | refine blk_alloc ?_ _)); refine blk_far ?_ NB521_529.out _; (with_reducible repeat (first | refine blk_drewN ?_ _ | refine blk_drew ?_ | refine blk_alloc ?_ _)); refine blk_far ?_ NB521_529.out _; (with_reducible repeat (first | refine blk_drewN ?_ _ | refine blk_drew ?_ | refine blk_alloc ?_ _)); refine blk_far ?_ NB521_529.out _; (with_reducible repeat (first | refine blk_drewN ?_ _ | refine blk_drew ?_ | refine blk_alloc ?_ _)); refine blk_far ?_ NB521_529.out _; (with_reducible repeat (first | refine blk_drewN ?_ _ | refine blk_drew ?_ | refine blk_alloc ?_ _)); exact BK521.out⟩, ⟨by (with_reducible repeat (first | refine blk_drewN ?_ _ | refine blk_drew ?_ | refine blk_alloc ?_ _)); refine blk_far ?_ NB526_529.out _; (with_reducible repeat (first | refine blk_drewN ?_ _ | refine blk_drew ?_ | refine blk_alloc ?_ _)); refine blk_far ?_ NB526_529.out _; (with_reducible repeat (first | refine blk_drewN ?_ _ | refine blk_drew ?_ | refine blk_alloc ?_ _)); refine blk_far ?_ NB526_529.out _; (with_reducible repeat (first | refine blk_drewN ?_ _ | refine blk_drew ?_ | refine blk_alloc ?_ _)); refine blk_far ?_ NB526_529.out _; (with_reducible repeat (first | refine blk_drewN ?_ _ | refine blk_drew ?_ | refine blk_alloc ?_ _)); exact BK526.out⟩, ⟨by (with_reducible repeat (first | refine blk_drewN ?_ _ | refine blk_drew ?_ | refine blk_alloc ?_ _)); refine blk_put (cs := #[.int .i64 (wrap64 (xL_ + ((rd_T59 y522 x24_2).f0))), .int .i64 yL_]) ?_ 1 _ rfl; (with_reducible repeat (first | refine blk_drewN ?_ _ | refine blk_drew ?_ | refine blk_alloc ?_ _)); refine blk_put (cs := #[.int .i64 xL_, .int .i64 yL_]) ?_ 0 _ rfl; (with_reducible repeat (first | refine blk_drewN ?_ _ | refine blk_drew ?_ | refine blk_alloc ?_ _)); refine blk_put (cs := #[.int .i64 xL_, .int .i64 0]) ?_ 1 _ rfl; (with_reducible repeat (first | refine blk_drewN ?_ _ | refine blk_drew ?_ | refine blk_alloc ?_ _)); refine blk_put (cs := #[.int .i64 0, .int .i64 0]) ?_ 0 _ rfl; (with_reducible repeat (first | refine blk_drewN ?_ _ | refine blk_drew ?_ | refine blk_alloc ?_ _)); exact BK529.out⟩, ⟨by repeat (first | (with_reducible first | exact HB.out | apply below_alloc | apply pw_below_drewN | apply below_drew1 | refine below_set ?_ GE521.out | refine below_set ?_ GE526.out | refine below_set ?_ GE527.out | refine below_set ?_ GE529.out) | exact HB.out)⟩⟩
       replace c25 := Bool.eq_false_iff.mpr c25
       subst c25
       have H1 : (impl_LongestLine.l1 k3 l0 (mx x4_2 x9_3) l0 (l0.length : Int) x16_1 y522 (y522.length : Int) (wrap64 (x24_2 + 1)) ((rd_T59 l0 x16_1).f0) ((rd_T59 l0 x16_1).f1)) = some (r1, r2) := by rw [if_neg (show ¬ (false = true) by decide)] at H; exact H
       clear H
       have H := H1
       clear H1
       obtain ⟨ji38, hji38⟩ : ∃ j_ : Int, (mx x4_2 x9_3) = j_ := ⟨_, rfl⟩
       replace H : (impl_LongestLine.l1 k3 l0 ji38 l0 (l0.length : Int) x16_1 y522 (y522.length : Int) (wrap64 (x24_2 + 1)) ((rd_T59 l0 x16_1).f0) ((rd_T59 l0 x16_1).f1)) = some (r1, r2) := by first | (rw [hji38] at H; exact H) | (simp only [hji38] at H ⊢; exact H)
       (try rw [hji38] at A24)
       have hji38_ : (if x4_2 < x9_3 then x9_3 else x4_2) = ji38 := hji38
       have H' := aM H
       clear H
       have hnb39 := NB527_521.out
       have hnc39 := NB521_527.out
       have hnb40 := NB527_526.out
       have hnc40 := NB526_527.out
       have hcz41_0 : wr.cell? ⟨gb527, 0, none⟩ = some (.int .i64 xL_) := (blk_cell BK527.out 0).trans rfl
       have hcz41_1 : wr.cell? ⟨gb527, 1, none⟩ = some (.int .i64 yL_) := (blk_cell BK527.out 1).trans rfl
       have hfz41_0 := blk_frozen BK527.out 0
       have hfz41_1 := blk_frozen BK527.out 1
       go_wp2_with (first | ((with_reducible refine gate_callee (f := 65) rfl ?_); refine goesL_ (some 31) rfl rfl Try.func65 (by kernel_rfl) rfl #[.slice (some ad520) l0.length c0, .agg #[.int .i64 xL_, .int .i64 yL_]] rfl zm ?_; (with_reducible refine (impl_Cell_65.calls k3 _ _ l0 xL_ yL_ false _ ?side1 ?side2 A24.out).mono ?_); (case side1 => repeat (first | exact (Kd.C_below HR0.out HB.out) | (with_reducible refine Kd.C_alloc ?_ _) | (with_reducible refine Kd.C_drewN ?_ _) | (with_reducible refine Kd.C_drew ?_))); (case side2 => exact HC0.out); rintro e w42 ⟨rfl, hb⟩; refine ⟨_, rfl, ?_⟩; have n0_ := aM (Kd.R_below (mR_ HO_22.out) hb); have n1_ := aM (blk_below (g := gb521) (o := .cells #[.int .i64 ((rd_T59 l0 x16_1).f0), .int .i64 ((rd_T59 l0 x16_1).f1)] 59 (0, 0)) (mB_ BK521.out) hb); have n2_ := aM (blk_below (g := gb526) (o := .cells #[.int .i64 ((rd_T59 y522 x24_2).f0), .int .i64 ((rd_T59 y522 x24_2).f1)] 59 (0, 0)) (mB_ BK526.out) hb); have n3_ := aM (blk_below (g := gb527) (o := .cells #[.int .i64 xL_, .int .i64 yL_] 59 (0, 0)) (mB_ BK527.out) hb); have n4_ := aM (below_step (by repeat (first | (with_reducible first | exact HB.out | apply below_alloc | apply pw_below_drewN | apply below_drew1 | refine below_set ?_ GE521.out | refine below_set ?_ GE526.out | refine below_set ?_ GE527.out) | exact HB.out)) hb); clear HO_22 BK521 BK526 BK527 HB; have HO_22 := n0_; have BK521 := n1_; have BK526 := n2_; have BK527 := n3_; have HB := n4_; clear n0_ n1_ n2_ n3_ n4_; (try clear hb); (try clear hb2); (try clear hk); (try clear hi)))
       go_roundg k3
       case measure => have := HK1.out; have := HK2.out; have := HK3.out; omega
       case rel => exact ⟨(ji38), (wrap64 (x24_2 + 1)), (by first | rfl | (simp; done) | (simp only [← hji38] <;> (first | rfl | simp)) | (simp [*]; done)), zr, H', ⟨by have := HK1.out; have := HK2.out; have := HK3.out; omega⟩, ⟨zd2 HO_22.out⟩, ⟨mB_ BK521.out⟩, ⟨by repeat (first | (with_reducible first | exact HB.out | apply below_alloc | apply pw_below_drewN | apply below_drew1 | refine below_set ?_ GE521.out | refine below_set ?_ GE526.out | refine below_set ?_ GE527.out) | exact HB.out)⟩⟩
mutual
def spec_LongestLine.l0 : Nat → List (S59) → Int → Int → Option (Int × Int)
 | 0, _, _, _ => none
 | k + 1, x0, x4, x5 => if x5 < (x0.length : Int) then (spec_LongestLine.l1 k x0 x4 x5 (([(⟨1, 0⟩ : S59), (⟨0, 1⟩ : S59)] : List (S59))) 0) else (some (x4, 0))
def spec_LongestLine.l1 : Nat → List (S59) → Int → Int → List (S59) → Int → Option (Int × Int)
 | 0, _, _, _, _, _ => none
 | k + 1, x0, x4, x5, x6, x7 => if x7 < 2 then (if 0 ≤ x5 then (if x5 < (x0.length : Int) then (spec_LongestLine.l2 k x0 x4 x5 x6 x7 0 ((rd_T59 x0 x5).f0) ((rd_T59 x0 x5).f1)) else (none)) else (none)) else (spec_LongestLine.l0 k x0 x4 (wrap64 (x5 + 1)))
def spec_LongestLine.l2 : Nat → List (S59) → Int → Int → List (S59) → Int → Int → Int → Int → Option (Int × Int)
 | 0, _, _, _, _, _, _, _, _ => none
 | k + 1, x0, x4, x5, x6, x7, x8, x536000, x536001 => (spec_l02Index.f k x0 x536000 x536001).bind fun t536 => (if t536 ≥ 0 then (if 0 ≤ x7 then (if x7 < (x6.length : Int) then (spec_LongestLine.l2 k x0 x4 x5 x6 x7 (wrap64 (x8 + 1)) (wrap64 (x536000 + (rd_T59 x6 x7).f0)) (wrap64 (x536001 + (rd_T59 x6 x7).f1))) else (none)) else (none)) else (spec_LongestLine.l1 k x0 (mx x4 x8) x5 x6 (wrap64 (x7 + 1))))
end
def spec_LongestLine.f (k : Nat) (l0 : List (S59)) : Option (Int × Int) := (spec_IsShape.f k l0).bind fun t530 => (if t530 = true then (spec_LongestLine.l0 k l0 0 0) else (some (0, 1)))
def spec_LongestLine.T14 : Bool × List (List Nat × List Nat) := (true, [([], []), ([0], [0]), ([], []), ([], []), ([2, 3], [2, 3]), ([4], [4]), ([5], [5]), ([1, 6], [1, 6]), ([], []), ([8], [8]), ([], []), ([], []), ([10, 11], [10, 11]), ([12], [12]), ([13], [13]), ([9, 14], [9, 14]), ([7, 15], [7, 15]), ([16, 0, 1, 2, 3, 4, 5, 6, 7, 8, 9, 10, 11, 12, 13, 14, 15, 16], [16])])
def spec_LongestLine.B14 : List Nat := [0, 1, 0, 0, 12, 28, 60, 127, 0, 256, 0, 0, 3072, 7168, 15360, 32512, 65535, 131071]
theorem spec_LongestLine.tab14 : rtab .any (opsOf Try.f21 14) = spec_LongestLine.T14 := by kernel_rfl
theorem spec_LongestLine.bits14 : waitsOk spec_LongestLine.T14.2 spec_LongestLine.B14 = true := by kernel_rfl
theorem spec_LongestLine.calls (k : Nat) (A0 : Option Addr) (c0 : Nat) (l0 : List (S59)) (r1 : Int) (r2 : Int) (w : World) (hr0 : Kd.C k59 w A0 l0.length l0) (hc0 : l0.length ≤ c0) (h : spec_LongestLine.f k l0 = some (r1, r2)) :
  Calls Try.prog 21 #[.slice A0 l0.length c0] w fun e w' => e = .returned (.tuple #[.int .i64 r1, .int .i64 r2]) ∧ Below w.heap.size w w' := by
 have hu59 := Try.underlying59
 have HR0 := aM hr0
 have HC0 := aM hc0
 clear hr0 hc0
 have HB := aM (Below.refl w.heap.size w)
 have H : ((spec_IsShape.f k l0).bind fun t530 => (if t530 = true then (spec_LongestLine.l0 k l0 0 0) else (some (0, 1)))) = some (r1, r2) := h
 clear h
 replace H := Option.bind_eq_some_iff.mp H
 obtain ⟨t530, A20, H⟩ := H
 replace H : (if t530 = true then (spec_LongestLine.l0 k l0 0 0) else (some (0, 1))) = some (r1, r2) := H
 have A2 := aM A20
 clear A20
 by_cases c3 : t530 = true
 rotate_left
 ·replace c3 := Bool.eq_false_iff.mpr c3
  subst c3
  have H1 : (some (0, 1)) = some (r1, r2) := by rw [if_neg (show ¬ (false = true) by decide)] at H; exact H
  clear H
  have H := H1
  clear H1
  simp only [Option.some.injEq, Prod.mk.injEq] at H
  obtain ⟨rfl, rfl⟩ := H
  go_enter Try.func21, Try.ntmps21
  go_wp2_with (first | ((with_reducible refine gate_callee (f := 66) rfl ?_); refine goesL_ (some 11) rfl rfl Try.func66 (by kernel_rfl) rfl #[.slice A0 l0.length c0] rfl zm ?_; (with_reducible refine (spec_IsShape.calls k _ _ l0 false _ ?side1 ?side2 A2.out).mono ?_); (case side1 => repeat (first | exact HR0.out | (with_reducible refine Kd.C_alloc ?_ _) | (with_reducible refine Kd.C_drewN ?_ _) | (with_reducible refine Kd.C_drew ?_))); (case side2 => exact HC0.out); rintro e w31 ⟨rfl, hb⟩; refine ⟨_, rfl, ?_⟩; have n0_ := aM (below_step zb hb); clear HB; have HB := n0_; clear n0_; (try clear hb); (try clear hb2); (try clear hk); (try clear hi)))
  go_ret2
  exact ⟨zw, zb⟩
 subst c3
 have H1 : (spec_LongestLine.l0 k l0 0 0) = some (r1, r2) := by rw [if_pos rfl] at H; exact H
 clear H
 have H := H1
 clear H1
 have H' := aM H
 clear H
 go_enter Try.func21, Try.ntmps21
 go_wp2_with (first | ((with_reducible refine gate_callee (f := 66) rfl ?_); refine goesL_ (some 11) rfl rfl Try.func66 (by kernel_rfl) rfl #[.slice A0 l0.length c0] rfl zm ?_; (with_reducible refine (spec_IsShape.calls k _ _ l0 true _ ?side1 ?side2 A2.out).mono ?_); (case side1 => repeat (first | exact HR0.out | (with_reducible refine Kd.C_alloc ?_ _) | (with_reducible refine Kd.C_drewN ?_ _) | (with_reducible refine Kd.C_drew ?_))); (case side2 => exact HC0.out); rintro e w4 ⟨rfl, hb⟩; refine ⟨_, rfl, ?_⟩; have n0_ := aM (below_step zb hb); clear HB; have HB := n0_; clear n0_; (try clear hb); (try clear hb2); (try clear hk); (try clear hi)))
 go_loopg [4, 5] k (fun kq v4 v5 w' => ∃ (x4_1 : Int) (x5_1 : Int), v4 = .int .i64 x4_1 ∧ v5 = .int .i64 x5_1 ∧ Aside0 (spec_LongestLine.l0 kq l0 x4_1 x5_1 = some (r1, r2)) ∧ Aside0 (kq ≤ k) ∧ Aside0 (Below w.heap.size w w'))
 case atStart => exact ⟨(0), (0), zr, zr, H', ⟨Nat.le_refl _⟩, ⟨zb⟩⟩
 case round =>
  clear H'
  try clear c2
  try clear p2
  try clear c3
  obtain ⟨x4_1, x5_1, rfl, rfl, HA, HK1, HB⟩ := hrel
  cases gk with
  | zero => exact absurd HA.out (by simp [spec_LongestLine.l0])
  | succ k1 =>
   have H := HA.out
   clear HA
   simp only [spec_LongestLine.l0] at H
   by_cases c5 : x5_1 < (l0.length : Int)
   rotate_left
   ·rw [if_neg c5] at H
    have c5b0 : decide (x5_1 < (l0.length : Int)) = false := decide_eq_false c5
    clear c5
    simp only [Option.some.injEq, Prod.mk.injEq] at H
    obtain ⟨rfl, rfl⟩ := H
    go_wp2
    go_ret2
    exact ⟨zw, zb⟩
   rw [if_pos c5] at H
   have c5b0 : decide (x5_1 < (l0.length : Int)) = true := decide_eq_true c5
   clear c5
   obtain ⟨y531, hy531⟩ : ∃ y_ : List (S59), y_ = (([(⟨1, 0⟩ : S59), (⟨0, 1⟩ : S59)] : List (S59))) := ⟨_, rfl⟩
   replace H : (spec_LongestLine.l1 k1 l0 x4_1 x5_1 y531 0) = some (r1, r2) := zy H hy531
   have Ny531 := aM hy531
   clear hy531
   have H' := aM H
   clear H
   go_wp2_with (first | ((with_reducible refine gate_dst (N := 21) rfl ?_); refine Kd.R_lit k59 _ 59 ?hg (N := 21) ?hd (xs := ([(⟨1, 0⟩ : S59), (⟨0, 1⟩ : S59)] : List (S59))) (inner := [.int .i64 1, .int .i64 0, .int .i64 0, .int .i64 1]) (ok := fun _ => True) (okp := fun _ => True) ?hr ?hp (fun _ hk => hk) trivial (Below.refl _ _) (Nat.le_refl _) (by simp) ?_; (case hd => rfl); (case hg => rfl); (case hr => first | (go_simp; done) | (go_simp; rfl)); (case hp => exact (Reps.c2 (show Kd.M k59 _ _ _ (⟨1, 0⟩ : S59) [.int .i64 1, .int .i64 0] from (k59_mkM _ _ _ (⟨1, 0⟩ : S59) )) (Reps.c2 (show Kd.M k59 _ _ _ (⟨0, 1⟩ : S59) [.int .i64 0, .int .i64 1] from (k59_mkM _ _ _ (⟨0, 1⟩ : S59) )) (Reps.none _ _)))); intro v532 w6 ho7 hb hg_ hnew_; clear hg_ hnew_; (first | rw [← Ny531.out] at ho7 | (simp only [Int.reduceToNat] at ho7; rw [← Ny531.out] at ho7)); have n0_ := aM (Kd.R_lower ho7 (below_size zb)); have n1_ := aM (below_step zb hb); clear HB; have HO533 := n0_; have HB := n1_; clear n0_ n1_; clear hb ho7))
   go_loopg [4, 7] k1 (fun kq v4 v7 w' => ∃ (x4_2 : Int) (x7_2 : Int), v4 = .int .i64 x4_2 ∧ v7 = .int .i64 x7_2 ∧ Aside0 (spec_LongestLine.l1 kq l0 x4_2 x5_1 y531 x7_2 = some (r1, r2)) ∧ Aside0 (kq ≤ k1) ∧ Aside0 (Kd.R k59 59 w' w.heap.size (fun _ => True) v532 y531) ∧ Aside0 (Below w.heap.size w w'))
   case atStart => exact ⟨(x4_1), (0), zr, zr, H', ⟨Nat.le_refl _⟩, ⟨mR_ HO533.out⟩, ⟨zb⟩⟩
   case round =>
    clear H'
    try clear c2
    try clear p2
    try clear c3
    try clear c5
    try clear c5b0
    try clear c6
    try clear p2
    obtain ⟨x4_2, x7_2, rfl, rfl, HA, HK2, HO_6, HB⟩ := hrel
    cases gk with
    | zero => exact absurd HA.out (by simp [spec_LongestLine.l1])
    | succ k2 =>
     have H := HA.out
     clear HA
     simp only [spec_LongestLine.l1] at H
     by_cases c8 : x7_2 < 2
     rotate_left
     ·rw [if_neg c8] at H
      have c8b0 : decide (x7_2 < 2) = false := decide_eq_false c8
      clear c8
      have H' := aM H
      clear H
      go_wp2
      go_roundg k2
      case measure => have := HK1.out; have := HK2.out; omega
      case rel => exact ⟨(x4_2), (wrap64 (x5_1 + 1)), zr, zr, H', ⟨by have := HK1.out; have := HK2.out; omega⟩, ⟨zb⟩⟩
     rw [if_pos c8] at H
     have c8b0 : decide (x7_2 < 2) = true := decide_eq_true c8
     clear c8
     by_cases c9 : 0 ≤ x5_1
     rotate_left
     ·rw [if_neg c9] at H
      exact absurd H (by simp)
     rw [if_pos c9] at H
     have c9b0 : decide (0 ≤ x5_1) = true := decide_eq_true c9
     clear c9
     by_cases c10 : x5_1 < (l0.length : Int)
     rotate_left
     ·rw [if_neg c10] at H
      exact absurd H (by simp)
     rw [if_pos c10] at H
     have c10b0 : decide (x5_1 < (l0.length : Int)) = true := decide_eq_true c10
     clear c10
     have H' := aM H
     clear H
     have p534 : 0 ≤ (x5_1 : Int) := of_decide_eq_true za
     have q534 : x5_1 < (l0.length : Int) := of_decide_eq_true za
     obtain ⟨ad534, e534, hx534_0, hx534_1⟩ := at_T59 HR0.out x5_1 p534 q534
     cases e534
     replace hx534_0 := zk HB.out hx534_0
     replace hx534_1 := zk HB.out hx534_1
     replace p534 := eq_true p534
     replace q534 := eq_true q534
     go_wp2_with (first | ((with_reducible refine gate_dst (N := 9) rfl ?_); refine zx 9 #[.int .i64 0, .int .i64 0] 59 ?_; intro gb535 hg w11 hbox hb; have n0_ := aM (Kd.R_below (Kd.R_elderB (mR_ HO_6.out) gb535 (Nat.le_of_eq hg.symm)) hb); have n1_ := aM (below_step zb hb); have n2_ := aM (hbox); have n3_ := aM ((ze : w.heap.size ≤ gb535)); have n4_ := aM ((ze : w.heap.size ≤ gb535)); clear HO_6 HB; have HO_6 := n0_; have HB := n1_; have BK535 := n2_; have GW535 := n3_; have GE535 := n4_; clear n0_ n1_ n2_ n3_ n4_ hb hbox hg; have hcz12_0 : w11.cell? ⟨gb535, 0, none⟩ = some (.int .i64 0) := (blk_cell BK535.out 0).trans rfl; have hcz12_1 : w11.cell? ⟨gb535, 1, none⟩ = some (.int .i64 0) := (blk_cell BK535.out 1).trans rfl; have hfz12_0 := blk_frozen BK535.out 0; have hfz12_1 := blk_frozen BK535.out 1))
     go_loopg [8, 9] k2 (fun kq v8 v9 w' => ∃ (x8_3 : Int) (gb535 : Nat) (xL_ yL_ : Int), v8 = .int .i64 x8_3 ∧ v9 = .pointer (some ⟨gb535, 0, none⟩) ∧ Aside0 (w.heap.size ≤ gb535) ∧ Aside0 (spec_LongestLine.l2 kq l0 x4_2 x5_1 y531 x7_2 x8_3 xL_ yL_ = some (r1, r2)) ∧ Aside0 (kq ≤ k2) ∧ Aside0 (Kd.R k59 59 w' w.heap.size (fun k_ => k_ ≠ gb535) v532 y531) ∧ Aside0 (w'.heap[gb535]? = some (.cells #[.int .i64 xL_, .int .i64 yL_] 59 (0, 0))) ∧ Aside0 (Below w.heap.size w w'))
     case atStart => exact ⟨(0), gb535, ((rd_T59 l0 x5_1).f0), ((rd_T59 l0 x5_1).f1), zr, rfl, GE535, H', ⟨Nat.le_refl _⟩, ⟨by (with_reducible repeat (first | apply Kd.R_alloc | apply Kd.R_drewN | apply Kd.R_drew)); exact Kd.R_mono (Kd.R_far (p := ⟨gb535, 1, none⟩) (Kd.R_far (p := ⟨gb535, 0, none⟩) (Kd.R_mono HO_6.out (fun k_ hk => (⟨hk, hk.2⟩ : _ ∧ k_ ≠ gb535))) (fun _ hk => hk.2) (.int .i64 ((rd_T59 l0 x5_1).f0))) (fun _ hk => hk.2) (.int .i64 ((rd_T59 l0 x5_1).f1))) (fun _ hk => hk.1.2)⟩, ⟨by (with_reducible repeat (first | refine blk_drewN ?_ _ | refine blk_drew ?_ | refine blk_alloc ?_ _)); refine blk_put (cs := #[.int .i64 ((rd_T59 l0 x5_1).f0), .int .i64 0]) ?_ 1 _ rfl; (with_reducible repeat (first | refine blk_drewN ?_ _ | refine blk_drew ?_ | refine blk_alloc ?_ _)); refine blk_put (cs := #[.int .i64 0, .int .i64 0]) ?_ 0 _ rfl; (with_reducible repeat (first | refine blk_drewN ?_ _ | refine blk_drew ?_ | refine blk_alloc ?_ _)); exact BK535.out⟩, ⟨zs GE535.out⟩⟩
     case round =>
      clear H'
      try clear c1
      try clear c2
      try clear p2
      try clear c3
      try clear c5
      try clear c5b0
      try clear p5
      try clear q5
      try clear hx5
      try clear c6
      try clear c8
      try clear c8b0
      try clear c9
      try clear c9b0
      try clear c10
      try clear c10b0
      try clear hcz12_0
      try clear hcz12_1
      try clear hfz12_0
      try clear hfz12_1
      try clear hx534_0
      try clear hx534_1
      try clear p2
      try clear p534
      try clear q534
      obtain ⟨x8_3, gb535, xL_, yL_, rfl, rfl, GE535, HA, HK3, HO_6, BK535, HB⟩ := hrel
      have GW535 := GE535
      cases gk with
      | zero => exact absurd HA.out (by simp [spec_LongestLine.l2])
      | succ k3 =>
       have H := HA.out
       clear HA
       simp only [spec_LongestLine.l2] at H
       replace H := Option.bind_eq_some_iff.mp H
       obtain ⟨t536, A130, H⟩ := H
       replace H : (if t536 ≥ 0 then (if 0 ≤ x7_2 then (if x7_2 < (y531.length : Int) then (spec_LongestLine.l2 k3 l0 x4_2 x5_1 y531 x7_2 (wrap64 (x8_3 + 1)) (wrap64 (xL_ + ((rd_T59 y531 x7_2).f0))) (wrap64 (yL_ + ((rd_T59 y531 x7_2).f1)))) else (none)) else (none)) else (spec_LongestLine.l1 k3 l0 (mx x4_2 x8_3) x5_1 y531 (wrap64 (x7_2 + 1)))) = some (r1, r2) := H
       have A13 := aM A130
       clear A130
       by_cases c14 : t536 ≥ 0
       rotate_left
       ·rw [if_neg c14] at H
        have c14b0 : decide (0 ≤ t536) = false := decide_eq_false c14
        clear c14
        obtain ⟨ji28, hji28⟩ : ∃ j_ : Int, (mx x4_2 x8_3) = j_ := ⟨_, rfl⟩
        replace H : (spec_LongestLine.l1 k3 l0 ji28 x5_1 y531 (wrap64 (x7_2 + 1))) = some (r1, r2) := by first | (rw [hji28] at H; exact H) | (simp only [hji28] at H ⊢; exact H)
        (try rw [hji28] at A13)
        have hji28_ : (if x4_2 < x8_3 then x8_3 else x4_2) = ji28 := hji28
        have H' := aM H
        clear H
        have hcz29_0 : wr.cell? ⟨gb535, 0, none⟩ = some (.int .i64 xL_) := (blk_cell BK535.out 0).trans rfl
        have hcz29_1 : wr.cell? ⟨gb535, 1, none⟩ = some (.int .i64 yL_) := (blk_cell BK535.out 1).trans rfl
        have hfz29_0 := blk_frozen BK535.out 0
        have hfz29_1 := blk_frozen BK535.out 1
        go_wp2_with (first | ((with_reducible refine gate_callee (f := 67) rfl ?_); refine goesL_ (some 32) rfl rfl Try.func67 (by kernel_rfl) rfl #[.slice (some ad534) l0.length c0, .agg #[.int .i64 xL_, .int .i64 yL_]] rfl zm ?_; (with_reducible refine (spec_l02Index.calls k3 _ _ l0 xL_ yL_ t536 _ ?side1 ?side2 A13.out).mono ?_); (case side1 => repeat (first | exact (Kd.C_below HR0.out HB.out) | (with_reducible refine Kd.C_alloc ?_ _) | (with_reducible refine Kd.C_drewN ?_ _) | (with_reducible refine Kd.C_drew ?_))); (case side2 => exact HC0.out); rintro e w30 ⟨rfl, hb⟩; refine ⟨_, rfl, ?_⟩; have n0_ := aM (Kd.R_below (mR_ HO_6.out) hb); have n1_ := aM (blk_below (g := gb535) (o := .cells #[.int .i64 xL_, .int .i64 yL_] 59 (0, 0)) (mB_ BK535.out) hb); have n2_ := aM (below_step (zs GE535.out) hb); clear HO_6 BK535 HB; have HO_6 := n0_; have BK535 := n1_; have HB := n2_; clear n0_ n1_ n2_; (try clear hb); (try clear hb2); (try clear hk); (try clear hi)))
        go_roundg k3
        case measure => have := HK1.out; have := HK2.out; have := HK3.out; omega
        case rel => exact ⟨(ji28), (wrap64 (x7_2 + 1)), (by first | rfl | (simp; done) | (simp only [← hji28] <;> (first | rfl | simp)) | (simp [*]; done)), zr, H', ⟨by have := HK1.out; have := HK2.out; have := HK3.out; omega⟩, ⟨zd0 HO_6.out⟩, ⟨zs GE535.out⟩⟩
       rw [if_pos c14] at H
       have c14b0 : decide (0 ≤ t536) = true := decide_eq_true c14
       clear c14
       by_cases c15 : 0 ≤ x7_2
       rotate_left
       ·rw [if_neg c15] at H
        exact absurd H (by simp)
       rw [if_pos c15] at H
       have c15b0 : decide (0 ≤ x7_2) = true := decide_eq_true c15
       clear c15
       by_cases c16 : x7_2 < (y531.length : Int)
       rotate_left
       ·rw [if_neg c16] at H
        exact absurd H (by simp)
       rw [if_pos c16] at H
       have c16b0 : decide (x7_2 < (y531.length : Int)) = true := decide_eq_true c16
       clear c16
       have H' := aM H
       clear H
       have hcz17_0 : wr.cell? ⟨gb535, 0, none⟩ = some (.int .i64 xL_) := (blk_cell BK535.out 0).trans rfl
       have hcz17_1 : wr.cell? ⟨gb535, 1, none⟩ = some (.int .i64 yL_) := (blk_cell BK535.out 1).trans rfl
       have hfz17_0 := blk_frozen BK535.out 0
       have hfz17_1 := blk_frozen BK535.out 1
       try go_wp2_with (first | ((with_reducible refine gate_callee (f := 67) rfl ?_); refine goesL_ (some 32) rfl rfl Try.func67 (by kernel_rfl) rfl #[.slice (some ad534) l0.length c0, .agg #[.int .i64 xL_, .int .i64 yL_]] rfl zm ?_; (with_reducible refine (spec_l02Index.calls k3 _ _ l0 xL_ yL_ t536 _ ?side1 ?side2 A13.out).mono ?_); (case side1 => repeat (first | exact (Kd.C_below HR0.out HB.out) | (with_reducible refine Kd.C_alloc ?_ _) | (with_reducible refine Kd.C_drewN ?_ _) | (with_reducible refine Kd.C_drew ?_))); (case side2 => exact HC0.out); rintro e w18 ⟨rfl, hb⟩; refine ⟨_, rfl, ?_⟩; have n0_ := aM (Kd.R_below (mR_ HO_6.out) hb); have n1_ := aM (blk_below (g := gb535) (o := .cells #[.int .i64 xL_, .int .i64 yL_] 59 (0, 0)) (mB_ BK535.out) hb); have n2_ := aM (below_step (zs GE535.out) hb); clear HO_6 BK535 HB; have HO_6 := n0_; have BK535 := n1_; have HB := n2_; clear n0_ n1_ n2_; (try clear hb); (try clear hb2); (try clear hk); (try clear hi); have hcz19_0 : w18.cell? ⟨gb535, 0, none⟩ = some (.int .i64 xL_) := (blk_cell BK535.out 0).trans rfl; have hcz19_1 : w18.cell? ⟨gb535, 1, none⟩ = some (.int .i64 yL_) := (blk_cell BK535.out 1).trans rfl; have hfz19_0 := blk_frozen BK535.out 0; have hfz19_1 := blk_frozen BK535.out 1) | ((with_reducible refine gate_dst (N := 9) rfl ?_); refine zx 9 #[.int .i64 0, .int .i64 0] 59 ?_; intro gb537 hg w20 hbox hb; have n0_ := aM (Kd.R_below (Kd.R_elderB (mR_ HO_6.out) gb537 (Nat.le_of_eq hg.symm)) hb); have n1_ := aM (blk_below (g := gb535) (o := .cells #[.int .i64 xL_, .int .i64 yL_] 59 (0, 0)) (mB_ BK535.out) hb); have n2_ := aM (below_step (zs GE535.out) hb); have n3_ := aM (hbox); have n4_ := aM ((zf GE535.out : w.heap.size ≤ gb537)); have n5_ := aM ((zf GE535.out : w.heap.size ≤ gb537)); have n6_ := aM ((zl BK535.out : gb535 ≠ gb537)); have n7_ := aM ((zn BK535.out : gb537 ≠ gb535)); clear HO_6 BK535 HB; have HO_6 := n0_; have BK535 := n1_; have HB := n2_; have BK537 := n3_; have GW537 := n4_; have GE537 := n5_; have NB535_537 := n6_; have NB537_535 := n7_; clear n0_ n1_ n2_ n3_ n4_ n5_ n6_ n7_ hb hbox hg; have hnb21 := NB537_535.out; have hnc21 := NB535_537.out; have hcz22_0 : w20.cell? ⟨gb537, 0, none⟩ = some (.int .i64 0) := (blk_cell BK537.out 0).trans rfl; have hcz22_1 : w20.cell? ⟨gb537, 1, none⟩ = some (.int .i64 0) := (blk_cell BK537.out 1).trans rfl; have hfz22_0 := blk_frozen BK537.out 0; have hfz22_1 := blk_frozen BK537.out 1))
       have n0_ : Aside0 (Kd.R k59 59 ((w20.setCell ⟨gb537, 0, none⟩ (.int .i64 xL_)).setCell ⟨gb537, 1, none⟩ (.int .i64 yL_)) w.heap.size (fun k_ => k_ ≠ gb535 ∧ k_ ≠ gb537) v532 y531) := ⟨by (with_reducible repeat (first | apply Kd.R_alloc | apply Kd.R_drewN | apply Kd.R_drew)); exact Kd.R_mono (Kd.R_far (p := ⟨gb537, 1, none⟩) (Kd.R_far (p := ⟨gb537, 0, none⟩) (Kd.R_mono HO_6.out (fun k_ hk => (⟨hk, hk.2⟩ : _ ∧ k_ ≠ gb537))) (fun _ hk => hk.2) (.int .i64 xL_)) (fun _ hk => hk.2) (.int .i64 yL_)) (fun _ hk => ⟨hk.1.1, hk.1.2⟩)⟩
       have n1_ : Aside0 (((w20.setCell ⟨gb537, 0, none⟩ (.int .i64 xL_)).setCell ⟨gb537, 1, none⟩ (.int .i64 yL_)).heap[gb535]? = some (.cells #[.int .i64 xL_, .int .i64 yL_] 59 (0, 0))) := ⟨by (with_reducible repeat (first | refine blk_drewN ?_ _ | refine blk_drew ?_ | refine blk_alloc ?_ _)); refine blk_far ?_ NB535_537.out _; (with_reducible repeat (first | refine blk_drewN ?_ _ | refine blk_drew ?_ | refine blk_alloc ?_ _)); refine blk_far ?_ NB535_537.out _; (with_reducible repeat (first | refine blk_drewN ?_ _ | refine blk_drew ?_ | refine blk_alloc ?_ _)); exact BK535.out⟩
       have n2_ : Aside0 (((w20.setCell ⟨gb537, 0, none⟩ (.int .i64 xL_)).setCell ⟨gb537, 1, none⟩ (.int .i64 yL_)).heap[gb537]? = some (.cells #[.int .i64 xL_, .int .i64 yL_] 59 (0, 0))) := ⟨by (with_reducible repeat (first | refine blk_drewN ?_ _ | refine blk_drew ?_ | refine blk_alloc ?_ _)); refine blk_put (cs := #[.int .i64 xL_, .int .i64 0]) ?_ 1 _ rfl; (with_reducible repeat (first | refine blk_drewN ?_ _ | refine blk_drew ?_ | refine blk_alloc ?_ _)); refine blk_put (cs := #[.int .i64 0, .int .i64 0]) ?_ 0 _ rfl; (with_reducible repeat (first | refine blk_drewN ?_ _ | refine blk_drew ?_ | refine blk_alloc ?_ _)); exact BK537.out⟩
       have n3_ : Aside0 (Below w.heap.size w ((w20.setCell ⟨gb537, 0, none⟩ (.int .i64 xL_)).setCell ⟨gb537, 1, none⟩ (.int .i64 yL_))) := ⟨zt GE535.out GE537.out⟩
       (try clear HO_6)
       (try clear BK535)
       (try clear BK537)
       (try clear HB)
       generalize ((w20.setCell ⟨gb537, 0, none⟩ (.int .i64 xL_)).setCell ⟨gb537, 1, none⟩ (.int .i64 yL_)) = w23 at n0_ n1_ n2_ n3_ ⊢
       have HO_6 := n0_
       have BK535 := n1_
       have BK537 := n2_
       have HB := n3_
       clear n0_ n1_ n2_ n3_
       have n0_ := aM (Kd.R_drew HO_6.out)
       have n1_ := aM (blk_drew BK535.out)
       have n2_ := aM (blk_drew BK537.out)
       have n3_ := aM (below_drew1 HB.out)
       clear HO_6
       clear BK535
       clear BK537
       clear HB
       have HO_6 := n0_
       have BK535 := n1_
       have BK537 := n2_
       have HB := n3_
       clear n0_ n1_ n2_ n3_
       obtain ⟨Ao25, co25, eo25⟩ := Kd.R_slice HO_6.out
       (first | subst eo25 | (injection eo25 with f1_ f2_ f3_; have f4_ := f1_.symm; have f5_ := f3_.symm; clear f1_ f2_ f3_; subst f4_; subst f5_))
       have p538 : 0 ≤ (x7_2 : Int) := of_decide_eq_true za
       have q538 : x7_2 < (y531.length : Int) := of_decide_eq_true za
       obtain ⟨ad538, e538, hx538_0, hx538_1⟩ := at_T59 (Kd.R_reads' HO_6.out).2.2 x7_2 p538 q538
       cases e538
       replace p538 := eq_true p538
       replace q538 := eq_true q538
       have p539 : 0 ≤ (x7_2 : Int) := of_decide_eq_true za
       have q539 : x7_2 < (y531.length : Int) := of_decide_eq_true za
       obtain ⟨ad539, e539, hx539_0, hx539_1⟩ := at_T59 (Kd.R_reads' HO_6.out).2.2 x7_2 p539 q539
       obtain rfl : ad538 = ad539 := (by injection e539)
       replace p539 := eq_true p539
       replace q539 := eq_true q539
       refine start_ (n := 18) (S := fun w' => w'.cell? ⟨gb537, 0, none⟩ = some (.int .i64 xL_) ∧ w'.cell? ⟨gb537, 1, none⟩ = some (.int .i64 yL_) ∧ w'.cell? (ad538.add ((x7_2).toNat * 2)) = some (.int .i64 ((rd_T59 y531 x7_2).f0)) ∧ w'.cell? ⟨(ad538.add ((x7_2).toNat * 2)).block, (ad538.add ((x7_2).toNat * 2)).off + 1, none⟩ = some (.int .i64 ((rd_T59 y531 x7_2).f1)) ∧ w'.cell? (ad538.add ((x7_2).toNat * 2)) = some (.int .i64 ((rd_T59 y531 x7_2).f0)) ∧ w'.cell? ⟨(ad538.add ((x7_2).toNat * 2)).block, (ad538.add ((x7_2).toNat * 2)).off + 1, none⟩ = some (.int .i64 ((rd_T59 y531 x7_2).f1))) (ds := [17]) zA76 (by kernel_rfl) rfl rfl ⟨(blk_cell BK537.out 0).trans rfl, (blk_cell BK537.out 1).trans rfl, hx538_0, hx538_1, hx539_0, hx539_1⟩ (fun hHeld => ?_); refine with_tabW spec_LongestLine.tab14 spec_LongestLine.bits14 (fun HT_ HW_ => ?_)
       generalize w23.drew = w24 at HO_6 BK535 BK537 HB hx538_0 hx538_1 hx539_0 hx539_1 hHeld ⊢
       refine zp 0 (some 34) ?_ zA77 rfl rfl (Or.inl ⟨by rfl, ?_⟩) ?_ ?_ ?_
       rotate_left
       ·intro w'
        go_simp
        with_reducible rfl
       rotate_left
       ·simp only [Act.put, xA, xB, xC, i64_w, i32_w]
        rfl
       refine zp 2 (some 36) ?_ zA136 rfl rfl (Or.inl ⟨by rfl, ?_⟩) ?_ ?_ ?_
       rotate_left
       ·intro w'
        go_simp
        with_reducible rfl
       rotate_left
       ·simp only [Act.put, xA, xB, xC, i64_w, i32_w]
        rfl
       refine zp 3 (some 37) ?_ zA137 rfl rfl (Or.inl ⟨by rfl, ?_⟩) ?_ ?_ ?_
       rotate_left
       ·intro w'
        go_simp
        with_reducible rfl
       rotate_left
       ·simp only [Act.put, xA, xB, xC, i64_w, i32_w]
        rfl
       refine zp 4 (some 38) ?_ zA138 rfl rfl (Or.inl ⟨by rfl, ?_⟩) ?_ ?_ ?_
       rotate_left
       ·intro w'
        go_simp
        with_reducible rfl
       rotate_left
       ·simp only [Act.put, xA, xB, xC, i64_w, i32_w]
        rfl
       refine zp 5 (some 39) ?_ zA139 rfl rfl (Or.inl ⟨by rfl, ?_⟩) ?_ ?_ ?_
       rotate_left
       ·intro w'
        go_simp
        with_reducible rfl
       rotate_left
       ·simp only [Act.put, xA, xB, xC, i64_w, i32_w]
        rfl
       refine zp 8 (some 42) ?_ zA140 rfl rfl (Or.inl ⟨by rfl, ?_⟩) ?_ ?_ ?_
       rotate_left
       ·intro w'
        go_simp
        with_reducible rfl
       rotate_left
       ·simp only [Act.put, xA, xB, xC, i64_w, i32_w]
        rfl
       refine zp 10 (some 44) ?_ zA141 rfl rfl (Or.inl ⟨by rfl, ?_⟩) ?_ ?_ ?_
       rotate_left
       ·intro w'
        go_simp
        with_reducible rfl
       rotate_left
       ·simp only [Act.put, xA, xB, xC, i64_w, i32_w]
        rfl
       refine zp 11 (some 45) ?_ zA142 rfl rfl (Or.inl ⟨by rfl, ?_⟩) ?_ ?_ ?_
       rotate_left
       ·intro w'
        go_simp
        with_reducible rfl
       rotate_left
       ·simp only [Act.put, xA, xB, xC, i64_w, i32_w]
        rfl
       refine zp 12 (some 46) ?_ zA143 rfl rfl (Or.inl ⟨by rfl, ?_⟩) ?_ ?_ ?_
       rotate_left
       ·intro w'
        go_simp
        with_reducible rfl
       rotate_left
       ·simp only [Act.put, xA, xB, xC, i64_w, i32_w]
        rfl
       refine zp 13 (some 47) ?_ zA144 rfl rfl (Or.inl ⟨by rfl, ?_⟩) ?_ ?_ ?_
       rotate_left
       ·intro w'
        go_simp
        with_reducible rfl
       rotate_left
       ·simp only [Act.put, xA, xB, xC, i64_w, i32_w]
        rfl
       refine zu 1 (some 35) ?_ zA145 rfl rfl (Or.inl ⟨by rfl, ?_⟩) hHeld ?_ ?_ ?_
       rotate_left
       ·rintro w' ⟨s0, s1, s2, s3, s4, s5⟩
        go_simp
        with_reducible rfl
       rotate_left
       ·simp only [Act.put, xA, xB, xC, i64_w, i32_w]
        rfl
       refine zu 6 (some 40) ?_ zA146 rfl rfl (Or.inl ⟨by rfl, ?_⟩) hHeld ?_ ?_ ?_
       rotate_left
       ·rintro w' ⟨s0, s1, s2, s3, s4, s5⟩
        go_simp
        with_reducible rfl
       rotate_left
       ·simp only [Act.put, xA, xB, xC, i64_w, i32_w]
        rfl
       refine zp 7 (some 41) ?_ zA147 rfl rfl (Or.inl ⟨by rfl, ?_⟩) ?_ ?_ ?_
       rotate_left
       ·intro w'
        go_simp
        with_reducible rfl
       rotate_left
       ·simp only [Act.put, xA, xB, xC, i64_w, i32_w]
        rfl
       refine zu 9 (some 43) ?_ zA90 rfl rfl (Or.inl ⟨by rfl, ?_⟩) hHeld ?_ ?_ ?_
       rotate_left
       ·rintro w' ⟨s0, s1, s2, s3, s4, s5⟩
        go_simp
        with_reducible rfl
       rotate_left
       ·simp only [Act.put, xA, xB, xC, i64_w, i32_w]
        rfl
       refine zu 14 (some 48) ?_ zA91 rfl rfl (Or.inl ⟨by rfl, ?_⟩) hHeld ?_ ?_ ?_
       rotate_left
       ·rintro w' ⟨s0, s1, s2, s3, s4, s5⟩
        go_simp
        with_reducible rfl
       rotate_left
       ·simp only [Act.put, xA, xB, xC, i64_w, i32_w]
        rfl
       refine zp 15 (some 49) ?_ zA92 rfl rfl (Or.inl ⟨by rfl, ?_⟩) ?_ ?_ ?_
       rotate_left
       ·intro w'
        go_simp
        with_reducible rfl
       rotate_left
       ·simp only [Act.put, xA, xB, xC, i64_w, i32_w]
        rfl
       refine zp 16 (some 50) ?_ zA93 rfl rfl (Or.inl ⟨by rfl, ?_⟩) ?_ ?_ ?_
       rotate_left
       ·intro w'
        go_simp
        with_reducible rfl
       rotate_left
       ·simp only [Act.put, xA, xB, xC, i64_w, i32_w]
        rfl
       refine last_ (i := 17) (N := none) zA94 rfl rfl (one_of HT_.out (by kernel_rfl)) (by decide) (fun K hK => ?_)
       have hs26 : w24.cell? ⟨gb537, 0, none⟩ = some (.int .i64 xL_) := (blk_cell BK537.out 0).trans rfl
       have hfs26 := blk_frozen BK537.out 0
       have hns26_0 := NB535_537.out
       have hms26_0 := NB537_535.out
       have hs27 : w24.cell? ⟨gb537, 1, none⟩ = some (.int .i64 yL_) := (blk_cell BK537.out 1).trans rfl
       have hfs27 := blk_frozen BK537.out 1
       have hns27_0 := NB535_537.out
       have hms27_0 := NB537_535.out
       refine skip_ (w1 := ?_) (by rfl) rfl ?_ ?_
       rotate_left
       ·go_simp
        rfl
       refine hK.out _ _ ?_
       clear hK K
       refine done_ (done_of HT_.out (by kernel_rfl)) ?_
       try go_wp2
       go_roundg k3
       case measure => have := HK1.out; have := HK2.out; have := HK3.out; omega
       case rel => exact ⟨(wrap64 (x8_3 + 1)), gb537, _, _, zr, rfl, GE537, H', ⟨by have := HK1.out; have := HK2.out; have := HK3.out; omega⟩, ⟨by (with_reducible repeat (first | apply Kd.R_alloc | apply Kd.R_drewN | apply Kd.R_drew)); exact Kd.R_mono (Kd.R_far (p := ⟨gb537, 1, none⟩) (Kd.R_far (p := ⟨gb537, 0, none⟩) (Kd.R_mono HO_6.out (fun k_ hk => (⟨hk, hk.2⟩ : _ ∧ k_ ≠ gb537))) (fun _ hk => hk.2) (.int .i64 (wrap64 (xL_ + ((rd_T59 y531 x7_2).f0))))) (fun _ hk => hk.2) (.int .i64 (wrap64 (yL_ + ((rd_T59 y531 x7_2).f1))))) (fun _ hk => hk.2)⟩, ⟨by (with_reducible repeat (first | refine blk_drewN ?_ _ | refine blk_drew ?_ | refine blk_alloc ?_ _)); refine blk_put (cs := #[.int .i64 (wrap64 (xL_ + ((rd_T59 y531 x7_2).f0))), .int .i64 yL_]) ?_ 1 _ rfl; (with_reducible repeat (first | refine blk_drewN ?_ _ | refine blk_drew ?_ | refine blk_alloc ?_ _)); refine blk_put (cs := #[.int .i64 xL_, .int .i64 yL_]) ?_ 0 _ rfl; (with_reducible repeat (first | refine blk_drewN ?_ _ | refine blk_drew ?_ | refine blk_alloc ?_ _)); exact BK537.out⟩, ⟨zt GE535.out GE537.out⟩⟩
def impl_WeightOf.l0 : Nat → Int → Int → List (S59) → Int → Int → Option (Int × Int × Int)
 | 0, _, _, _, _, _ => none
 | k + 1, x5, x6, x12, x13, x14 => if x14 < x13 then (if 0 ≤ x14 then (if x14 < (x12.length : Int) then (impl_WeightOf.l0 k (wrap64 (x5 + ((rd_T59 x12 x14).f0))) (wrap64 (x6 + ((rd_T59 x12 x14).f1))) x12 x13 (wrap64 (x14 + 1))) else (none)) else (none)) else (some (x5, x6, 0))
def impl_WeightOf.f (k : Nat) (l0 : List (S59)) : Option (Int × Int × Int) := (impl_IsShape.f k l0).bind fun t540 => (if t540 = true then (impl_WeightOf.l0 k 0 0 l0 (l0.length : Int) 0) else (some (0, 0, 1)))
theorem impl_WeightOf.calls (k : Nat) (A0 : Option Addr) (c0 : Nat) (l0 : List (S59)) (r1 : Int) (r2 : Int) (r3 : Int) (w : World) (hr0 : Kd.C k59 w A0 l0.length l0) (hc0 : l0.length ≤ c0) (h : impl_WeightOf.f k l0 = some (r1, r2, r3)) :
  Calls Try.prog 22 #[.slice A0 l0.length c0] w fun e w' => e = .returned (.tuple #[.int .i64 r1, .int .i64 r2, .int .i64 r3]) ∧ Below w.heap.size w w' := by
 have hu59 := Try.underlying59
 have HR0 := aM hr0
 have HC0 := aM hc0
 clear hr0 hc0
 have HB := aM (Below.refl w.heap.size w)
 have H : ((impl_IsShape.f k l0).bind fun t540 => (if t540 = true then (impl_WeightOf.l0 k 0 0 l0 (l0.length : Int) 0) else (some (0, 0, 1)))) = some (r1, r2, r3) := h
 clear h
 replace H := Option.bind_eq_some_iff.mp H
 obtain ⟨t540, A20, H⟩ := H
 replace H : (if t540 = true then (impl_WeightOf.l0 k 0 0 l0 (l0.length : Int) 0) else (some (0, 0, 1))) = some (r1, r2, r3) := H
 have A2 := aM A20
 clear A20
 by_cases c3 : t540 = true
 rotate_left
 ·replace c3 := Bool.eq_false_iff.mpr c3
  subst c3
  have H1 : (some (0, 0, 1)) = some (r1, r2, r3) := by rw [if_neg (show ¬ (false = true) by decide)] at H; exact H
  clear H
  have H := H1
  clear H1
  simp only [Option.some.injEq, Prod.mk.injEq] at H
  obtain ⟨rfl, rfl, rfl⟩ := H
  go_enter Try.func22, Try.ntmps22
  go_wp2_with (first | ((with_reducible refine gate_callee (f := 61) rfl ?_); refine goesL_ (some 10) rfl rfl Try.func61 (by kernel_rfl) rfl #[.slice A0 l0.length c0] rfl zm ?_; (with_reducible refine (impl_IsShape.calls k _ _ l0 false _ ?side1 ?side2 A2.out).mono ?_); (case side1 => repeat (first | exact HR0.out | (with_reducible refine Kd.C_alloc ?_ _) | (with_reducible refine Kd.C_drewN ?_ _) | (with_reducible refine Kd.C_drew ?_))); (case side2 => exact HC0.out); rintro e w10 ⟨rfl, hb⟩; refine ⟨_, rfl, ?_⟩; have n0_ := aM (below_step zb hb); clear HB; have HB := n0_; clear n0_; (try clear hb); (try clear hb2); (try clear hk); (try clear hi)))
  go_ret3
  exact ⟨zw, zb⟩
 subst c3
 have H1 : (impl_WeightOf.l0 k 0 0 l0 (l0.length : Int) 0) = some (r1, r2, r3) := by rw [if_pos rfl] at H; exact H
 clear H
 have H := H1
 clear H1
 have H' := aM H
 clear H
 go_enter Try.func22, Try.ntmps22
 go_wp2_with (first | ((with_reducible refine gate_callee (f := 61) rfl ?_); refine goesL_ (some 10) rfl rfl Try.func61 (by kernel_rfl) rfl #[.slice A0 l0.length c0] rfl zm ?_; (with_reducible refine (impl_IsShape.calls k _ _ l0 true _ ?side1 ?side2 A2.out).mono ?_); (case side1 => repeat (first | exact HR0.out | (with_reducible refine Kd.C_alloc ?_ _) | (with_reducible refine Kd.C_drewN ?_ _) | (with_reducible refine Kd.C_drew ?_))); (case side2 => exact HC0.out); rintro e w4 ⟨rfl, hb⟩; refine ⟨_, rfl, ?_⟩; have n0_ := aM (below_step zb hb); clear HB; have HB := n0_; clear n0_; (try clear hb); (try clear hb2); (try clear hk); (try clear hi)))
 go_loopg [5, 6, 14] k (fun kq v5 v6 v14 w' => ∃ (x5_1 : Int) (x6_1 : Int) (x14_1 : Int), v5 = .int .i64 x5_1 ∧ v6 = .int .i64 x6_1 ∧ v14 = .int .i64 x14_1 ∧ Aside0 (impl_WeightOf.l0 kq x5_1 x6_1 l0 (l0.length : Int) x14_1 = some (r1, r2, r3)) ∧ Aside0 (kq ≤ k) ∧ Aside0 (Below w.heap.size w w'))
 case atStart => exact ⟨(0), (0), (0), zr, zr, zr, H', ⟨Nat.le_refl _⟩, ⟨zb⟩⟩
 case round =>
  clear H'
  try clear c2
  try clear p2
  try clear c3
  obtain ⟨x5_1, x6_1, x14_1, rfl, rfl, rfl, HA, HK1, HB⟩ := hrel
  cases gk with
  | zero => exact absurd HA.out (by simp [impl_WeightOf.l0])
  | succ k1 =>
   have H := HA.out
   clear HA
   simp only [impl_WeightOf.l0] at H
   by_cases c5 : x14_1 < (l0.length : Int)
   rotate_left
   ·rw [if_neg c5] at H
    have c5b0 : decide (x14_1 < (l0.length : Int)) = false := decide_eq_false c5
    clear c5
    simp only [Option.some.injEq, Prod.mk.injEq] at H
    obtain ⟨rfl, rfl, rfl⟩ := H
    go_wp2
    go_ret3
    exact ⟨zw, zb⟩
   rw [if_pos c5] at H
   have c5b0 : decide (x14_1 < (l0.length : Int)) = true := decide_eq_true c5
   clear c5
   by_cases c6 : 0 ≤ x14_1
   rotate_left
   ·rw [if_neg c6] at H
    exact absurd H (by simp)
   rw [if_pos c6] at H
   have c6b0 : decide (0 ≤ x14_1) = true := decide_eq_true c6
   clear c6
   by_cases c7 : x14_1 < (l0.length : Int)
   rotate_left
   ·rw [if_neg c7] at H
    exact absurd H (by simp)
   rw [if_pos c7] at H
   have c7b0 : decide (x14_1 < (l0.length : Int)) = true := decide_eq_true c7
   clear c7
   have H' := aM H
   clear H
   have p541 : 0 ≤ (x14_1 : Int) := of_decide_eq_true za
   have q541 : x14_1 < (l0.length : Int) := of_decide_eq_true za
   obtain ⟨ad541, e541, hx541_0, hx541_1⟩ := at_T59 HR0.out x14_1 p541 q541
   cases e541
   replace hx541_0 := zk HB.out hx541_0
   replace hx541_1 := zk HB.out hx541_1
   replace p541 := eq_true p541
   replace q541 := eq_true q541
   go_wp2_with (first | ((with_reducible refine gate_dst (N := 8) rfl ?_); refine zx 8 #[.int .i64 0, .int .i64 0] 59 ?_; intro gb542 hg w8 hbox hb; have n0_ := aM (below_step zb hb); have n1_ := aM (hbox); have n2_ := aM ((ze : w.heap.size ≤ gb542)); have n3_ := aM ((ze : w.heap.size ≤ gb542)); clear HB; have HB := n0_; have BK542 := n1_; have GW542 := n2_; have GE542 := n3_; clear n0_ n1_ n2_ n3_ hb hbox hg; have hcz9_0 : w8.cell? ⟨gb542, 0, none⟩ = some (.int .i64 0) := (blk_cell BK542.out 0).trans rfl; have hcz9_1 : w8.cell? ⟨gb542, 1, none⟩ = some (.int .i64 0) := (blk_cell BK542.out 1).trans rfl; have hfz9_0 := blk_frozen BK542.out 0; have hfz9_1 := blk_frozen BK542.out 1))
   go_roundg k1
   case measure => have := HK1.out; omega
   case rel => exact ⟨(wrap64 (x5_1 + ((rd_T59 l0 x14_1).f0))), (wrap64 (x6_1 + ((rd_T59 l0 x14_1).f1))), (wrap64 (x14_1 + 1)), zr, zr, zr, H', ⟨by have := HK1.out; omega⟩, ⟨zs GE542.out⟩⟩
def spec_WeightOf.l0 : Nat → List (S59) → Int → Int → Int → Option (Int × Int × Int)
 | 0, _, _, _, _ => none
 | k + 1, x0, x5, x6, x7 => if x7 < (x0.length : Int) then (if 0 ≤ x7 then (spec_WeightOf.l0 k x0 (wrap64 (x5 + ((rd_T59 x0 x7).f0))) (wrap64 (x6 + ((rd_T59 x0 x7).f1))) (wrap64 (x7 + 1))) else (none)) else (some (x5, x6, 0))
def spec_WeightOf.f (k : Nat) (l0 : List (S59)) : Option (Int × Int × Int) := (spec_IsShape.f k l0).bind fun t543 => (if t543 = true then (spec_WeightOf.l0 k l0 0 0 0) else (some (0, 0, 1)))
theorem spec_WeightOf.calls (k : Nat) (A0 : Option Addr) (c0 : Nat) (l0 : List (S59)) (r1 : Int) (r2 : Int) (r3 : Int) (w : World) (hr0 : Kd.C k59 w A0 l0.length l0) (hc0 : l0.length ≤ c0) (h : spec_WeightOf.f k l0 = some (r1, r2, r3)) :
  Calls Try.prog 23 #[.slice A0 l0.length c0] w fun e w' => e = .returned (.tuple #[.int .i64 r1, .int .i64 r2, .int .i64 r3]) ∧ Below w.heap.size w w' := by
 have HR0 := aM hr0
 have HC0 := aM hc0
 clear hr0 hc0
 have HB := aM (Below.refl w.heap.size w)
 have H : ((spec_IsShape.f k l0).bind fun t543 => (if t543 = true then (spec_WeightOf.l0 k l0 0 0 0) else (some (0, 0, 1)))) = some (r1, r2, r3) := h
 clear h
 replace H := Option.bind_eq_some_iff.mp H
 obtain ⟨t543, A20, H⟩ := H
 replace H : (if t543 = true then (spec_WeightOf.l0 k l0 0 0 0) else (some (0, 0, 1))) = some (r1, r2, r3) := H
 have A2 := aM A20
 clear A20
 by_cases c3 : t543 = true
 rotate_left
 ·replace c3 := Bool.eq_false_iff.mpr c3
  subst c3
  have H1 : (some (0, 0, 1)) = some (r1, r2, r3) := by rw [if_neg (show ¬ (false = true) by decide)] at H; exact H
  clear H
  have H := H1
  clear H1
  simp only [Option.some.injEq, Prod.mk.injEq] at H
  obtain ⟨rfl, rfl, rfl⟩ := H
  go_enter Try.func23, Try.ntmps23
  go_wp2_with (first | ((with_reducible refine gate_callee (f := 66) rfl ?_); refine goesL_ (some 9) rfl rfl Try.func66 (by kernel_rfl) rfl #[.slice A0 l0.length c0] rfl zm ?_; (with_reducible refine (spec_IsShape.calls k _ _ l0 false _ ?side1 ?side2 A2.out).mono ?_); (case side1 => repeat (first | exact HR0.out | (with_reducible refine Kd.C_alloc ?_ _) | (with_reducible refine Kd.C_drewN ?_ _) | (with_reducible refine Kd.C_drew ?_))); (case side2 => exact HC0.out); rintro e w7 ⟨rfl, hb⟩; refine ⟨_, rfl, ?_⟩; have n0_ := aM (below_step zb hb); clear HB; have HB := n0_; clear n0_; (try clear hb); (try clear hb2); (try clear hk); (try clear hi)))
  go_ret3
  exact ⟨zw, zb⟩
 subst c3
 have H1 : (spec_WeightOf.l0 k l0 0 0 0) = some (r1, r2, r3) := by rw [if_pos rfl] at H; exact H
 clear H
 have H := H1
 clear H1
 have H' := aM H
 clear H
 go_enter Try.func23, Try.ntmps23
 go_wp2_with (first | ((with_reducible refine gate_callee (f := 66) rfl ?_); refine goesL_ (some 9) rfl rfl Try.func66 (by kernel_rfl) rfl #[.slice A0 l0.length c0] rfl zm ?_; (with_reducible refine (spec_IsShape.calls k _ _ l0 true _ ?side1 ?side2 A2.out).mono ?_); (case side1 => repeat (first | exact HR0.out | (with_reducible refine Kd.C_alloc ?_ _) | (with_reducible refine Kd.C_drewN ?_ _) | (with_reducible refine Kd.C_drew ?_))); (case side2 => exact HC0.out); rintro e w4 ⟨rfl, hb⟩; refine ⟨_, rfl, ?_⟩; have n0_ := aM (below_step zb hb); clear HB; have HB := n0_; clear n0_; (try clear hb); (try clear hb2); (try clear hk); (try clear hi)))
 go_loopg [5, 6, 7] k (fun kq v5 v6 v7 w' => ∃ (x5_1 : Int) (x6_1 : Int) (x7_1 : Int), v5 = .int .i64 x5_1 ∧ v6 = .int .i64 x6_1 ∧ v7 = .int .i64 x7_1 ∧ Aside0 (spec_WeightOf.l0 kq l0 x5_1 x6_1 x7_1 = some (r1, r2, r3)) ∧ Aside0 (kq ≤ k) ∧ Aside0 (Below w.heap.size w w'))
 case atStart => exact ⟨(0), (0), (0), zr, zr, zr, H', ⟨Nat.le_refl _⟩, ⟨zb⟩⟩
 case round =>
  clear H'
  try clear c2
  try clear p2
  try clear c3
  obtain ⟨x5_1, x6_1, x7_1, rfl, rfl, rfl, HA, HK1, HB⟩ := hrel
  cases gk with
  | zero => exact absurd HA.out (by simp [spec_WeightOf.l0])
  | succ k1 =>
   have H := HA.out
   clear HA
   simp only [spec_WeightOf.l0] at H
   by_cases c5 : x7_1 < (l0.length : Int)
   rotate_left
   ·rw [if_neg c5] at H
    have c5b0 : decide (x7_1 < (l0.length : Int)) = false := decide_eq_false c5
    clear c5
    simp only [Option.some.injEq, Prod.mk.injEq] at H
    obtain ⟨rfl, rfl, rfl⟩ := H
    go_wp2
    go_ret3
    exact ⟨zw, zb⟩
   rw [if_pos c5] at H
   have c5b0 : decide (x7_1 < (l0.length : Int)) = true := decide_eq_true c5
   clear c5
   by_cases c6 : 0 ≤ x7_1
   rotate_left
   ·rw [if_neg c6] at H
    exact absurd H (by simp)
   rw [if_pos c6] at H
   have c6b0 : decide (0 ≤ x7_1) = true := decide_eq_true c6
   clear c6
   have H' := aM H
   clear H
   have p544 : 0 ≤ (x7_1 : Int) := of_decide_eq_true za
   have q544 : x7_1 < (l0.length : Int) := of_decide_eq_true za
   obtain ⟨ad544, e544, hx544_0, hx544_1⟩ := at_T59 HR0.out x7_1 p544 q544
   cases e544
   replace hx544_0 := zk HB.out hx544_0
   replace hx544_1 := zk HB.out hx544_1
   replace p544 := eq_true p544
   replace q544 := eq_true q544
   have p545 : 0 ≤ (x7_1 : Int) := of_decide_eq_true za
   have q545 : x7_1 < (l0.length : Int) := of_decide_eq_true za
   obtain ⟨ad545, e545, hx545_0, hx545_1⟩ := at_T59 HR0.out x7_1 p545 q545
   obtain rfl : ad544 = ad545 := (by injection e545)
   replace hx545_0 := zk HB.out hx545_0
   replace hx545_1 := zk HB.out hx545_1
   replace p545 := eq_true p545
   replace q545 := eq_true q545
   go_wp2
   go_roundg k1
   case measure => have := HK1.out; omega
   case rel => exact ⟨(wrap64 (x5_1 + ((rd_T59 l0 x7_1).f0))), (wrap64 (x6_1 + ((rd_T59 l0 x7_1).f1))), (wrap64 (x7_1 + 1)), zr, zr, zr, H', ⟨by have := HK1.out; omega⟩, ⟨zb⟩⟩
end Go.Proofs.Ytfdfdifjkaaeoaa.F
end
section
namespace Go.Proofs.Ytfdfdifjkaaeoaa.F
open Go.RowKit Go.Proofs.YtfdfdifjkaaeoaaW.PrintWords Go.Proofs.YtfdfdifjkaaeoaaW.PrintLast Go.Proofs.YtfdfdifjkaaeoaaW.PrintMore
attribute [local go_sem] max2_int min2_int max_two min_two max_three min_three max_four min_four
set_option linter.unusedVariables false
set_option linter.unusedSimpArgs false
def impl_corner.l0 : Nat → List (S59) → Int → Int → Int → Int → Option (Int × Int)
 | 0, _, _, _, _, _ => none
 | k + 1, x9, x10, x11, x274000, x274001 => if x11 < x10 then (if 0 ≤ x11 then (if x11 < (x9.length : Int) then (impl_corner.l0 k x9 x10 (wrap64 (x11 + 1)) (mn x274000 ((rd_T59 x9 x11).f0)) (mn x274001 ((rd_T59 x9 x11).f1))) else (none)) else (none)) else (some (x274000, x274001))
def impl_corner.f (k : Nat) (l0 : List (S59)) : Option (Int × Int) := if 0 < (l0.length : Int) then (impl_corner.l0 k l0 (l0.length : Int) 0 ((rd_T59 l0 0).f0) ((rd_T59 l0 0).f1)) else (none)
theorem impl_corner.calls (k : Nat) (A0 : Option Addr) (c0 : Nat) (l0 : List (S59)) (r1 : Int) (r2 : Int) (w : World) (hr0 : Kd.C k59 w A0 l0.length l0) (hc0 : l0.length ≤ c0) (h : impl_corner.f k l0 = some (r1, r2)) :
  Calls Try.prog 97 #[.slice A0 l0.length c0] w fun e w' => e = .returned (.agg #[.int .i64 r1, .int .i64 r2]) ∧ Below w.heap.size w w' := by
 have hu59 := Try.underlying59
 have HR0 := aM hr0
 have HC0 := aM hc0
 clear hr0 hc0
 have HB := aM (Below.refl w.heap.size w)
 have H : (if 0 < (l0.length : Int) then (impl_corner.l0 k l0 (l0.length : Int) 0 ((rd_T59 l0 0).f0) ((rd_T59 l0 0).f1)) else (none)) = some (r1, r2) := h
 clear h
 by_cases c2 : 0 < (l0.length : Int)
 rotate_left
 ·rw [if_neg c2] at H
  exact absurd H (by simp)
 rw [if_pos c2] at H
 have c2b0 : decide (0 < (l0.length : Int)) = true := decide_eq_true c2
 have c2b1 : decide (0 < l0.length) = true := decide_eq_true (by omega)
 clear c2
 have H' := aM H
 clear H
 go_enter Try.func97, Try.ntmps97
 go_wp2_with (first | ((with_reducible refine gate_dst (N := 2) rfl ?_); refine zx 2 #[.int .i64 0, .int .i64 0] 59 ?_; intro gb271 hg w3 hbox hb; have n0_ := aM (below_step zb hb); have n1_ := aM (hbox); have n2_ := aM ((ze : w.heap.size ≤ gb271)); have n3_ := aM ((ze : w.heap.size ≤ gb271)); clear HB; have HB := n0_; have BK271 := n1_; have GW271 := n2_; have GE271 := n3_; clear n0_ n1_ n2_ n3_ hb hbox hg; have p272 : 0 ≤ (0 : Int) := (by omega); have q272 : 0 < (l0.length : Int) := of_decide_eq_true za; obtain ⟨ad272, e272, hx272_0, hx272_1⟩ := at_T59 HR0.out 0 p272 q272; cases e272; have qi272 : (0 < l0.length) = True := eq_true (by omega); (try rw [show ((0 : Int)).toNat = 0 from rfl] at hx272_0); (try rw [show 0 * 2 = 0 from rfl] at hx272_0); (try rw [Addr.add_zero'] at hx272_0); (try rw [show ((0 : Int)).toNat = 0 from rfl] at hx272_1); (try rw [show 0 * 2 = 0 from rfl] at hx272_1); (try rw [Addr.add_zero'] at hx272_1); replace hx272_0 := zk HB.out hx272_0; replace hx272_1 := zk HB.out hx272_1; replace p272 := eq_true p272; replace q272 := eq_true q272) | ((with_reducible refine gate_dst (N := 3) rfl ?_); refine zx 3 #[.int .i64 0, .int .i64 0] 59 ?_; intro gb273 hg w4 hbox hb; have n0_ := aM (blk_below (g := gb271) (o := .cells #[.int .i64 0, .int .i64 0] 59 (0, 0)) (mB_ BK271.out) hb); have n1_ := aM (below_step (zs GE271.out) hb); have n2_ := aM (hbox); have n3_ := aM ((zf GE271.out : w.heap.size ≤ gb273)); have n4_ := aM ((zf GE271.out : w.heap.size ≤ gb273)); have n5_ := aM ((zl BK271.out : gb271 ≠ gb273)); have n6_ := aM ((zn BK271.out : gb273 ≠ gb271)); clear BK271 HB; have BK271 := n0_; have HB := n1_; have BK273 := n2_; have GW273 := n3_; have GE273 := n4_; have NB271_273 := n5_; have NB273_271 := n6_; clear n0_ n1_ n2_ n3_ n4_ n5_ n6_ hb hbox hg; have hnb5 := NB273_271.out; have hnc5 := NB271_273.out; have hcz6_0 : w4.cell? ⟨gb273, 0, none⟩ = some (.int .i64 0) := (blk_cell BK273.out 0).trans rfl; have hcz6_1 : w4.cell? ⟨gb273, 1, none⟩ = some (.int .i64 0) := (blk_cell BK273.out 1).trans rfl; have hfz6_0 := blk_frozen BK273.out 0; have hfz6_1 := blk_frozen BK273.out 1))
 go_loopg [11] k (fun kq v11 w' => ∃ (x11_1 : Int) (x274000_1 : Int) (x274001_1 : Int), v11 = .int .i64 x11_1 ∧ Aside0 (impl_corner.l0 kq l0 (l0.length : Int) x11_1 x274000_1 x274001_1 = some (r1, r2)) ∧ Aside0 (kq ≤ k) ∧ Aside0 (w'.heap[gb271]? = some (.cells #[.int .i64 0, .int .i64 0] 59 (0, 0))) ∧ Aside0 (w'.heap[gb273]? = some (.cells #[.int .i64 x274000_1, .int .i64 x274001_1] 59 (0, 0))) ∧ Aside0 (Below w.heap.size w w'))
 case atStart => exact ⟨(0), ((rd_T59 l0 0).f0), ((rd_T59 l0 0).f1), zr, H', ⟨Nat.le_refl _⟩, ⟨by (with_reducible repeat (first | refine blk_drewN ?_ _ | refine blk_drew ?_ | refine blk_alloc ?_ _)); refine blk_far ?_ NB271_273.out _; (with_reducible repeat (first | refine blk_drewN ?_ _ | refine blk_drew ?_ | refine blk_alloc ?_ _)); refine blk_far ?_ NB271_273.out _; (with_reducible repeat (first | refine blk_drewN ?_ _ | refine blk_drew ?_ | refine blk_alloc ?_ _)); exact BK271.out⟩, ⟨by (with_reducible repeat (first | refine blk_drewN ?_ _ | refine blk_drew ?_ | refine blk_alloc ?_ _)); refine blk_put (cs := #[.int .i64 ((rd_T59 l0 0).f0), .int .i64 0]) ?_ 1 _ rfl; (with_reducible repeat (first | refine blk_drewN ?_ _ | refine blk_drew ?_ | refine blk_alloc ?_ _)); refine blk_put (cs := #[.int .i64 0, .int .i64 0]) ?_ 0 _ rfl; (with_reducible repeat (first | refine blk_drewN ?_ _ | refine blk_drew ?_ | refine blk_alloc ?_ _)); exact BK273.out⟩, ⟨zt GE271.out GE273.out⟩⟩
 case round =>
  clear H'
  try clear c2
  try clear c2b0
  try clear c2b1
  try clear p2
  try clear q2
  try clear hx2
  try clear qi2
  try clear c5
  try clear hcz6_0
  try clear hcz6_1
  try clear hfz6_0
  try clear hfz6_1
  try clear hx272_0
  try clear hx272_1
  try clear p272
  try clear q272
  obtain ⟨x11_1, x274000_1, x274001_1, rfl, HA, HK1, BK271, BK273, HB⟩ := hrel
  cases gk with
  | zero => exact absurd HA.out (by simp [impl_corner.l0])
  | succ k1 =>
   have H := HA.out
   clear HA
   simp only [impl_corner.l0] at H
   by_cases c7 : x11_1 < (l0.length : Int)
   rotate_left
   ·rw [if_neg c7] at H
    have c7b0 : decide (x11_1 < (l0.length : Int)) = false := decide_eq_false c7
    clear c7
    simp only [Option.some.injEq, Prod.mk.injEq] at H
    obtain ⟨rfl, rfl⟩ := H
    have hnb18 := NB273_271.out
    have hnc18 := NB271_273.out
    have hcz19_0 : wr.cell? ⟨gb273, 0, none⟩ = some (.int .i64 x274000_1) := (blk_cell BK273.out 0).trans rfl
    have hcz19_1 : wr.cell? ⟨gb273, 1, none⟩ = some (.int .i64 x274001_1) := (blk_cell BK273.out 1).trans rfl
    have hfz19_0 := blk_frozen BK273.out 0
    have hfz19_1 := blk_frozen BK273.out 1
    have hcz20_0 : wr.cell? ⟨gb271, 0, none⟩ = some (.int .i64 0) := (blk_cell BK271.out 0).trans rfl
    have hcz20_1 : wr.cell? ⟨gb271, 1, none⟩ = some (.int .i64 0) := (blk_cell BK271.out 1).trans rfl
    have hfz20_0 := blk_frozen BK271.out 0
    have hfz20_1 := blk_frozen BK271.out 1
    go_wp2
    refine bodyPost_ret (results_cell_row rfl _ _ gb271 59 #[.int .i64 x274000_1, .int .i64 x274001_1] (0, 0) _ rfl (by (with_reducible repeat (first | refine blk_drewN ?_ _ | refine blk_drew ?_ | refine blk_alloc ?_ _)); refine blk_put (cs := #[.int .i64 x274000_1, .int .i64 0]) ?_ 1 _ rfl; (with_reducible repeat (first | refine blk_drewN ?_ _ | refine blk_drew ?_ | refine blk_alloc ?_ _)); refine blk_put (cs := #[.int .i64 0, .int .i64 0]) ?_ 0 _ rfl; (with_reducible repeat (first | refine blk_drewN ?_ _ | refine blk_drew ?_ | refine blk_alloc ?_ _)); exact BK271.out) Try.underlying59 rfl (by kernel_rfl)) rfl ?_
    exact ⟨zw, zt GE271.out GE273.out⟩
   rw [if_pos c7] at H
   have c7b0 : decide (x11_1 < (l0.length : Int)) = true := decide_eq_true c7
   clear c7
   by_cases c8 : 0 ≤ x11_1
   rotate_left
   ·rw [if_neg c8] at H
    exact absurd H (by simp)
   rw [if_pos c8] at H
   have c8b0 : decide (0 ≤ x11_1) = true := decide_eq_true c8
   clear c8
   by_cases c9 : x11_1 < (l0.length : Int)
   rotate_left
   ·rw [if_neg c9] at H
    exact absurd H (by simp)
   rw [if_pos c9] at H
   have c9b0 : decide (x11_1 < (l0.length : Int)) = true := decide_eq_true c9
   clear c9
   obtain ⟨ji10, hji10⟩ : ∃ j_ : Int, (mn x274000_1 ((rd_T59 l0 x11_1).f0)) = j_ := ⟨_, rfl⟩
   replace H : (impl_corner.l0 k1 l0 (l0.length : Int) (wrap64 (x11_1 + 1)) ji10 (mn x274001_1 ((rd_T59 l0 x11_1).f1))) = some (r1, r2) := by first | (rw [hji10] at H; exact H) | (simp only [hji10] at H ⊢; exact H)
   have hji10_ : (if ((rd_T59 l0 x11_1).f0) < x274000_1 then ((rd_T59 l0 x11_1).f0) else x274000_1) = ji10 := hji10
   obtain ⟨ji11, hji11⟩ : ∃ j_ : Int, (mn x274001_1 ((rd_T59 l0 x11_1).f1)) = j_ := ⟨_, rfl⟩
   replace H : (impl_corner.l0 k1 l0 (l0.length : Int) (wrap64 (x11_1 + 1)) ji10 ji11) = some (r1, r2) := by first | (rw [hji11] at H; exact H) | (simp only [hji11] at H ⊢; exact H)
   have hji11_ : (if ((rd_T59 l0 x11_1).f1) < x274001_1 then ((rd_T59 l0 x11_1).f1) else x274001_1) = ji11 := hji11
   have H' := aM H
   clear H
   have p274 : 0 ≤ (x11_1 : Int) := of_decide_eq_true za
   have q274 : x11_1 < (l0.length : Int) := of_decide_eq_true za
   obtain ⟨ad274, e274, hx274_0, hx274_1⟩ := at_T59 HR0.out x11_1 p274 q274
   obtain rfl : ad272 = ad274 := (by injection e274)
   replace hx274_0 := zk HB.out hx274_0
   replace hx274_1 := zk HB.out hx274_1
   replace p274 := eq_true p274
   replace q274 := eq_true q274
   go_wp2_with (first | ((with_reducible refine gate_dst (N := 5) rfl ?_); refine zx 5 #[.int .i64 0, .int .i64 0] 59 ?_; intro gb275 hg w12 hbox hb; have n0_ := aM (blk_below (g := gb271) (o := .cells #[.int .i64 0, .int .i64 0] 59 (0, 0)) (mB_ BK271.out) hb); have n1_ := aM (blk_below (g := gb273) (o := .cells #[.int .i64 x274000_1, .int .i64 x274001_1] 59 (0, 0)) (mB_ BK273.out) hb); have n2_ := aM (below_step (zt GE271.out GE273.out) hb); have n3_ := aM (hbox); have n4_ := aM ((by rw [hg]; exact (below_size (zt GE271.out GE273.out)) : w.heap.size ≤ gb275)); have n5_ := aM ((by rw [hg]; exact (below_size (zt GE271.out GE273.out)) : w.heap.size ≤ gb275)); have n6_ := aM ((zl BK271.out : gb271 ≠ gb275)); have n7_ := aM ((zn BK271.out : gb275 ≠ gb271)); have n8_ := aM ((zl BK273.out : gb273 ≠ gb275)); have n9_ := aM ((zn BK273.out : gb275 ≠ gb273)); clear BK271 BK273 HB; have BK271 := n0_; have BK273 := n1_; have HB := n2_; have BK275 := n3_; have GW275 := n4_; have GE275 := n5_; have NB271_275 := n6_; have NB275_271 := n7_; have NB273_275 := n8_; have NB275_273 := n9_; clear n0_ n1_ n2_ n3_ n4_ n5_ n6_ n7_ n8_ n9_ hb hbox hg; have hnb13 := NB275_271.out; have hnc13 := NB271_275.out; have hnb14 := NB275_273.out; have hnc14 := NB273_275.out; have hcz15_0 : w12.cell? ⟨gb275, 0, none⟩ = some (.int .i64 0) := (blk_cell BK275.out 0).trans rfl; have hcz15_1 : w12.cell? ⟨gb275, 1, none⟩ = some (.int .i64 0) := (blk_cell BK275.out 1).trans rfl; have hfz15_0 := blk_frozen BK275.out 0; have hfz15_1 := blk_frozen BK275.out 1; have hnb16 := NB273_271.out; have hnc16 := NB271_273.out; have hcz17_0 : w12.cell? ⟨gb273, 0, none⟩ = some (.int .i64 x274000_1) := (blk_cell BK273.out 0).trans rfl; have hcz17_1 : w12.cell? ⟨gb273, 1, none⟩ = some (.int .i64 x274001_1) := (blk_cell BK273.out 1).trans rfl; have hfz17_0 := blk_frozen BK273.out 0; have hfz17_1 := blk_frozen BK273.out 1))
   go_roundg k1
   case measure => have := HK1.out; omega
   case rel => exact ⟨(wrap64 (x11_1 + 1)), (ji10), (ji11), zr, H', ⟨by have := HK1.out; omega⟩, ⟨by (with_reducible repeat (first | refine blk_drewN ?_ _ | refine blk_drew ?_ | refine blk_alloc ?_ _)); refine blk_far ?_ NB271_273.out _; (with_reducible repeat (first | refine blk_drewN ?_ _ | refine blk_drew ?_ | refine blk_alloc ?_ _)); refine blk_far ?_ NB271_273.out _; (with_reducible repeat (first | refine blk_drewN ?_ _ | refine blk_drew ?_ | refine blk_alloc ?_ _)); refine blk_far ?_ NB271_275.out _; (with_reducible repeat (first | refine blk_drewN ?_ _ | refine blk_drew ?_ | refine blk_alloc ?_ _)); refine blk_far ?_ NB271_275.out _; (with_reducible repeat (first | refine blk_drewN ?_ _ | refine blk_drew ?_ | refine blk_alloc ?_ _)); exact BK271.out⟩, ⟨by (with_reducible repeat (first | refine blk_drewN ?_ _ | refine blk_drew ?_ | refine blk_alloc ?_ _)); refine blk_put (cs := #[.int .i64 ji10, .int .i64 x274001_1]) ?_ 1 _ rfl; (with_reducible repeat (first | refine blk_drewN ?_ _ | refine blk_drew ?_ | refine blk_alloc ?_ _)); refine blk_put (cs := #[.int .i64 x274000_1, .int .i64 x274001_1]) ?_ 0 _ rfl; (with_reducible repeat (first | refine blk_drewN ?_ _ | refine blk_drew ?_ | refine blk_alloc ?_ _)); refine blk_far ?_ NB273_275.out _; (with_reducible repeat (first | refine blk_drewN ?_ _ | refine blk_drew ?_ | refine blk_alloc ?_ _)); refine blk_far ?_ NB273_275.out _; (with_reducible repeat (first | refine blk_drewN ?_ _ | refine blk_drew ?_ | refine blk_alloc ?_ _)); exact BK273.out⟩, ⟨by repeat (first | (with_reducible first | exact HB.out | apply below_alloc | apply pw_below_drewN | apply below_drew1 | refine below_set ?_ GE271.out | refine below_set ?_ GE273.out | refine below_set ?_ GE275.out) | exact HB.out)⟩⟩
def impl_moved.l0 : Nat → Int → Int → List (S59) → List (S59) → Int → Int → Option ((List (S59)))
 | 0, _, _, _, _, _, _ => none
 | k + 1, x1, x2, x7, x13, x14, x15 => if x15 < x14 then (if 0 ≤ x15 then (if x15 < (x13.length : Int) then (if x7.length < 8796093022208 then (impl_moved.l0 k x1 x2 (x7 ++ [(⟨wrap64 (((rd_T59 x13 x15).f0) + x1), wrap64 (((rd_T59 x13 x15).f1) + x2)⟩ : S59)]) x13 x14 (wrap64 (x15 + 1))) else (none)) else (none)) else (none)) else (some x7)
def impl_moved.f (k : Nat) (l0 : List (S59)) (a1 : Int) (a2 : Int) : Option ((List (S59))) := if 0 ≤ (l0.length : Int) then (if ((l0.length : Int) : Int).toNat ≤ 17592186044416 then (impl_moved.l0 k a1 a2 (([] : List (S59))) l0 (l0.length : Int) 0) else (none)) else (none)
theorem impl_moved.calls (k : Nat) (A0 : Option Addr) (c0 : Nat) (l0 : List (S59)) (a1 : Int) (a2 : Int) (r : List (S59)) (w : World) (hr0 : Kd.C k59 w A0 l0.length l0) (hc0 : l0.length ≤ c0) (h : impl_moved.f k l0 a1 a2 = some r) :
  Calls Try.prog 127 #[.slice A0 l0.length c0, .int .i64 a1, .int .i64 a2] w fun e w' => ∃ v0_ : Value, e = .returned (v0_) ∧ Kd.R k59 59 w' w.heap.size (fun _ => True) v0_ r ∧ Below w.heap.size w w' := by
 have hu59 := Try.underlying59
 have HR0 := aM hr0
 have HC0 := aM hc0
 clear hr0 hc0
 have HB := aM (Below.refl w.heap.size w)
 have H : (if 0 ≤ (l0.length : Int) then (if ((l0.length : Int) : Int).toNat ≤ 17592186044416 then (impl_moved.l0 k a1 a2 (([] : List (S59))) l0 (l0.length : Int) 0) else (none)) else (none)) = some r := h
 clear h
 by_cases c4 : 0 ≤ (l0.length : Int)
 rotate_left
 ·rw [if_neg c4] at H
  exact absurd H (by simp)
 rw [if_pos c4] at H
 have c4b0 := eq_true c4
 have c4b1 : decide (0 ≤ (l0.length : Int)) = true := decide_eq_true c4
 clear c4
 by_cases c5 : ((l0.length : Int) : Int).toNat ≤ 17592186044416
 rotate_left
 ·rw [if_neg c5] at H
  exact absurd H (by simp)
 rw [if_pos c5] at H
 have c5b0 := eq_true c5
 have c5b1 : decide (((l0.length : Int) : Int).toNat ≤ 17592186044416) = true := decide_eq_true c5
 clear c5
 obtain ⟨y276, hy276⟩ : ∃ y_ : List (S59), y_ = (([] : List (S59))) := ⟨_, rfl⟩
 replace H : (impl_moved.l0 k a1 a2 y276 l0 (l0.length : Int) 0) = some r := zy H hy276
 have Ny276 := aM hy276
 clear hy276
 have H' := aM H
 clear H
 go_enter Try.func127, Try.ntmps127
 go_wp2_with (first | ((with_reducible refine gate_dst (N := 12) rfl ?_); refine Kd.R_make0 k59 _ 59 rfl (N := 12) rfl 24 _ _ rfl (l0.length : Int) rfl rfl Try.underlying24 (.agg #[(.int .i64 0), (.int .i64 0)]) 16 info59 rfl (by decide) (by omega) z59 (ok := fun _ => True) (okp := fun _ => True) (k59_mkM _ _ _ z59 ) (fun _ hk => hk) trivial (of_decide_eq_true za) (Nat.le_trans (Nat.mul_le_mul_right _ (of_decide_eq_true za : (l0.length : Int).toNat ≤ 17592186044416)) (by omega)) (Below.refl _ _) (Nat.le_refl _) ?_; intro v277 w6 ho7 hb hg_ hnew_; clear hg_ hnew_; (first | rw [← Ny276.out] at ho7 | (simp only [Int.reduceToNat] at ho7; rw [← Ny276.out] at ho7)); have n0_ := aM (Kd.R_lower ho7 (below_size zb)); have n1_ := aM (below_step zb hb); clear HB; have HO278 := n0_; have HB := n1_; clear n0_ n1_; clear hb ho7))
 go_loopg [7, 15] k (fun kq v7 v15 w' => ∃ (x7_1 : List (S59)) (x15_1 : Int), v15 = .int .i64 x15_1 ∧ Aside0 (impl_moved.l0 kq a1 a2 x7_1 l0 (l0.length : Int) x15_1 = some r) ∧ Aside0 (kq ≤ k) ∧ Aside0 (Kd.R k59 59 w' w.heap.size (fun _ => True) v7 x7_1) ∧ Aside0 (Below w.heap.size w w'))
 case atStart => exact ⟨(y276), (0), zr, H', ⟨Nat.le_refl _⟩, ⟨mR_ HO278.out⟩, ⟨zb⟩⟩
 case round =>
  clear H'
  try clear c1
  try clear p2
  try clear c4
  try clear c4b0
  try clear c4b1
  try clear c5
  try clear c5b0
  try clear c5b1
  obtain ⟨x7_1, x15_1, rfl, HA, HK1, HO_7, HB⟩ := hrel
  cases gk with
  | zero => exact absurd HA.out (by simp [impl_moved.l0])
  | succ k1 =>
   have H := HA.out
   clear HA
   simp only [impl_moved.l0] at H
   by_cases c8 : x15_1 < (l0.length : Int)
   rotate_left
   ·rw [if_neg c8] at H
    have c8b0 : decide (x15_1 < (l0.length : Int)) = false := decide_eq_false c8
    clear c8
    obtain rfl := Option.some.inj H
    go_wp2
    go_ret
    exact ⟨_, zw, mR_ HO_7.out, zb⟩
   rw [if_pos c8] at H
   have c8b0 : decide (x15_1 < (l0.length : Int)) = true := decide_eq_true c8
   clear c8
   by_cases c9 : 0 ≤ x15_1
   rotate_left
   ·rw [if_neg c9] at H
    exact absurd H (by simp)
   rw [if_pos c9] at H
   have c9b0 : decide (0 ≤ x15_1) = true := decide_eq_true c9
   clear c9
   by_cases c10 : x15_1 < (l0.length : Int)
   rotate_left
   ·rw [if_neg c10] at H
    exact absurd H (by simp)
   rw [if_pos c10] at H
   have c10b0 : decide (x15_1 < (l0.length : Int)) = true := decide_eq_true c10
   clear c10
   by_cases c11 : x7_1.length < 8796093022208
   rotate_left
   ·rw [if_neg c11] at H
    exact absurd H (by simp)
   rw [if_pos c11] at H
   have LMc11 := aM c11
   clear c11
   obtain ⟨y281, hy281⟩ : ∃ y_ : List (S59), y_ = (x7_1 ++ [(⟨wrap64 (((rd_T59 l0 x15_1).f0) + a1), wrap64 (((rd_T59 l0 x15_1).f1) + a2)⟩ : S59)]) := ⟨_, rfl⟩
   replace H : (impl_moved.l0 k1 a1 a2 y281 l0 (l0.length : Int) (wrap64 (x15_1 + 1))) = some r := zy H hy281
   have Ny281 := aM hy281
   clear hy281
   have H' := aM H
   clear H
   have p279 : 0 ≤ (x15_1 : Int) := of_decide_eq_true za
   have q279 : x15_1 < (l0.length : Int) := of_decide_eq_true za
   obtain ⟨ad279, e279, hx279_0, hx279_1⟩ := at_T59 HR0.out x15_1 p279 q279
   cases e279
   replace hx279_0 := zk HB.out hx279_0
   replace hx279_1 := zk HB.out hx279_1
   replace p279 := eq_true p279
   replace q279 := eq_true q279
   go_wp2_with (first | ((with_reducible refine gate_dst (N := 9) rfl ?_); refine zx 9 #[.int .i64 0, .int .i64 0] 59 ?_; intro gb280 hg w12 hbox hb; have n0_ := aM (Kd.R_below (Kd.R_elderB (mR_ HO_7.out) gb280 (Nat.le_of_eq hg.symm)) hb); have n1_ := aM (below_step zb hb); have n2_ := aM (hbox); have n3_ := aM ((ze : w.heap.size ≤ gb280)); have n4_ := aM ((ze : w.heap.size ≤ gb280)); clear HO_7 HB; have HO_7 := n0_; have HB := n1_; have BK280 := n2_; have GW280 := n3_; have GE280 := n4_; clear n0_ n1_ n2_ n3_ n4_ hb hbox hg; have hcz13_0 : w12.cell? ⟨gb280, 0, none⟩ = some (.int .i64 0) := (blk_cell BK280.out 0).trans rfl; have hcz13_1 : w12.cell? ⟨gb280, 1, none⟩ = some (.int .i64 0) := (blk_cell BK280.out 1).trans rfl; have hfz13_0 := blk_frozen BK280.out 0; have hfz13_1 := blk_frozen BK280.out 1) | ((with_reducible refine gate_builtin (b := .append) (xs := #[.tmp 19, .tmp 29]) rfl ?_); at_builtin; refine Kd.R_append k59 (w0 := w) w.heap.size rfl (.tmp 19) (.tmp 29) 24 59 (.agg #[(.int .i64 0), (.int .i64 0)]) 16 rfl Try.underlying24 info59 rfl (by decide) (by omega) u7 x7_1 (⟨wrap64 (((rd_T59 l0 x15_1).f0) + a1), wrap64 (((rd_T59 l0 x15_1).f1) + a2)⟩ : S59) [.int .i64 (wrap64 (((rd_T59 l0 x15_1).f0) + a1)), .int .i64 (wrap64 (((rd_T59 l0 x15_1).f1) + a2))] (fun k_ => k_ ≠ gb280) (fun _ => False) rfl (by first | (go_simp; done) | (go_simp; rfl)) ?aP (fun _ hk => hk.elim) ?aF ?aO ?aB ?aS ?aL ?_; (case aP => exact k59_mkM _ _ _ (⟨wrap64 (((rd_T59 l0 x15_1).f0) + a1), wrap64 (((rd_T59 l0 x15_1).f1) + a2)⟩ : S59)); (case aB => exact (zs GE280.out)); (case aF => exact (fun k_ hk => Kd.freshB (g := gb280) (o := .cells #[.int .i64 ((rd_T59 l0 x15_1).f0), .int .i64 ((rd_T59 l0 x15_1).f1)] 59 (0, 0)) (by (with_reducible repeat (first | refine blk_drewN ?_ _ | refine blk_drew ?_ | refine blk_alloc ?_ _)); refine blk_put (cs := #[.int .i64 ((rd_T59 l0 x15_1).f0), .int .i64 0]) ?_ 1 _ rfl; (with_reducible repeat (first | refine blk_drewN ?_ _ | refine blk_drew ?_ | refine blk_alloc ?_ _)); refine blk_put (cs := #[.int .i64 0, .int .i64 0]) ?_ 0 _ rfl; (with_reducible repeat (first | refine blk_drewN ?_ _ | refine blk_drew ?_ | refine blk_alloc ?_ _)); exact BK280.out) k_ hk)); (case aO => exact (by (with_reducible repeat (first | apply Kd.R_alloc | apply Kd.R_drewN | apply Kd.R_drew)); exact Kd.R_mono (Kd.R_far (p := ⟨gb280, 1, none⟩) (Kd.R_far (p := ⟨gb280, 0, none⟩) (Kd.R_mono HO_7.out (fun k_ hk => (⟨hk, hk.2⟩ : _ ∧ k_ ≠ gb280))) (fun _ hk => hk.2) (.int .i64 ((rd_T59 l0 x15_1).f0))) (fun _ hk => hk.2) (.int .i64 ((rd_T59 l0 x15_1).f1))) (fun _ hk => hk.1.2))); (case aS => exact (below_size (zs GE280.out))); (case aL => have := LMc11.out; omega); intro v282 w14 ho hb hg hat; rw [← Ny281.out] at ho; have n0_ := aM (blk_grown (g := gb280) (o := .cells #[.int .i64 ((rd_T59 l0 x15_1).f0), .int .i64 ((rd_T59 l0 x15_1).f1)] 59 (0, 0)) (by (with_reducible repeat (first | refine blk_drewN ?_ _ | refine blk_drew ?_ | refine blk_alloc ?_ _)); refine blk_put (cs := #[.int .i64 ((rd_T59 l0 x15_1).f0), .int .i64 0]) ?_ 1 _ rfl; (with_reducible repeat (first | refine blk_drewN ?_ _ | refine blk_drew ?_ | refine blk_alloc ?_ _)); refine blk_put (cs := #[.int .i64 0, .int .i64 0]) ?_ 0 _ rfl; (with_reducible repeat (first | refine blk_drewN ?_ _ | refine blk_drew ?_ | refine blk_alloc ?_ _)); exact BK280.out) hg (Kd.R_away HO_7.out (fun _ hk => hk.2))); have n1_ := aM (hb); have n2_ := aM (ho); clear BK280 HB HO_7; have BK280 := n0_; have HB := n1_; have HO283 := n2_; clear n0_ n1_ n2_; clear ho hb hg hat))
   go_roundg k1
   case measure => have := HK1.out; omega
   case rel => exact ⟨(y281), (wrap64 (x15_1 + 1)), zr, H', ⟨by have := HK1.out; omega⟩, ⟨zd0 HO283.out⟩, ⟨zs GE280.out⟩⟩
def impl_normal.f (k : Nat) (l0 : List (S59)) : Option ((List (S59))) := (impl_corner.f k l0).bind fun bt284 => ((impl_moved.f k l0 (wrap64 (-bt284.1)) (wrap64 (-bt284.2))).bind fun t287 => (some t287))
theorem impl_normal.calls (k : Nat) (A0 : Option Addr) (c0 : Nat) (l0 : List (S59)) (r : List (S59)) (w : World) (hr0 : Kd.C k59 w A0 l0.length l0) (hc0 : l0.length ≤ c0) (h : impl_normal.f k l0 = some r) :
  Calls Try.prog 96 #[.slice A0 l0.length c0] w fun e w' => ∃ v0_ : Value, e = .returned (v0_) ∧ Kd.R k59 59 w' w.heap.size (fun _ => True) v0_ r ∧ Below w.heap.size w w' := by
 have hu59 := Try.underlying59
 have HR0 := aM hr0
 have HC0 := aM hc0
 clear hr0 hc0
 have HB := aM (Below.refl w.heap.size w)
 have H : ((impl_corner.f k l0).bind fun bt284 => ((impl_moved.f k l0 (wrap64 (-bt284.1)) (wrap64 (-bt284.2))).bind fun t287 => (some t287))) = some r := h
 clear h
 replace H := Option.bind_eq_some_iff.mp H
 obtain ⟨⟨t284, t285⟩, A20, H⟩ := H
 replace H : ((impl_moved.f k l0 (wrap64 (-t284)) (wrap64 (-t285))).bind fun t287 => (some t287)) = some r := H
 have A2 := aM A20
 clear A20
 replace H := Option.bind_eq_some_iff.mp H
 obtain ⟨t287, A30, H⟩ := H
 replace H : (some t287) = some r := H
 have A3 := aM A30
 clear A30
 obtain rfl := Option.some.inj H
 go_enter Try.func96, Try.ntmps96
 go_wp2_with (first | ((with_reducible refine gate_callee (f := 97) rfl ?_); refine goesL_ (some 5) rfl rfl Try.func97 (by kernel_rfl) rfl #[.slice A0 l0.length c0] rfl zm ?_; (with_reducible refine (impl_corner.calls k _ _ l0 t284 t285 _ ?side1 ?side2 A2.out).mono ?_); (case side1 => repeat (first | exact HR0.out | (with_reducible refine Kd.C_alloc ?_ _) | (with_reducible refine Kd.C_drewN ?_ _) | (with_reducible refine Kd.C_drew ?_))); (case side2 => exact HC0.out); rintro e w4 ⟨rfl, hb⟩; refine ⟨_, rfl, ?_⟩; have n0_ := aM (below_step zb hb); clear HB; have HB := n0_; clear n0_; (try clear hb); (try clear hb2); (try clear hk); (try clear hi)) | ((with_reducible refine gate_dst (N := 3) rfl ?_); refine zx 3 #[.int .i64 0, .int .i64 0] 59 ?_; intro gb286 hg w5 hbox hb; have n0_ := aM (below_step zb hb); have n1_ := aM (hbox); have n2_ := aM ((ze : w.heap.size ≤ gb286)); have n3_ := aM ((ze : w.heap.size ≤ gb286)); clear HB; have HB := n0_; have BK286 := n1_; have GW286 := n2_; have GE286 := n3_; clear n0_ n1_ n2_ n3_ hb hbox hg; have hcz6_0 : w5.cell? ⟨gb286, 0, none⟩ = some (.int .i64 0) := (blk_cell BK286.out 0).trans rfl; have hcz6_1 : w5.cell? ⟨gb286, 1, none⟩ = some (.int .i64 0) := (blk_cell BK286.out 1).trans rfl; have hfz6_0 := blk_frozen BK286.out 0; have hfz6_1 := blk_frozen BK286.out 1) | ((with_reducible refine gate_callee (f := 127) rfl ?_); refine goesL_ (some 13) rfl rfl Try.func127 (by kernel_rfl) rfl #[.slice A0 l0.length c0, .int .i64 (wrap64 (-t284)), .int .i64 (wrap64 (-t285))] rfl zm ?_; (with_reducible refine (impl_moved.calls k _ _ l0 (wrap64 (-t284)) (wrap64 (-t285)) t287 _ ?side1 ?side2 A3.out).mono ?_); (case side1 => exact Kd.C_below HR0.out (zs GE286.out)); (case side2 => exact HC0.out); rintro e w7 ⟨v288, rfl, ho0, hb⟩; refine ⟨_, rfl, ?_⟩; have n0_ := aM (Kd.R_lower (Kd.R_newB ho0 (g := gb286) (o := .cells #[.int .i64 t284, .int .i64 t285] 59 (0, 0)) (by (with_reducible repeat (first | refine blk_drewN ?_ _ | refine blk_drew ?_ | refine blk_alloc ?_ _)); refine blk_put (cs := #[.int .i64 t284, .int .i64 0]) ?_ 1 _ rfl; (with_reducible repeat (first | refine blk_drewN ?_ _ | refine blk_drew ?_ | refine blk_alloc ?_ _)); refine blk_put (cs := #[.int .i64 0, .int .i64 0]) ?_ 0 _ rfl; (with_reducible repeat (first | refine blk_drewN ?_ _ | refine blk_drew ?_ | refine blk_alloc ?_ _)); exact BK286.out)) (below_size (zs GE286.out))); have n1_ := aM (blk_below (g := gb286) (o := .cells #[.int .i64 t284, .int .i64 t285] 59 (0, 0)) (by (with_reducible repeat (first | refine blk_drewN ?_ _ | refine blk_drew ?_ | refine blk_alloc ?_ _)); refine blk_put (cs := #[.int .i64 t284, .int .i64 0]) ?_ 1 _ rfl; (with_reducible repeat (first | refine blk_drewN ?_ _ | refine blk_drew ?_ | refine blk_alloc ?_ _)); refine blk_put (cs := #[.int .i64 0, .int .i64 0]) ?_ 0 _ rfl; (with_reducible repeat (first | refine blk_drewN ?_ _ | refine blk_drew ?_ | refine blk_alloc ?_ _)); exact BK286.out) hb); have n2_ := aM (below_step (zs GE286.out) hb); clear BK286 HB; have HO289 := n0_; have BK286 := n1_; have HB := n2_; clear n0_ n1_ n2_; (try clear hb); (try clear hb2); (try clear hk); (try clear hi); (try clear ho0)))
 go_ret
 exact ⟨_, zw, zd0 HO289.out, zs GE286.out⟩
def impl_Cell_58.f (l0 : List S59) : Option (List S59) := if l0.length ≤ 1000000000000 then some l0 else none
set_option maxHeartbeats 4000000 in
theorem impl_Cell_58.calls (A0 : Option Addr) (c0 : Nat) (l0 : List S59) (r : List S59) (w : World) (hr0 : Kd.C k59 w A0 l0.length l0) (hc0 : l0.length ≤ c0) (h : impl_Cell_58.f l0 = some r) :
    Calls Try.prog 58 #[.slice A0 l0.length c0] w fun e w' => ∃ v0_ : Value, e = .returned (v0_) ∧ Kd.R k59 59 w' w.heap.size (fun _ => True) v0_ r ∧ Below w.heap.size w w' := by
  unfold impl_Cell_58.f at h
  by_cases hl : l0.length ≤ 1000000000000
  · rw [if_pos hl] at h
    obtain rfl := Option.some.inj h
    have q22 : ∀ (w : World) (a : Option Addr) (n c n' c' : Nat), (binOp .eql 24 (.slice a n c) (.slice none n' c')).run Try.prog w = .ok (.bool a.isNone) w := fun w a n c n' c' => Lib.run_eql_slice_nil w _ _ a n c n' c' Try.underlying24
    have u22 : ∀ w, Sem.run Try.prog (underlying 24) w = .ok (TypeDesc.slice 59) w := run_underlying Try.underlying24
    cases A0 with
    | none =>
      have h0 : l0 = [] := by
        refine List.length_eq_zero_iff.1 (Nat.eq_zero_of_not_pos fun hp => ?_)
        obtain ⟨ad, he, _⟩ := hr0.2.2 hp
        cases he
      subst h0
      clear hr0
      go_enter Try.func58, Try.ntmps58
      go_wp2
      go_ret
      exact ⟨_, rfl, Kd.R_nil _ _ _ _ _, Below.refl _ _⟩
    | some ad =>
      obtain ⟨inner, hreps, hcell⟩ := ReadsRow.inner_ hr0
      obtain ⟨i0, hi, hzz⟩ := Option.map_eq_some_iff.1 info59
      simp only [Prod.mk.injEq] at hzz
      obtain ⟨hz0, hz1, hz2⟩ := hzz
      have hil : inner.length = l0.length * 2 := hreps.1
      have h1 : ∀ u ∈ inner, u.oneCell' = true := by
        intro u hu
        obtain ⟨j, hj, e⟩ := List.getElem_of_mem hu
        have hjl : j / 2 < l0.length := by omega
        have hk := hreps.2 (j / 2) l0[j / 2] (List.getElem?_eq_getElem hjl)
        refine k59.K_one hk u ?_
        refine List.mem_of_getElem? (i := j % 2) ?_
        rw [List.getElem?_take_of_lt (show j % 2 < k59.sz from Nat.mod_lt _ (by decide)), List.getElem?_drop]
        rw [show j / 2 * k59.sz + j % 2 = j from by show j / 2 * 2 + j % 2 = j; omega, List.getElem?_eq_getElem hj, e]
      have A := aM hcell
      have HR := aM hreps
      have H1 := aM h1
      clear hr0 hcell hreps h1
      go_enter Try.func58, Try.ntmps58
      go_wp2_with (at_builtin; refine wpList_append_own _ rfl _ _ 24 rfl w.heap.size 59 i0 _ 2 16 Try.underlying24 hi hz0 hz1 hz2 rfl (by decide) _ _ _ rfl (World.ownsRow_made w #[] 0 (Nat.le_refl _) (Nat.zero_le _) (by simp)) ad l0.length c0 inner rfl ?qc1 ?qc2 ?qc3 ?qc4 ?qc5 ?qc6 ?_)
      (try case qc1 => exact hil)
      case qc2 =>
        intro j u hj
        exact Lib.cell?_alloc_some _ (A.out j u hj)
      case qc3 => exact H1.out
      case qc4 => simp only [maxLen]; omega
      case qc5 => omega
      (try case qc6 => simp)
      intro v' w1 hown hgrow hnil
      go_wp2
      go_ret
      have hB : Below w.heap.size w w1 := ((Below.refl _ w).alloc (Nat.le_refl _) _).grown hgrow (by simp) (by intro k hk; simp [Value.ownBlock] at hk; omega)
      refine ⟨v', rfl, ⟨fun _ _ => trivial, inner, (show w1.ownsRow w.heap.size 59 2 v' l0.length inner by simpa using hown), HR.out.1, fun j p hp => ?_⟩, hB⟩
      obtain ⟨c1, c2, e, e1, e2⟩ := HR.out.2 j p hp
      exact ⟨c1, c2, e, e1, e2⟩
  · rw [if_neg hl] at h
    exact absurd h (by simp)
def impl_around.f (a0_0 : Int) (a0_1 : Int) : Option ((List (S59))) := some (([(⟨a0_0, wrap64 (a0_1 - 1)⟩ : S59), (⟨wrap64 (a0_0 - 1), a0_1⟩ : S59), (⟨wrap64 (a0_0 + 1), a0_1⟩ : S59), (⟨a0_0, wrap64 (a0_1 + 1)⟩ : S59)] : List (S59)))
theorem impl_around.calls (a0_0 : Int) (a0_1 : Int) (r : List (S59)) (w : World) (h : impl_around.f a0_0 a0_1 = some r) :
  Calls Try.prog 86 #[.agg #[.int .i64 a0_0, .int .i64 a0_1]] w fun e w' => ∃ v0_ : Value, e = .returned (v0_) ∧ Kd.R k59 59 w' w.heap.size (fun _ => True) v0_ r ∧ Below w.heap.size w w' := by
 have hu59 := Try.underlying59
 have HB := aM (Below.refl w.heap.size w)
 have H : (some (([(⟨a0_0, wrap64 (a0_1 - 1)⟩ : S59), (⟨wrap64 (a0_0 - 1), a0_1⟩ : S59), (⟨wrap64 (a0_0 + 1), a0_1⟩ : S59), (⟨a0_0, wrap64 (a0_1 + 1)⟩ : S59)] : List (S59)))) = some r := h
 clear h
 obtain ⟨y305, hy305⟩ : ∃ y_ : List (S59), y_ = (([(⟨a0_0, wrap64 (a0_1 - 1)⟩ : S59), (⟨wrap64 (a0_0 - 1), a0_1⟩ : S59), (⟨wrap64 (a0_0 + 1), a0_1⟩ : S59), (⟨a0_0, wrap64 (a0_1 + 1)⟩ : S59)] : List (S59))) := ⟨_, rfl⟩
 replace H : (some y305) = some r := zy H hy305
 have Ny305 := aM hy305
 clear hy305
 obtain rfl := Option.some.inj H
 go_enter Try.func86, Try.ntmps86
 go_wp2_with (first | ((with_reducible refine gate_dst (N := 1) rfl ?_); refine zx 1 #[.int .i64 a0_0, .int .i64 a0_1] 59 ?_; intro gb304 hg w2 hbox hb; have n0_ := aM (below_step zb hb); have n1_ := aM (hbox); have n2_ := aM ((ze : w.heap.size ≤ gb304)); have n3_ := aM ((ze : w.heap.size ≤ gb304)); clear HB; have HB := n0_; have BK304 := n1_; have GW304 := n2_; have GE304 := n3_; clear n0_ n1_ n2_ n3_ hb hbox hg; have hcz3_0 : w2.cell? ⟨gb304, 0, none⟩ = some (.int .i64 a0_0) := (blk_cell BK304.out 0).trans rfl; have hcz3_1 : w2.cell? ⟨gb304, 1, none⟩ = some (.int .i64 a0_1) := (blk_cell BK304.out 1).trans rfl; have hfz3_0 := blk_frozen BK304.out 0; have hfz3_1 := blk_frozen BK304.out 1) | ((with_reducible refine gate_dst (N := 27) rfl ?_); refine Kd.R_lit k59 _ 59 ?hg (N := 27) ?hd (xs := ([(⟨a0_0, wrap64 (a0_1 - 1)⟩ : S59), (⟨wrap64 (a0_0 - 1), a0_1⟩ : S59), (⟨wrap64 (a0_0 + 1), a0_1⟩ : S59), (⟨a0_0, wrap64 (a0_1 + 1)⟩ : S59)] : List (S59))) (inner := [.int .i64 a0_0, .int .i64 (wrap64 (a0_1 - 1)), .int .i64 (wrap64 (a0_0 - 1)), .int .i64 a0_1, .int .i64 (wrap64 (a0_0 + 1)), .int .i64 a0_1, .int .i64 a0_0, .int .i64 (wrap64 (a0_1 + 1))]) (ok := fun _ => True) (okp := fun _ => True) ?hr ?hp (fun _ hk => hk) trivial (Below.refl _ _) (Nat.le_refl _) (by simp) ?_; (case hd => rfl); (case hg => rfl); (case hr => first | (go_simp; done) | (go_simp; rfl)); (case hp => exact (Reps.c2 (show Kd.M k59 _ _ _ (⟨a0_0, wrap64 (a0_1 - 1)⟩ : S59) [.int .i64 a0_0, .int .i64 (wrap64 (a0_1 - 1))] from (k59_mkM _ _ _ (⟨a0_0, wrap64 (a0_1 - 1)⟩ : S59) )) (Reps.c2 (show Kd.M k59 _ _ _ (⟨wrap64 (a0_0 - 1), a0_1⟩ : S59) [.int .i64 (wrap64 (a0_0 - 1)), .int .i64 a0_1] from (k59_mkM _ _ _ (⟨wrap64 (a0_0 - 1), a0_1⟩ : S59) )) (Reps.c2 (show Kd.M k59 _ _ _ (⟨wrap64 (a0_0 + 1), a0_1⟩ : S59) [.int .i64 (wrap64 (a0_0 + 1)), .int .i64 a0_1] from (k59_mkM _ _ _ (⟨wrap64 (a0_0 + 1), a0_1⟩ : S59) )) (Reps.c2 (show Kd.M k59 _ _ _ (⟨a0_0, wrap64 (a0_1 + 1)⟩ : S59) [.int .i64 a0_0, .int .i64 (wrap64 (a0_1 + 1))] from (k59_mkM _ _ _ (⟨a0_0, wrap64 (a0_1 + 1)⟩ : S59) )) (Reps.none _ _)))))); intro v306 w4 ho5 hb hg_ hnew_; clear hg_ hnew_; (first | rw [← Ny305.out] at ho5 | (simp only [Int.reduceToNat] at ho5; rw [← Ny305.out] at ho5)); have n0_ := aM (Kd.R_lower (Kd.R_newB ho5 (g := gb304) (o := .cells #[.int .i64 a0_0, .int .i64 a0_1] 59 (0, 0)) (mB_ BK304.out)) (below_size (zs GE304.out))); have n1_ := aM (blk_below (g := gb304) (o := .cells #[.int .i64 a0_0, .int .i64 a0_1] 59 (0, 0)) (mB_ BK304.out) hb); have n2_ := aM (below_step (zs GE304.out) hb); clear BK304 HB; have HO307 := n0_; have BK304 := n1_; have HB := n2_; clear n0_ n1_ n2_; clear hb ho5))
 go_ret
 exact ⟨_, zw, zd0 HO307.out, zs GE304.out⟩
def sortC_lays_ren : Go.Shelf.Ren := ⟨fun | 6 => 100 | 15 => 129 | 14 => 128 | 28 => 151 | 29 => 152 | 20 => 143 | 21 => 144 | 22 => 145 | 23 => 146 | 24 => 147 | 25 => 148 | 26 => 149 | 27 => 150 | 46 => 156 | 47 => 157 | 48 => 158 | 49 => 159 | 50 => 160 | 57 => 169 | n => n, fun | 22 => 24 | 24 => 59 | 25 => 96 | 3 => 3 | 39 => 116 | 0 => 0 | 53 => 134 | 55 => 136 | 4 => 4 | 46 => 128 | 45 => 127 | 50 => 113 | 5 => 5 | 9 => 9 | 66 => 139 | 70 => 143 | 76 => 150 | 77 => 151 | n => n, fun n => n⟩
theorem sortC_lays : SlLaysF0.n6 Try.prog sortC_lays_ren where
  mixed := by kernel_rfl
  f6 := ⟨Try.f100.name, by kernel_rfl, Try.func100.trans (congrArg some (by kernel_rfl))⟩
  f14 := ⟨Try.f128.name, by kernel_rfl, Try.func128.trans (congrArg some (by kernel_rfl))⟩
  f15 := Try.func129.trans (congrArg some (by kernel_rfl))
  f20 := ⟨Try.f143.name, by kernel_rfl, Try.func143.trans (congrArg some (by kernel_rfl))⟩
  f21 := ⟨Try.f144.name, by kernel_rfl, Try.func144.trans (congrArg some (by kernel_rfl))⟩
  f22 := ⟨Try.f145.name, by kernel_rfl, Try.func145.trans (congrArg some (by kernel_rfl))⟩
  f23 := ⟨Try.f146.name, by kernel_rfl, Try.func146.trans (congrArg some (by kernel_rfl))⟩
  f24 := ⟨Try.f147.name, by kernel_rfl, Try.func147.trans (congrArg some (by kernel_rfl))⟩
  f25 := ⟨Try.f148.name, by kernel_rfl, Try.func148.trans (congrArg some (by kernel_rfl))⟩
  f26 := ⟨Try.f149.name, by kernel_rfl, Try.func149.trans (congrArg some (by kernel_rfl))⟩
  f27 := ⟨Try.f150.name, by kernel_rfl, Try.func150.trans (congrArg some (by kernel_rfl))⟩
  f28 := Try.func151.trans (congrArg some (by kernel_rfl))
  f29 := Try.func152.trans (congrArg some (by kernel_rfl))
  f46 := ⟨Try.f156.name, by kernel_rfl, Try.func156.trans (congrArg some (by kernel_rfl))⟩
  f47 := Try.func157.trans (congrArg some (by kernel_rfl))
  f48 := Try.func158.trans (congrArg some (by kernel_rfl))
  f49 := ⟨Try.f159.name, by kernel_rfl, Try.func159.trans (congrArg some (by kernel_rfl))⟩
  f50 := ⟨Try.f160.name, by kernel_rfl, Try.func160.trans (congrArg some (by kernel_rfl))⟩
  f57 := ⟨Try.f169.name, by kernel_rfl, Try.func169.trans (congrArg some (by kernel_rfl))⟩
  t0 := Try.underlying0
  a0 := Try.isAgg0
  z0 := Try.sizeOf0
  v0 := Try.zeroValue0
  t3 := Try.underlying3
  a3 := Try.isAgg3
  z3 := Try.sizeOf3
  v3 := Try.zeroValue3
  t4 := Try.underlying4
  a4 := Try.isAgg4
  z4 := Try.sizeOf4
  v4 := Try.zeroValue4
  t5 := Try.underlying5
  a5 := Try.isAgg5
  z5 := Try.sizeOf5
  v5 := Try.zeroValue5
  t9 := Try.underlying9
  a9 := Try.isAgg9
  z9 := Try.sizeOf9
  v9 := Try.zeroValue9
  t22 := Try.underlying24
  a22 := Try.isAgg24
  z22 := Try.sizeOf24
  v22 := Try.zeroValue24
  t25 := Try.underlying96
  a25 := Try.isAgg96
  z25 := Try.sizeOf96
  v25 := Try.zeroValue96
  t39 := Try.underlying116
  a39 := Try.isAgg116
  z39 := Try.sizeOf116
  v39 := Try.zeroValue116
  t45 := Try.underlying127
  a45 := Try.isAgg127
  z45 := Try.sizeOf127
  v45 := Try.zeroValue127
  t46 := Try.underlying128
  a46 := Try.isAgg128
  z46 := Try.sizeOf128
  v46 := Try.zeroValue128
  t50 := Try.underlying113
  a50 := Try.isAgg113
  z50 := Try.sizeOf113
  v50 := Try.zeroValue113
  t53 := Try.underlying134
  a53 := Try.isAgg134
  z53 := Try.sizeOf134
  v53 := Try.zeroValue134
  t55 := Try.underlying136
  a55 := Try.isAgg136
  z55 := Try.sizeOf136
  v55 := Try.zeroValue136
  t66 := Try.underlying139
  a66 := Try.isAgg139
  z66 := Try.sizeOf139
  v66 := Try.zeroValue139
  t70 := Try.underlying143
  a70 := Try.isAgg143
  z70 := Try.sizeOf143
  v70 := Try.zeroValue143
  t76 := Try.underlying150
  a76 := Try.isAgg150
  z76 := Try.sizeOf150
  v76 := Try.zeroValue150
  t77 := Try.underlying151
  a77 := Try.isAgg151
  z77 := Try.sizeOf151
  v77 := Try.zeroValue151
def cI (a b : Int) : Int := if a < b then -1 else if a > b then 1 else 0
def cmpV (x y : S59) : Int := if cI x.f1 y.f1 = 0 then cI x.f0 y.f0 else cI x.f1 y.f1
open Go.Sort
instance instSortC : Inhabited S59 := ⟨z59⟩
abbrev encC (x : S59) : List Value := [.int .i64 x.f0, .int .i64 x.f1]
theorem putRow_heap (w : World) (g : Nat) (F : Array Value) {cur : Array Value} {e : TypeId} {fr : Nat × Nat} (h : w.heap[g]? = some (.cells cur e fr)) : (Go.Sort.putRow id w g 0 F).heap[g]? = some (.cells (Go.Sort.putCells id 0 F cur) e fr) := by
  unfold Go.Sort.putRow Go.Sort.mapBlock
  rw [Array.getElem?_modify, if_pos rfl, h]
  rfl
theorem putCells_take (F cur : Array Value) (h : F.size ≤ cur.size) : (Go.Sort.putCells id 0 F cur).toList.take F.size = F.toList := by
  apply List.ext_getElem?
  intro i
  by_cases hi : i < F.size
  · rw [List.getElem?_take_of_lt hi]
    simp only [Go.Sort.putCells, Array.getElem?_toList, Array.getElem?_mapIdx]
    rw [Array.getElem?_eq_getElem (show i < cur.size by omega), Array.getElem?_eq_getElem hi, Option.map_some, if_pos (by omega)]
    simp [getElem!_pos F i hi]
  · rw [List.getElem?_eq_none (by simp; omega), List.getElem?_eq_none (by simp; omega)]
theorem own_put {w : World} {base g cap n size : Nat} {e : TypeId} {xs : List Value} (h : w.ownsRow base e size (.slice (some ⟨g, 0, none⟩) n cap) n xs) (F : Array Value) (hF : F.size = n * size) : (Go.Sort.putRow id w g 0 F).ownsRow base e size (.slice (some ⟨g, 0, none⟩) n cap) n F.toList := by
  obtain ⟨h1, h2⟩ := h
  refine ⟨by simpa using hF, ?_⟩
  rcases h2 with ⟨h2, _⟩ | ⟨g', cap', cur, h2, h3, h4, h5, h6, h7, h8⟩
  · cases h2
  · injection h2 with h2 _ h9
    injection h2 with h2
    injection h2 with h2
    subst h2 h9
    refine .inr ⟨g, cap, _, rfl, h3, putRow_heap w g F h4, h5, h6, by simpa [Go.Sort.putCells] using h7, ?_⟩
    rw [← hF]
    exact putCells_take F cur (by rw [hF, h7]; exact Nat.mul_le_mul_right _ h5)
theorem flat_get (d : Array S59) (t : Nat) (ht : t < d.size * 2) : (flatK encC 2 d).toList[t]? = (encC d[t / 2]!)[t % 2]? := by
  have hs : (flatK encC 2 d).size = d.size * 2 := size_flatK _ _ _
  have h := get_flatK encC 2 d t ht
  have ht' : t < (flatK encC 2 d).size := by rw [hs]; exact ht
  rw [Array.getElem?_toList, Array.getElem?_eq_getElem ht', ← getElem!_pos (flatK encC 2 d) t ht', h]
  have hm : t % 2 < (encC d[t / 2]!).length := Nat.mod_lt _ (by decide)
  rw [List.getElem?_eq_getElem hm, getElem!_pos (encC d[t / 2]!) (t % 2) hm]
theorem flat_reps (d : Array S59) (w : World) (base : Nat) (ok : Nat → Prop) : Reps (k59.M w base ok) 2 d.toList (flatK encC 2 d).toList := by
  refine ⟨by simp, fun j p hp => ?_⟩
  have hj : j < d.size := by
    have := List.getElem?_eq_some_iff.1 hp
    obtain ⟨h, _⟩ := this
    simpa using h
  have e : ((flatK encC 2 d).toList.drop (j * 2)).take 2 = encC p := by
    apply List.ext_getElem?
    intro i
    by_cases hi : i < 2
    · rw [List.getElem?_take_of_lt hi, List.getElem?_drop, flat_get d (j * 2 + i) (by omega)]
      have e1 : (j * 2 + i) / 2 = j := by omega
      have e2 : (j * 2 + i) % 2 = i := by omega
      rw [e1, e2]
      have e3 : d[j]! = p := by
        rw [getElem!_pos d j hj]
        rw [Array.getElem?_toList, Array.getElem?_eq_getElem hj] at hp
        exact Option.some.inj hp
      rw [e3]
    · rw [List.getElem?_eq_none (by simp; omega), List.getElem?_eq_none (by simp; omega)]
  rw [e]
  exact ⟨_, _, rfl, rfl, rfl⟩
theorem R_putK {w : World} {base g cap : Nat} {ok : Nat → Prop} {xs : List S59} (h : Kd.R k59 59 w base ok (.slice (some ⟨g, 0, none⟩) xs.length cap) xs) (d : Array S59) (hd : d.size = xs.length) : Kd.R k59 59 (putRowK encC 2 w g 0 d) base ok (.slice (some ⟨g, 0, none⟩) xs.length cap) d.toList := by
  obtain ⟨h1, inner, h2, h3⟩ := h
  have hl : d.toList.length = xs.length := by simpa using hd
  refine ⟨h1, (flatK encC 2 d).toList, ?_, flat_reps d _ _ _⟩
  rw [hl]
  exact own_put h2 _ (by rw [size_flatK, hd]; rfl)
theorem R_holds {w : World} {base g cap : Nat} {ok : Nat → Prop} {xs : List S59} (h : Kd.R k59 59 w base ok (.slice (some ⟨g, 0, none⟩) xs.length cap) xs) : HoldsK encC 2 w g 0 xs.toArray := by
  obtain ⟨h1, inner, ⟨h2, h3⟩, h4, h5⟩ := h
  rcases h3 with ⟨h3, _⟩ | ⟨g', cap', cur, h3, h6, h7, h8, h9, h10, h11⟩
  · cases h3
  · injection h3 with h3 _ h12
    injection h3 with h3
    injection h3 with h3
    subst h3 h12
    intro t ht
    rw [size_flatK] at ht
    have ht2 : t < xs.length * 2 := by simpa using ht
    refine ⟨?_, by rw [Nat.zero_add]; exact blk_frozen h7 t⟩
    rw [Nat.zero_add, blk_cell h7 t]
    have e1 : cur[t]? = inner[t]? := by
      rw [← h11, List.getElem?_take_of_lt (by exact ht2), Array.getElem?_toList]
    have hj : t / 2 < xs.length := by omega
    obtain ⟨c1, c2, hc, hc1, hc2⟩ := h5 (t / 2) xs[t / 2] (List.getElem?_eq_getElem hj)
    have e2 : inner[t]? = (encC xs[t / 2])[t % 2]? := by
      have e3 : ((inner.drop (t / 2 * 2)).take 2)[t % 2]? = inner[t]? := by
        rw [List.getElem?_take_of_lt (Nat.mod_lt _ (by decide)), List.getElem?_drop]
        congr 1
        omega
      rw [← e3]
      have : (inner.drop (t / 2 * 2)).take 2 = encC xs[t / 2] := by
        refine hc.trans ?_
        rw [show c1 = [.int .i64 (xs[t / 2]).f0] from hc1, show c2 = [.int .i64 (xs[t / 2]).f1] from hc2]
        rfl
      rw [this]
    have ht' : t < (flatK encC 2 xs.toArray).size := by rw [size_flatK]; exact ht
    have e4 := flat_get xs.toArray t ht
    rw [Array.getElem?_toList, Array.getElem?_eq_getElem ht'] at e4
    rw [e1, e2]
    have e5 : xs.toArray[t / 2]! = xs[t / 2] := by rw [getElem!_pos xs.toArray (t / 2) (by simpa using hj)]; simp
    rw [e5] at e4
    rw [← e4, getElem!_pos _ t ht']
    rfl
theorem cI_eq (a b : Int) : cmp_Compare_int64.f a b = some (cI a b) := by
  unfold cmp_Compare_int64.f cmp_isNaN_int64.f cI
  simp only [bne_self_eq_false, Option.bind_some, Bool.false_eq_true, if_false]
  split
  · rfl
  · split <;> rfl
theorem cmpV_eq (x y : S59) : impl_compareCells.f x.f0 x.f1 y.f0 y.f1 = some (cmpV x y) := by
  unfold impl_compareCells.f cmpV
  simp only [cI_eq, Option.bind_some]
  split <;> rfl
theorem ltV (x y : S59) : ltOf cmpV x y = decide (x.f1 < y.f1 ∨ x.f1 = y.f1 ∧ x.f0 < y.f0) := by
  unfold ltOf cmpV cI
  rw [Bool.eq_iff_iff]
  rw [decide_eq_true_eq (p := x.f1 < y.f1 ∨ x.f1 = y.f1 ∧ x.f0 < y.f0)]
  constructor
  · intro h
    rw [decide_eq_true_eq] at h
    repeat' split at h
    all_goals omega
  · intro h
    rw [decide_eq_true_eq]
    repeat' split
    all_goals omega
theorem swoV : SWO (ltOf cmpV) where
  irrefl x := by rw [ltV]; simp
  trans x y z h1 h2 := by
    rw [ltV] at *
    simp only [decide_eq_true_eq] at *
    omega
  ntrans x y z h1 h2 := by
    rw [ltV] at *
    simp only [decide_eq_false_iff_not] at *
    omega
theorem antiV (x y : S59) (h1 : ltOf cmpV x y = false) (h2 : ltOf cmpV y x = false) : x = y := by
  rw [ltV] at *
  simp only [decide_eq_false_iff_not] at *
  obtain ⟨a, b⟩ := x
  obtain ⟨c, d⟩ := y
  simp only [S59.mk.injEq]
  simp only at h1 h2
  omega
def sortC (l : List S59) : List S59 := l.mergeSort fun x y => !ltOf cmpV y x
theorem sortW_grown (w : World) (g n : Nat) (d : Array S59) (os : Array Obj) : w.grownBy (sortWorldK encC 2 w g 0 n d os) (some g) := by
  refine ⟨rfl, rfl, rfl, ?_, fun k hk hne => ?_⟩
  · show w.heap.size ≤ ((w.heap.modify g _) ++ os).size
    simp
  · show ((w.heap.modify g _) ++ os)[k]? = w.heap[k]?
    rw [Array.getElem?_append_left (by simpa using hk), Array.getElem?_modify, if_neg]
    intro e
    exact hne (by rw [e])
theorem R_growO {w : World} {base : Nat} {ok : Nat → Prop} {v : Value} {xs : List S59} (h : Kd.R k59 59 w base ok v xs) (os : Array Obj) : Kd.R k59 59 (grow w os) base ok v xs := by
  refine Kd.R_mono (Kd.R_move (Kd.R_bound h) (fun k hk => ?_)) (fun _ hk => hk.1)
  show (w.heap ++ os)[k]? = w.heap[k]?
  rw [Array.getElem?_append_left hk.2.2.1]
def impl_Cell_100__impl_compareCells.f (l0 : List S59) : Option (List S59) := if 0 < l0.length ∧ l0.length < 4611686018427387904 then some (sortC l0) else none
set_option maxHeartbeats 4000000 in
theorem impl_Cell_100__impl_compareCells.calls (P0_ : Nat → Prop) (u9000_ : Value) (l0 : List S59) (r : List S59) (w0 w : World) (hB : Below w0.heap.size w0 w) (ho0 : Kd.R k59 59 w w0.heap.size P0_ u9000_ l0) (h : impl_Cell_100__impl_compareCells.f l0 = some r) :
    Calls Try.prog 100 #[u9000_, .func (.func 101) #[] #[]] w fun e w' => e = .returned (.tuple #[]) ∧ Kd.R k59 59 w' w0.heap.size (fun k_ => (P0_ k_ ∨ w.heap.size ≤ k_)) u9000_ r ∧ Below w0.heap.size w0 w' ∧ Kept w w' (fun k_ => P0_ k_) := by
  unfold impl_Cell_100__impl_compareCells.f at h
  by_cases hl : 0 < l0.length ∧ l0.length < 4611686018427387904
  · rw [if_pos hl] at h
    obtain rfl := Option.some.inj h
    obtain ⟨g, cap, rfl, hbase, hlt, hcells⟩ := Kd.R_form ho0 hl.1
    have hH := R_holds ho0
    have eg : ∀ args w, (callFunc 101 args).run Try.prog w = .ok (.enter 101 args) w := enters_of Try.func101 (by kernel_rfl) rfl
    have hcmp : CmpLays Try.prog 101 #[] encC 2 cmpV g 0 l0.toArray.size w := fun m os dk hdk x y =>
      (impl_compareCells.callsG x.f0 x.f1 y.f0 y.f1 (cmpV x y) _ (cmpV_eq x y)).mono fun _ _ hh => ⟨hh.1, hh.2.gr⟩
    have hcon := AnyQ.slices_SortFunc sortC_lays 2 Try.isAgg59 Try.sizeOf59 encC (fun _ => rfl) (fun x v hv => by simp [encC] at hv; rcases hv with rfl | rfl <;> rfl) cmpV swoV 101 #[] g 0 cap l0.toArray w eg hcmp hH hlt (by simpa using hl.2)
    have hsz : l0.toArray.size = l0.length := by simp
    rw [hsz] at hcon
    refine (show Calls Try.prog 100 #[.slice (some ⟨g, 0, none⟩) l0.length cap, .func (.func 101) #[] #[]] w _ from hcon).mono ?_
    rintro e w' ⟨rfl, d', n, os, hp, hs, rfl⟩
    have hd : d'.size = l0.length := by rw [hp.1]; simp
    have hr : d'.toList = sortC l0 := by
      have := sorted_unique_holds swoV antiV l0.toArray d' (by rw [hsz]; exact hp) (by rw [hsz]; exact hs)
      simpa [sortC] using this
    have hgw := sortW_grown w g n d' os
    refine ⟨rfl, ?_, pw_below_grown hB (some g) hB.size hgw (fun k hk => by injection hk with hk; exact hk ▸ hbase), ?_⟩
    · have h1 : Kd.R k59 59 (Go.Sort.ahead w n) w0.heap.size P0_ (.slice (some ⟨g, 0, none⟩) l0.length cap) l0 := Kd.R_drewN ho0 n
      have h2 := R_growO (R_putK h1 d' hd) os
      rw [hr] at h2
      exact Kd.R_mono h2 (fun _ hk => .inl hk)
    · refine ⟨hgw.size, fun i hi hn => hgw.block i hi ?_⟩
      intro e
      injection e with e
      exact hn (e ▸ ho0.1 g rfl)
  · rw [if_neg hl] at h
    exact absurd h (by simp)
def impl_sorted.f (l0 : List (S59)) : Option ((List (S59))) := (impl_Cell_58.f l0).bind fun t347 => ((impl_Cell_100__impl_compareCells.f t347).bind fun t350 => (some t350))
theorem impl_sorted.calls (A0 : Option Addr) (c0 : Nat) (l0 : List (S59)) (r : List (S59)) (w : World) (hr0 : Kd.C k59 w A0 l0.length l0) (hc0 : l0.length ≤ c0) (h : impl_sorted.f l0 = some r) :
  Calls Try.prog 60 #[.slice A0 l0.length c0] w fun e w' => ∃ v0_ : Value, e = .returned (v0_) ∧ Kd.R k59 59 w' w.heap.size (fun _ => True) v0_ r ∧ Below w.heap.size w w' := by
 have HR0 := aM hr0
 have HC0 := aM hc0
 clear hr0 hc0
 have HB := aM (Below.refl w.heap.size w)
 have H : ((impl_Cell_58.f l0).bind fun t347 => ((impl_Cell_100__impl_compareCells.f t347).bind fun t350 => (some t350))) = some r := h
 clear h
 replace H := Option.bind_eq_some_iff.mp H
 obtain ⟨t347, A20, H⟩ := H
 replace H : ((impl_Cell_100__impl_compareCells.f t347).bind fun t350 => (some t350)) = some r := H
 have A2 := aM A20
 clear A20
 replace H := Option.bind_eq_some_iff.mp H
 obtain ⟨t350, A30, H⟩ := H
 replace H : (some t350) = some r := H
 have A3 := aM A30
 clear A30
 obtain rfl := Option.some.inj H
 go_enter Try.func60, Try.ntmps60
 go_wp2_with (first | ((with_reducible refine gate_callee (f := 58) rfl ?_); refine goesL_ (some 5) rfl rfl Try.func58 (by kernel_rfl) rfl #[.slice A0 l0.length c0] rfl zm ?_; (with_reducible refine (impl_Cell_58.calls _ _ l0 t347 _ ?side1 ?side2 A2.out).mono ?_); (case side1 => repeat (first | exact HR0.out | (with_reducible refine Kd.C_alloc ?_ _) | (with_reducible refine Kd.C_drewN ?_ _) | (with_reducible refine Kd.C_drew ?_))); (case side2 => exact HC0.out); rintro e w4 ⟨v348, rfl, ho0, hb⟩; refine ⟨_, rfl, ?_⟩; have n0_ := aM (Kd.R_lower ho0 (below_size zb)); have n1_ := aM (below_step zb hb); clear HB; have HO349 := n0_; have HB := n1_; clear n0_ n1_; (try clear hb); (try clear hb2); (try clear hk); (try clear hi); (try clear ho0); obtain ⟨Ao5, co5, eo5⟩ := Kd.R_slice HO349.out; subst eo5) | ((with_reducible refine gate_callee (f := 100) rfl ?_); refine goesL_ (some 7) rfl rfl Try.func100 (by kernel_rfl) rfl #[.slice Ao5 t347.length co5, .func (.func 101) #[] #[]] rfl zm ?_; (with_reducible refine (impl_Cell_100__impl_compareCells.calls (fun k_ => some k_ = (.slice Ao5 t347.length co5 : Value).ownBlock) (.slice Ao5 t347.length co5) t347  t350 w _ ?side1 ?side2 A3.out).mono ?_); (case side1 => repeat (first | (with_reducible first | exact HB.out | apply below_alloc | apply pw_below_drewN | apply below_drew1) | exact HB.out)); (case side2 => exact Kd.R_tight rfl HO349.out); rintro e w6 ⟨rfl, hy0, hb, hkp⟩; refine ⟨_, rfl, ?_⟩; have n0_ := aM (Kd.R_reok rfl hy0 (fun k_ e_ => HO349.out.1 k_ e_)); have n1_ := aM (hb); clear HO349 HB; have HO349 := n0_; have HB := n1_; clear n0_ n1_; (try clear hb); (try clear hkp); (try clear hy0)))
 go_ret
 exact ⟨_, zw, mR_ HO349.out, zb⟩
end Go.Proofs.Ytfdfdifjkaaeoaa.F
end
section
namespace Go.Proofs.Ytfdfdifjkaaeoaa.F
open Go.RowKit Go.Proofs.YtfdfdifjkaaeoaaW.PrintWords Go.Proofs.YtfdfdifjkaaeoaaW.PrintLast Go.Proofs.YtfdfdifjkaaeoaaW.PrintMore
attribute [local go_sem] max2_int min2_int max_two min_two max_three min_three max_four min_four
set_option linter.unusedVariables false
set_option linter.unusedSimpArgs false
def impl_shapeCode.f (k : Nat) (l0 : List (S59)) : Option (Int) := (impl_IsShape.f k l0).bind fun t290 => (if t290 = true then ((impl_normal.f k l0).bind fun t291 => ((impl_IsShape.f k t291).bind fun t294 => (if t294 = true then (some 0) else (some 3)))) else (some 1))
theorem impl_shapeCode.calls (k : Nat) (A0 : Option Addr) (c0 : Nat) (l0 : List (S59)) (r : Int) (w : World) (hr0 : Kd.C k59 w A0 l0.length l0) (hc0 : l0.length ≤ c0) (h : impl_shapeCode.f k l0 = some r) :
  Calls Try.prog 57 #[.slice A0 l0.length c0] w fun e w' => e = .returned (.int .i64 r) ∧ Below w.heap.size w w' := by
 have HR0 := aM hr0
 have HC0 := aM hc0
 clear hr0 hc0
 have HB := aM (Below.refl w.heap.size w)
 have H : ((impl_IsShape.f k l0).bind fun t290 => (if t290 = true then ((impl_normal.f k l0).bind fun t291 => ((impl_IsShape.f k t291).bind fun t294 => (if t294 = true then (some 0) else (some 3)))) else (some 1))) = some r := h
 clear h
 replace H := Option.bind_eq_some_iff.mp H
 obtain ⟨t290, A20, H⟩ := H
 replace H : (if t290 = true then ((impl_normal.f k l0).bind fun t291 => ((impl_IsShape.f k t291).bind fun t294 => (if t294 = true then (some 0) else (some 3)))) else (some 1)) = some r := H
 have A2 := aM A20
 clear A20
 by_cases c3 : t290 = true
 rotate_left
 ·replace c3 := Bool.eq_false_iff.mpr c3
  subst c3
  have H1 : (some 1) = some r := by rw [if_neg (show ¬ (false = true) by decide)] at H; exact H
  clear H
  have H := H1
  clear H1
  obtain rfl := Option.some.inj H
  go_enter Try.func57, Try.ntmps57
  go_wp2_with (first | ((with_reducible refine gate_callee (f := 61) rfl ?_); refine goesL_ (some 4) rfl rfl Try.func61 (by kernel_rfl) rfl #[.slice A0 l0.length c0] rfl zm ?_; (with_reducible refine (impl_IsShape.calls k _ _ l0 false _ ?side1 ?side2 A2.out).mono ?_); (case side1 => repeat (first | exact HR0.out | (with_reducible refine Kd.C_alloc ?_ _) | (with_reducible refine Kd.C_drewN ?_ _) | (with_reducible refine Kd.C_drew ?_))); (case side2 => exact HC0.out); rintro e w15 ⟨rfl, hb⟩; refine ⟨_, rfl, ?_⟩; have n0_ := aM (below_step zb hb); clear HB; have HB := n0_; clear n0_; (try clear hb); (try clear hb2); (try clear hk); (try clear hi)))
  go_ret
  exact ⟨zw, zb⟩
 subst c3
 have H1 : ((impl_normal.f k l0).bind fun t291 => ((impl_IsShape.f k t291).bind fun t294 => (if t294 = true then (some 0) else (some 3)))) = some r := by rw [if_pos rfl] at H; exact H
 clear H
 have H := H1
 clear H1
 replace H := Option.bind_eq_some_iff.mp H
 obtain ⟨t291, A40, H⟩ := H
 replace H : ((impl_IsShape.f k t291).bind fun t294 => (if t294 = true then (some 0) else (some 3))) = some r := H
 have A4 := aM A40
 clear A40
 replace H := Option.bind_eq_some_iff.mp H
 obtain ⟨t294, A50, H⟩ := H
 replace H : (if t294 = true then (some 0) else (some 3)) = some r := H
 have A5 := aM A50
 clear A50
 by_cases c6 : t294 = true
 ·subst c6
  have H1 : (some 0) = some r := by rw [if_pos rfl] at H; exact H
  clear H
  have H := H1
  clear H1
  obtain rfl := Option.some.inj H
  go_enter Try.func57, Try.ntmps57
  go_wp2_with (first | ((with_reducible refine gate_callee (f := 61) rfl ?_); refine goesL_ (some 4) rfl rfl Try.func61 (by kernel_rfl) rfl #[.slice A0 l0.length c0] rfl zm ?_; (with_reducible refine (impl_IsShape.calls k _ _ l0 true _ ?side1 ?side2 A2.out).mono ?_); (case side1 => repeat (first | exact HR0.out | (with_reducible refine Kd.C_alloc ?_ _) | (with_reducible refine Kd.C_drewN ?_ _) | (with_reducible refine Kd.C_drew ?_))); (case side2 => exact HC0.out); rintro e w7 ⟨rfl, hb⟩; refine ⟨_, rfl, ?_⟩; have n0_ := aM (below_step zb hb); clear HB; have HB := n0_; clear n0_; (try clear hb); (try clear hb2); (try clear hk); (try clear hi)) | ((with_reducible refine gate_callee (f := 96) rfl ?_); refine goesL_ (some 7) rfl rfl Try.func96 (by kernel_rfl) rfl #[.slice A0 l0.length c0] rfl zm ?_; (with_reducible refine (impl_normal.calls k _ _ l0 t291 _ ?side1 ?side2 A4.out).mono ?_); (case side1 => repeat (first | exact (Kd.C_below HR0.out HB.out) | (with_reducible refine Kd.C_alloc ?_ _) | (with_reducible refine Kd.C_drewN ?_ _) | (with_reducible refine Kd.C_drew ?_))); (case side2 => exact HC0.out); rintro e w8 ⟨v292, rfl, ho0, hb⟩; refine ⟨_, rfl, ?_⟩; have n0_ := aM (Kd.R_lower ho0 (below_size zb)); have n1_ := aM (below_step zb hb); clear HB; have HO293 := n0_; have HB := n1_; clear n0_ n1_; (try clear hb); (try clear hb2); (try clear hk); (try clear hi); (try clear ho0); obtain ⟨Ao9, co9, eo9⟩ := Kd.R_slice HO293.out; subst eo9) | ((with_reducible refine gate_callee (f := 61) rfl ?_); refine goesL_ (some 8) rfl rfl Try.func61 (by kernel_rfl) rfl #[.slice Ao9 t291.length co9] rfl zm ?_; (with_reducible refine (impl_IsShape.calls k _ _ t291 true _ ?side1 ?side2 A5.out).mono ?_); (case side1 => exact zc HO293.out); (case side2 => exact (Kd.R_reads' HO293.out).2.1); rintro e w10 ⟨rfl, hb⟩; refine ⟨_, rfl, ?_⟩; have n0_ := aM (Kd.R_below (mR_ HO293.out) hb); have n1_ := aM (below_step zb hb); clear HO293 HB; have HO293 := n0_; have HB := n1_; clear n0_ n1_; (try clear hb); (try clear hb2); (try clear hk); (try clear hi)))
  go_ret
  exact ⟨zw, zb⟩
 replace c6 := Bool.eq_false_iff.mpr c6
 subst c6
 have H1 : (some 3) = some r := by rw [if_neg (show ¬ (false = true) by decide)] at H; exact H
 clear H
 have H := H1
 clear H1
 obtain rfl := Option.some.inj H
 go_enter Try.func57, Try.ntmps57
 go_wp2_with (first | ((with_reducible refine gate_callee (f := 61) rfl ?_); refine goesL_ (some 4) rfl rfl Try.func61 (by kernel_rfl) rfl #[.slice A0 l0.length c0] rfl zm ?_; (with_reducible refine (impl_IsShape.calls k _ _ l0 true _ ?side1 ?side2 A2.out).mono ?_); (case side1 => repeat (first | exact HR0.out | (with_reducible refine Kd.C_alloc ?_ _) | (with_reducible refine Kd.C_drewN ?_ _) | (with_reducible refine Kd.C_drew ?_))); (case side2 => exact HC0.out); rintro e w11 ⟨rfl, hb⟩; refine ⟨_, rfl, ?_⟩; have n0_ := aM (below_step zb hb); clear HB; have HB := n0_; clear n0_; (try clear hb); (try clear hb2); (try clear hk); (try clear hi)) | ((with_reducible refine gate_callee (f := 96) rfl ?_); refine goesL_ (some 7) rfl rfl Try.func96 (by kernel_rfl) rfl #[.slice A0 l0.length c0] rfl zm ?_; (with_reducible refine (impl_normal.calls k _ _ l0 t291 _ ?side1 ?side2 A4.out).mono ?_); (case side1 => repeat (first | exact (Kd.C_below HR0.out HB.out) | (with_reducible refine Kd.C_alloc ?_ _) | (with_reducible refine Kd.C_drewN ?_ _) | (with_reducible refine Kd.C_drew ?_))); (case side2 => exact HC0.out); rintro e w12 ⟨v292, rfl, ho0, hb⟩; refine ⟨_, rfl, ?_⟩; have n0_ := aM (Kd.R_lower ho0 (below_size zb)); have n1_ := aM (below_step zb hb); clear HB; have HO293 := n0_; have HB := n1_; clear n0_ n1_; (try clear hb); (try clear hb2); (try clear hk); (try clear hi); (try clear ho0); obtain ⟨Ao13, co13, eo13⟩ := Kd.R_slice HO293.out; subst eo13) | ((with_reducible refine gate_callee (f := 61) rfl ?_); refine goesL_ (some 8) rfl rfl Try.func61 (by kernel_rfl) rfl #[.slice Ao13 t291.length co13] rfl zm ?_; (with_reducible refine (impl_IsShape.calls k _ _ t291 false _ ?side1 ?side2 A5.out).mono ?_); (case side1 => exact zc HO293.out); (case side2 => exact (Kd.R_reads' HO293.out).2.1); rintro e w14 ⟨rfl, hb⟩; refine ⟨_, rfl, ?_⟩; have n0_ := aM (Kd.R_below (mR_ HO293.out) hb); have n1_ := aM (below_step zb hb); clear HO293 HB; have HO293 := n0_; have HB := n1_; clear n0_ n1_; (try clear hb); (try clear hb2); (try clear hk); (try clear hi)))
 go_ret
 exact ⟨zw, zb⟩
def impl_isTurn.f (a0 : Int) : Option (Bool) := (impl_within.f a0 0 7).bind fun t546 => (some t546)
theorem impl_isTurn.calls (a0 : Int) (r : Bool) (w : World) (h : impl_isTurn.f a0 = some r) :
  Calls Try.prog 68 #[.int .i64 a0] w fun e w' => e = .returned (.bool r) ∧ Drawn0 w w' := by
 have H : ((impl_within.f a0 0 7).bind fun t546 => (some t546)) = some r := h
 clear h
 replace H := Option.bind_eq_some_iff.mp H
 obtain ⟨t546, A20, H⟩ := H
 replace H : (some t546) = some r := H
 have A2 := aM A20
 clear A20
 obtain rfl := Option.some.inj H
 go_enter Try.func68, Try.ntmps68
 go_wp2_with (first | ((with_reducible refine gate_callee (f := 88) rfl ?_); refine goesL_ (some 4) rfl rfl Try.func88 (by kernel_rfl) rfl #[.int .i64 a0, .int .i64 0, .int .i64 7] rfl zm ?_; (with_reducible refine (impl_within.calls a0 0 7 t546 _ A2.out).mono ?_); rintro e w' ⟨rfl, ⟨nd, rfl⟩⟩; refine ⟨_, rfl, ?_⟩))
 go_ret
 exact ⟨by first | rfl | (simp; done) | (simp [*]; done), by repeat (first | exact Drawn0.refl _ | apply Drawn0.step)⟩
end Go.Proofs.Ytfdfdifjkaaeoaa.F
end
section
namespace Go.Proofs.Ytfdfdifjkaaeoaa.F
open Go.RowKit Go.Proofs.YtfdfdifjkaaeoaaW.PrintWords Go.Proofs.YtfdfdifjkaaeoaaW.PrintLast Go.Proofs.YtfdfdifjkaaeoaaW.PrintMore
attribute [local go_sem] max2_int min2_int max_two min_two max_three min_three max_four min_four
set_option linter.unusedVariables false
set_option linter.unusedSimpArgs false
mutual
def impl_turnCell.j0 : Nat → Int → Int → Int → Option (Int × Int)
 | 0, _, _, _ => none
 | k + 1, x1, x548000, x548001 => impl_turnCell.l0 k (Int.tmod x1 4) 0 x548000 x548001
def impl_turnCell.l0 : Nat → Int → Int → Int → Int → Option (Int × Int)
 | 0, _, _, _, _ => none
 | k + 1, x12, x13, x548000, x548001 => if x13 < x12 then (impl_turnCell.l0 k x12 (wrap64 (x13 + 1)) (wrap64 (-x548001)) x548000) else (some (x548000, x548001))
end
def impl_turnCell.f (k : Nat) (a0_0 : Int) (a0_1 : Int) (a1 : Int) : Option (Int × Int) := if a1 ≥ 4 then (impl_turnCell.j0 k a1 (wrap64 (-a0_0)) a0_1) else (impl_turnCell.j0 k a1 a0_0 a0_1)
theorem impl_turnCell.calls (k : Nat) (a0_0 : Int) (a0_1 : Int) (a1 : Int) (r1 : Int) (r2 : Int) (w : World) (h : impl_turnCell.f k a0_0 a0_1 a1 = some (r1, r2)) :
  Calls Try.prog 108 #[.agg #[.int .i64 a0_0, .int .i64 a0_1], .int .i64 a1] w fun e w' => e = .returned (.agg #[.int .i64 r1, .int .i64 r2]) ∧ Below w.heap.size w w' := by
 have hu59 := Try.underlying59
 have HB := aM (Below.refl w.heap.size w)
 have H : (if a1 ≥ 4 then (impl_turnCell.j0 k a1 (wrap64 (-a0_0)) a0_1) else (impl_turnCell.j0 k a1 a0_0 a0_1)) = some (r1, r2) := h
 clear h
 have HC3 := aM H
 clear H
 go_enter Try.func108, Try.ntmps108
 go_upto_if 6 with (first | ((with_reducible refine gate_dst (N := 2) rfl ?_); refine zx 2 #[.int .i64 a0_0, .int .i64 a0_1] 59 ?_; intro gb547 hg w4 hbox hb; have n0_ := aM (below_step zb hb); have n1_ := aM (hbox); have n2_ := aM ((ze : w.heap.size ≤ gb547)); have n3_ := aM ((ze : w.heap.size ≤ gb547)); clear HB; have HB := n0_; have BK547 := n1_; have GW547 := n2_; have GE547 := n3_; clear n0_ n1_ n2_ n3_; clear hb hbox hg) | ((with_reducible refine gate_dst (N := 4) rfl ?_); refine zx 4 #[.int .i64 0, .int .i64 0] 59 ?_; intro gb548 hg w5 hbox hb; have n0_ := aM (blk_below (g := gb547) (o := .cells #[.int .i64 a0_0, .int .i64 a0_1] 59 (0, 0)) (mB_ BK547.out) hb); have n1_ := aM (below_step (zs GE547.out) hb); have n2_ := aM (hbox); have n3_ := aM ((zf GE547.out : w.heap.size ≤ gb548)); have n4_ := aM ((zf GE547.out : w.heap.size ≤ gb548)); have n5_ := aM ((zl BK547.out : gb547 ≠ gb548)); have n6_ := aM ((zn BK547.out : gb548 ≠ gb547)); clear BK547 HB; have BK547 := n0_; have HB := n1_; have BK548 := n2_; have GW548 := n3_; have GE548 := n4_; have NB547_548 := n5_; have NB548_547 := n6_; clear n0_ n1_ n2_ n3_ n4_ n5_ n6_; clear hb hbox hg))
 (try simp only [Act.put, xA, xB, xC])
 go_cut [] (fun wc => ∃ (kq : Nat) (x548000_2 : Int), Aside0 (impl_turnCell.j0 kq a1 x548000_2 a0_1 = some (r1, r2)) ∧ Aside0 (kq ≤ k) ∧ Aside0 (wc.heap[gb547]? = some (.cells #[.int .i64 x548000_2, .int .i64 a0_1] 59 (0, 0))) ∧ Aside0 (wc.heap[gb548]? = some (.cells #[.int .i64 0, .int .i64 0] 59 (0, 0))) ∧ Aside0 (Below w.heap.size w wc))
 case first =>
  have H := HC3.out
  clear HC3
  by_cases c6 : a1 ≥ 4
  rotate_left
  ·rw [if_neg c6] at H
   have c6b0 : decide (4 ≤ a1) = false := decide_eq_false c6
   clear c6
   (first | rw [c6b0] | (simp only [i64_w, i32_w]; rw [c6b0]) | skip)
   have H' := aM H
   clear H
   go_wp2
   go_meet
   case rel => exact ⟨_, (a0_0), H', ⟨by first | omega | exact Nat.le_refl _⟩, ⟨mB_ BK547.out⟩, ⟨mB_ BK548.out⟩, ⟨zt GE547.out GE548.out⟩⟩
  rw [if_pos c6] at H
  have c6b0 : decide (4 ≤ a1) = true := decide_eq_true c6
  clear c6
  (first | rw [c6b0] | (simp only [i64_w, i32_w]; rw [c6b0]) | skip)
  have H' := aM H
  clear H
  have hnb7 := NB547_548.out
  have hnc7 := NB548_547.out
  have hcz8_0 : w5.cell? ⟨gb547, 0, none⟩ = some (.int .i64 a0_0) := (blk_cell BK547.out 0).trans rfl
  have hcz8_1 : w5.cell? ⟨gb547, 1, none⟩ = some (.int .i64 a0_1) := (blk_cell BK547.out 1).trans rfl
  have hfz8_0 := blk_frozen BK547.out 0
  have hfz8_1 := blk_frozen BK547.out 1
  go_wp2
  go_meet
  case rel => exact ⟨_, (wrap64 (-a0_0)), H', ⟨by first | omega | exact Nat.le_refl _⟩, ⟨by (with_reducible repeat (first | refine blk_drewN ?_ _ | refine blk_drew ?_ | refine blk_alloc ?_ _)); refine blk_put (cs := #[.int .i64 a0_0, .int .i64 a0_1]) ?_ 0 _ rfl; (with_reducible repeat (first | refine blk_drewN ?_ _ | refine blk_drew ?_ | refine blk_alloc ?_ _)); exact BK547.out⟩, ⟨by (with_reducible repeat (first | refine blk_drewN ?_ _ | refine blk_drew ?_ | refine blk_alloc ?_ _)); refine blk_far ?_ NB548_547.out _; (with_reducible repeat (first | refine blk_drewN ?_ _ | refine blk_drew ?_ | refine blk_alloc ?_ _)); exact BK548.out⟩, ⟨zt GE547.out GE548.out⟩⟩
 case rest =>
  clear HC3
  try clear c1
  try clear p2
  try clear c6
  try clear c6b0
  try clear p6
  try clear c7
  try clear hcz8_0
  try clear hcz8_1
  try clear hfz8_0
  try clear hfz8_1
  obtain ⟨kq, x548000_2, HA, HJ2, BK547, BK548, HB⟩ := hcut
  cases kq with
  | zero => exact absurd HA.out (by simp [impl_turnCell.j0])
  | succ kj2 =>
   have H := HA.out
   clear HA
   simp only [impl_turnCell.j0] at H
   have H' := aM H
   clear H
   go_wp2
   go_loopg [13] kj2 (fun kq v13 w' => ∃ (x13_2 : Int) (x548000_2 : Int) (x548001_2 : Int), v13 = .int .i64 x13_2 ∧ Aside0 (impl_turnCell.l0 kq (Int.tmod a1 4) x13_2 x548000_2 x548001_2 = some (r1, r2)) ∧ Aside0 (kq ≤ kj2) ∧ Aside0 (w'.heap[gb547]? = some (.cells #[.int .i64 x548000_2, .int .i64 x548001_2] 59 (0, 0))) ∧ Aside0 (w'.heap[gb548]? = some (.cells #[.int .i64 0, .int .i64 0] 59 (0, 0))) ∧ Aside0 (Below w.heap.size w w'))
   case atStart => exact ⟨(0), (x548000_2), (a0_1), zr, H', ⟨Nat.le_refl _⟩, ⟨mB_ BK547.out⟩, ⟨mB_ BK548.out⟩, ⟨zt GE547.out GE548.out⟩⟩
   case round =>
    clear H'
    try clear c1
    try clear p2
    try clear c6
    try clear c6b0
    try clear p6
    try clear c7
    try clear hcz8_0
    try clear hcz8_1
    try clear hfz8_0
    try clear hfz8_1
    try clear p2
    try clear p6
    obtain ⟨x13_2, x548000_2, x548001_2, rfl, HA, HK2, BK547, BK548, HB⟩ := hrel
    cases gk with
    | zero => exact absurd HA.out (by simp [impl_turnCell.l0])
    | succ k2 =>
     have H := HA.out
     clear HA
     simp only [impl_turnCell.l0] at H
     by_cases c9 : x13_2 < (Int.tmod a1 4)
     ·rw [if_pos c9] at H
      have c9b0 : decide (x13_2 < (Int.tmod a1 4)) = true := decide_eq_true c9
      clear c9
      have H' := aM H
      clear H
      have hnb10 := NB547_548.out
      have hnc10 := NB548_547.out
      have hcz11_0 : wr.cell? ⟨gb547, 0, none⟩ = some (.int .i64 x548000_2) := (blk_cell BK547.out 0).trans rfl
      have hcz11_1 : wr.cell? ⟨gb547, 1, none⟩ = some (.int .i64 x548001_2) := (blk_cell BK547.out 1).trans rfl
      have hfz11_0 := blk_frozen BK547.out 0
      have hfz11_1 := blk_frozen BK547.out 1
      go_wp2
      go_roundg k2
      case measure => have := HJ2.out; have := HK2.out; omega
      case rel => exact ⟨(wrap64 (x13_2 + 1)), (wrap64 (-x548001_2)), (x548000_2), zr, H', ⟨by have := HJ2.out; have := HK2.out; omega⟩, ⟨by (with_reducible repeat (first | refine blk_drewN ?_ _ | refine blk_drew ?_ | refine blk_alloc ?_ _)); refine blk_put (cs := #[.int .i64 (wrap64 (-x548001_2)), .int .i64 x548001_2]) ?_ 1 _ rfl; (with_reducible repeat (first | refine blk_drewN ?_ _ | refine blk_drew ?_ | refine blk_alloc ?_ _)); refine blk_put (cs := #[.int .i64 x548000_2, .int .i64 x548001_2]) ?_ 0 _ rfl; (with_reducible repeat (first | refine blk_drewN ?_ _ | refine blk_drew ?_ | refine blk_alloc ?_ _)); exact BK547.out⟩, ⟨by (with_reducible repeat (first | refine blk_drewN ?_ _ | refine blk_drew ?_ | refine blk_alloc ?_ _)); refine blk_far ?_ NB548_547.out _; (with_reducible repeat (first | refine blk_drewN ?_ _ | refine blk_drew ?_ | refine blk_alloc ?_ _)); refine blk_far ?_ NB548_547.out _; (with_reducible repeat (first | refine blk_drewN ?_ _ | refine blk_drew ?_ | refine blk_alloc ?_ _)); exact BK548.out⟩, ⟨zt GE547.out GE548.out⟩⟩
     rw [if_neg c9] at H
     have c9b0 : decide (x13_2 < (Int.tmod a1 4)) = false := decide_eq_false c9
     clear c9
     simp only [Option.some.injEq, Prod.mk.injEq] at H
     obtain ⟨rfl, rfl⟩ := H
     have hnb12 := NB547_548.out
     have hnc12 := NB548_547.out
     have hcz13_0 : wr.cell? ⟨gb547, 0, none⟩ = some (.int .i64 x548000_2) := (blk_cell BK547.out 0).trans rfl
     have hcz13_1 : wr.cell? ⟨gb547, 1, none⟩ = some (.int .i64 x548001_2) := (blk_cell BK547.out 1).trans rfl
     have hfz13_0 := blk_frozen BK547.out 0
     have hfz13_1 := blk_frozen BK547.out 1
     have hcz14_0 : wr.cell? ⟨gb548, 0, none⟩ = some (.int .i64 0) := (blk_cell BK548.out 0).trans rfl
     have hcz14_1 : wr.cell? ⟨gb548, 1, none⟩ = some (.int .i64 0) := (blk_cell BK548.out 1).trans rfl
     have hfz14_0 := blk_frozen BK548.out 0
     have hfz14_1 := blk_frozen BK548.out 1
     go_wp2
     refine bodyPost_ret (results_cell_row rfl _ _ gb548 59 #[.int .i64 x548000_2, .int .i64 x548001_2] (0, 0) _ rfl (by (with_reducible repeat (first | refine blk_drewN ?_ _ | refine blk_drew ?_ | refine blk_alloc ?_ _)); refine blk_put (cs := #[.int .i64 x548000_2, .int .i64 0]) ?_ 1 _ rfl; (with_reducible repeat (first | refine blk_drewN ?_ _ | refine blk_drew ?_ | refine blk_alloc ?_ _)); refine blk_put (cs := #[.int .i64 0, .int .i64 0]) ?_ 0 _ rfl; (with_reducible repeat (first | refine blk_drewN ?_ _ | refine blk_drew ?_ | refine blk_alloc ?_ _)); exact BK548.out) Try.underlying59 rfl (by kernel_rfl)) rfl ?_
     exact ⟨zw, zt GE547.out GE548.out⟩
def impl_form.l0 : Nat → Int → List (S59) → List (S59) → Int → Int → Option ((List (S59)))
 | 0, _, _, _, _, _ => none
 | k + 1, x1, x5, x11, x12, x13 => if x13 < x12 then (if 0 ≤ x13 then (if x13 < (x11.length : Int) then ((impl_turnCell.f k ((rd_T59 x11 x13).f0) ((rd_T59 x11 x13).f1) x1).bind fun bt554 => (if x5.length < 8796093022208 then (impl_form.l0 k x1 (x5 ++ [(⟨bt554.1, bt554.2⟩ : S59)]) x11 x12 (wrap64 (x13 + 1))) else (none))) else (none)) else (none)) else ((impl_sorted.f x5).bind fun t559 => ((impl_normal.f k t559).bind fun t562 => (some t562)))
end Go.Proofs.Ytfdfdifjkaaeoaa.F
end
